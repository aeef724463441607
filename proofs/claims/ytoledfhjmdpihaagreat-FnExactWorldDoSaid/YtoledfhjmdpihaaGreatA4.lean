/- Rows anew: Clone, Clip. -/
import Derived.Test.YtoledfhjmdpihaaGreatA2
import Derived.Test.YtoledfhjmdpihaaGreatA1
set_option linter.unusedVariables false
set_option linter.unusedSectionVars false
set_option linter.unusedSimpArgs false
namespace Go.Proofs.YtoledfhjmdpihaaGreat
open Go Go.Proofs Go.Proofs.YtoledfhjmdpihaaGreat.VE
attribute [local irreducible] Val Op1 WO WR WA WC seqQ blockQ loopQ retQ
noncomputable def o220x5L7 : Array Oper := cops (cl (cr (cr (cr (cr (codeOf Tryz.f220))))))
noncomputable def r220x5L7 : Run := (.st 0 0 (.st 1 0 (.st 2 0 (.st 3 0 (.st 4 0 (.st 5 0 (.st 6 3 (.st 7 0 .done))))))))
set_option maxHeartbeats 2000000
theorem c_cloneimpl.Seal {L : List Ent} (s : Sl) (xs : List Seal) (h : SliceAt L encSeal s xs) (hl : xs.length ≤ lim) :
    Tri Tryz.prog 164 [s.v] L (fun v L' => ∃ s' es, v = s'.v ∧ Row encSeal 155 s' xs es ∧ L' = es ++ L) := by
  obtain ⟨a, n, c⟩ := s
  refine Tri.of Tryz.func164 rfl rfl Tryz.ntmps164 rfl rfl ?_
  (repeat' (first | refine nX ?_ | (refine nA ?_; intro _) | (refine nW ?_; first | (refine go_append ?_; refine op_appendRow (sl := ⟨_, _, _⟩) (sx := ⟨_, _, _⟩) rfl rfl rfl rfl rfl rfl rfl rfl rfl (Row.nil (T := 155) (E := encSeal)) (by exact kE) ((h.mono (by exact kS))) (by exact kN) ?_; intro sl' es' hrow' hst')) | refine nY ?_ | refine nR ?_ | refine WC_cond rfl (fun hc => ?_) (fun hc => ?_)))
  · have hx : xs = [] := by
      cases xs with
      | nil => rfl
      | cons x r => obtain ⟨b, o, cs, T, fr, h1, _⟩ := h.2.2.2 (by simp); simp_all
    subst hx
    refine ret_ret (by exact kR) ?_; exact ⟨L, SubP.refl _, Sl.nil, [], rfl, Row.nil, rfl⟩
  · refine ret_ret (by exact kR) ?_; exact ⟨es' ++ L, by exact kP, sl', es', rfl, hrow', rfl⟩
theorem c_cloneimpl.Want {L : List Ent} (s : Sl) (xs : List Want) (h : SliceAt L encWant s xs) (hl : xs.length ≤ lim) :
    Tri Tryz.prog 166 [s.v] L (fun v L' => ∃ s' es, v = s'.v ∧ Row encWant 162 s' xs es ∧ L' = es ++ L) := by
  obtain ⟨a, n, c⟩ := s
  refine Tri.of Tryz.func166 rfl rfl Tryz.ntmps166 rfl rfl ?_
  (repeat' (first | refine nX ?_ | (refine nA ?_; intro _) | (refine nW ?_; first | (refine go_append ?_; refine op_appendRow (sl := ⟨_, _, _⟩) (sx := ⟨_, _, _⟩) rfl rfl rfl rfl rfl rfl rfl rfl rfl (Row.nil (T := 162) (E := encWant)) (by exact kE) ((h.mono (by exact kS))) (by exact kN) ?_; intro sl' es' hrow' hst')) | refine nY ?_ | refine nR ?_ | refine WC_cond rfl (fun hc => ?_) (fun hc => ?_)))
  · have hx : xs = [] := by
      cases xs with
      | nil => rfl
      | cons x r => obtain ⟨b, o, cs, T, fr, h1, _⟩ := h.2.2.2 (by simp); simp_all
    subst hx
    refine ret_ret (by exact kR) ?_; exact ⟨L, SubP.refl _, Sl.nil, [], rfl, Row.nil, rfl⟩
  · refine ret_ret (by exact kR) ?_; exact ⟨es' ++ L, by exact kP, sl', es', rfl, hrow', rfl⟩
theorem c_cloneimpl.Cred {L : List Ent} (s : Sl) (xs : List Cred) (h : SliceAt L encCred s xs) (hl : xs.length ≤ lim) :
    Tri Tryz.prog 168 [s.v] L (fun v L' => ∃ s' es, v = s'.v ∧ Row encCred 164 s' xs es ∧ L' = es ++ L) := by
  obtain ⟨a, n, c⟩ := s
  refine Tri.of Tryz.func168 rfl rfl Tryz.ntmps168 rfl rfl ?_
  (repeat' (first | refine nX ?_ | (refine nA ?_; intro _) | (refine nW ?_; first | (refine go_append ?_; refine op_appendRow (sl := ⟨_, _, _⟩) (sx := ⟨_, _, _⟩) rfl rfl rfl rfl rfl rfl rfl rfl rfl (Row.nil (T := 164) (E := encCred)) (by exact kE) ((h.mono (by exact kS))) (by exact kN) ?_; intro sl' es' hrow' hst')) | refine nY ?_ | refine nR ?_ | refine WC_cond rfl (fun hc => ?_) (fun hc => ?_)))
  · have hx : xs = [] := by
      cases xs with
      | nil => rfl
      | cons x r => obtain ⟨b, o, cs, T, fr, h1, _⟩ := h.2.2.2 (by simp); simp_all
    subst hx
    refine ret_ret (by exact kR) ?_; exact ⟨L, SubP.refl _, Sl.nil, [], rfl, Row.nil, rfl⟩
  · refine ret_ret (by exact kR) ?_; exact ⟨es' ++ L, by exact kP, sl', es', rfl, hrow', rfl⟩
theorem c_cloneimpl.Call {L : List Ent} (s : Sl) (xs : List Call) (h : SliceAt L encCall s xs) (hl : xs.length ≤ lim) :
    Tri Tryz.prog 170 [s.v] L (fun v L' => ∃ s' es, v = s'.v ∧ Row encCall 169 s' xs es ∧ L' = es ++ L) := by
  obtain ⟨a, n, c⟩ := s
  refine Tri.of Tryz.func170 rfl rfl Tryz.ntmps170 rfl rfl ?_
  (repeat' (first | refine nX ?_ | (refine nA ?_; intro _) | (refine nW ?_; first | (refine go_append ?_; refine op_appendRow (sl := ⟨_, _, _⟩) (sx := ⟨_, _, _⟩) rfl rfl rfl rfl rfl rfl rfl rfl rfl (Row.nil (T := 169) (E := encCall)) (by exact kE) ((h.mono (by exact kS))) (by exact kN) ?_; intro sl' es' hrow' hst')) | refine nY ?_ | refine nR ?_ | refine WC_cond rfl (fun hc => ?_) (fun hc => ?_)))
  · have hx : xs = [] := by
      cases xs with
      | nil => rfl
      | cons x r => obtain ⟨b, o, cs, T, fr, h1, _⟩ := h.2.2.2 (by simp); simp_all
    subst hx
    refine ret_ret (by exact kR) ?_; exact ⟨L, SubP.refl _, Sl.nil, [], rfl, Row.nil, rfl⟩
  · refine ret_ret (by exact kR) ?_; exact ⟨es' ++ L, by exact kP, sl', es', rfl, hrow', rfl⟩
theorem c_clipimpl.Seal {L : List Ent} (a : Option Addr) (n c : Nat) (h : n ≤ c) : RO Tryz.prog 163 [.slice a n c] L (.slice a n n) := by
  refine Tri.of Tryz.func163 rfl rfl Tryz.ntmps163 rfl rfl ?_
  (repeat' (first | refine nX ?_ | (refine nA ?_; intro _) | refine nY ?_ | refine nR ?_))
  refine ro_ret (by exact kR) (by exact kL) ?_; rfl
theorem c_clipimpl.Want {L : List Ent} (a : Option Addr) (n c : Nat) (h : n ≤ c) : RO Tryz.prog 165 [.slice a n c] L (.slice a n n) := by
  refine Tri.of Tryz.func165 rfl rfl Tryz.ntmps165 rfl rfl ?_
  (repeat' (first | refine nX ?_ | (refine nA ?_; intro _) | refine nY ?_ | refine nR ?_))
  refine ro_ret (by exact kR) (by exact kL) ?_; rfl
theorem c_clipimpl.Cred {L : List Ent} (a : Option Addr) (n c : Nat) (h : n ≤ c) : RO Tryz.prog 167 [.slice a n c] L (.slice a n n) := by
  refine Tri.of Tryz.func167 rfl rfl Tryz.ntmps167 rfl rfl ?_
  (repeat' (first | refine nX ?_ | (refine nA ?_; intro _) | refine nY ?_ | refine nR ?_))
  refine ro_ret (by exact kR) (by exact kL) ?_; rfl
theorem c_clipimpl.Call {L : List Ent} (a : Option Addr) (n c : Nat) (h : n ≤ c) : RO Tryz.prog 169 [.slice a n c] L (.slice a n n) := by
  refine Tri.of Tryz.func169 rfl rfl Tryz.ntmps169 rfl rfl ?_
  (repeat' (first | refine nX ?_ | (refine nA ?_; intro _) | refine nY ?_ | refine nR ?_))
  refine ro_ret (by exact kR) (by exact kL) ?_; rfl
theorem c_clipimpl.Client {L : List Ent} (a : Option Addr) (n c : Nat) (h : n ≤ c) : RO Tryz.prog 95 [.slice a n c] L (.slice a n n) := by
  refine Tri.of Tryz.func95 rfl rfl Tryz.ntmps95 rfl rfl ?_
  (repeat' (first | refine nX ?_ | (refine nA ?_; intro _) | refine nY ?_ | refine nR ?_))
  refine ro_ret (by exact kR) (by exact kL) ?_; rfl
theorem c_clipimpl.Serv {L : List Ent} (a : Option Addr) (n c : Nat) (h : n ≤ c) : RO Tryz.prog 96 [.slice a n c] L (.slice a n n) := by
  refine Tri.of Tryz.func96 rfl rfl Tryz.ntmps96 rfl rfl ?_
  (repeat' (first | refine nX ?_ | (refine nA ?_; intro _) | refine nY ?_ | refine nR ?_))
  refine ro_ret (by exact kR) (by exact kL) ?_; rfl
theorem c_clipimpl.Msg {L : List Ent} (a : Option Addr) (n c : Nat) (h : n ≤ c) : RO Tryz.prog 97 [.slice a n c] L (.slice a n n) := by
  refine Tri.of Tryz.func97 rfl rfl Tryz.ntmps97 rfl rfl ?_
  (repeat' (first | refine nX ?_ | (refine nA ?_; intro _) | refine nY ?_ | refine nR ?_))
  refine ro_ret (by exact kR) (by exact kL) ?_; rfl
theorem eraseIdx_take {X : Type} (xs : List X) (i : Nat) : xs.take i ++ xs.drop (i + 1) = xs.eraseIdx i := (List.eraseIdx_eq_take_drop_succ xs i).symm
theorem c_deleteWant {L0 : List Ent} (s : Sl) (xs : List Want) (es : List Ent) (i : Nat) (h : Row encWant 162 s xs es) (hi : i < xs.length) :
    Tri Tryz.prog 220 [s.v, I i, I (i + 1)] (es ++ L0) (fun v L' => ∃ s' es', v = s'.v ∧ Row encWant 162 s' (xs.eraseIdx i) es' ∧ L' = es' ++ L0) := by
  obtain ⟨a, n, c⟩ := s
  have hn : n = xs.length := h.n
  subst hn
  have hc : xs.length ≤ c := h.1.le_cap
  have hl := h.2
  have h1 := h.take (k := i) (by omega) (by omega)
  have h2 : SliceAt (es ++ L0) encWant _ (xs.drop (i + 1)) := (h.atL (L := es ++ L0) (by exact kS)).drop (k := i + 1) (by omega)
  simp only [lim] at hl
  refine Tri.of Tryz.func220 rfl rfl Tryz.ntmps220 rfl rfl ?_
  (repeat' (first | refine nX ?_ | (refine nA ?_; intro _) | (refine nW ?_; first | (refine go_append ?_; refine op_appendRow (sl := ⟨_, _, _⟩) (sx := ⟨_, _, _⟩) rfl rfl rfl rfl rfl rfl rfl rfl rfl (h1) (by exact kE) (h2) (by (simp only [List.length_take, List.length_drop, lim]; omega)) ?_; intro sl' es' hrow' hst')) | refine nY ?_ | refine WA_alt ?_ ?_ | refine nR ?_ | refine WC_drawL (id := 5) (ops := o220x5L7) r220x5L7 (by kernel_rfl) rfl ?_ | refine WC_condT rfl (by exact kD) ?_ | refine WC_condF rfl (by exact kD) ?_))
  have hn' := hrow'.n
  simp only [List.length_append, List.length_take, List.length_drop] at hn' hst'
  obtain ⟨ha', hc'⟩ := hst' (by omega)
  (repeat' (first | refine nX ?_ | (refine nA ?_; intro _) | (refine nW ?_; first | (refine go_clear ?_; refine op_clearRow (E := encWant) (a := sl'.a) (k := sl'.n) (cap := sl'.c) rfl rfl rfl rfl rfl rfl hrow' (by exact kE) (by omega) (by first | omega | (dsimp only; omega)) ?_; intro es2 hrow2)) | refine nY ?_ | refine WA_alt ?_ ?_ | refine nR ?_ | refine WC_drawL (id := 5) (ops := o220x5L7) r220x5L7 (by kernel_rfl) rfl ?_ | refine WC_condT rfl (by exact kD) ?_ | refine WC_condF rfl (by exact kD) ?_))
  rw [eraseIdx_take] at hrow2
  refine ret_ret (by exact kR) ?_; exact ⟨es2 ++ L0, by exact kP, _, es2, rfl, hrow2, rfl⟩
theorem c_deleteFuncSeal {L0 : List Ent} (s : Sl) (xs : List Seal) (es : List Ent) (f : FuncId) (cap : List Value) (p : Seal → Bool) (h : Row encSeal 155 s xs es) (hf : ∀ x ∈ xs, ∀ L, (∀ e ∈ L0, e ∈ L) → RO Tryz.prog f (.agg (encSeal.cells x).toArray :: cap) L (B (p x))) :
    Tri Tryz.prog 217 [s.v, .func (.func f) [].toArray cap.toArray] (es ++ L0) (fun v L' => ∃ s' es', v = s'.v ∧ Row encSeal 155 s' (xs.filter (fun x => !p x)) es' ∧ L' = es' ++ L0) := by
  obtain ⟨a, n, c⟩ := s
  have hn : n = xs.length := h.n
  subst hn
  have hc : xs.length ≤ c := h.1.le_cap
  have hl := h.2
  simp only [lim] at hl
  have hidx := idx_cases p xs
  refine Tri.of Tryz.func217 rfl rfl Tryz.ntmps217 rfl rfl ?_
  (repeat' (first | refine nX ?_ | (refine nA ?_; intro _) | (refine nW ?_; first | (refine op_call_id ?_; refine op_ro rfl rfl (by exact c_idxFuncimpl.Seal ⟨_, _, _⟩ xs f cap p (h.atL (by exact kS)) (fun x hx => hf x hx _ (by exact kS))) ?_)) | refine nY ?_ | refine nR ?_ | refine WC_cond rfl (fun hc => ?_) (fun hc => ?_)))
  · have hall : ∀ y ∈ xs, p y = false := by
      rcases hidx with ⟨_, h⟩ | ⟨k, y, hk, _⟩
      · exact h
      · simp_all
    have hff : xs.filter (fun x => !p x) = xs := List.filter_eq_self.2 (fun y hy => by simp [hall y hy])
    rw [hff]
    refine ret_ret (by exact kR) ?_; exact ⟨es ++ L0, by exact kP, _, es, rfl, h, rfl⟩
  obtain ⟨i0, y0, hi0, hy0, hp0, hall⟩ : ∃ k y, idx p xs = (k : Nat) ∧ xs[k]? = some y ∧ p y = true ∧ ∀ z ∈ xs.take k, p z = false := by
    rcases hidx with ⟨h, _⟩ | ⟨k, y, h⟩
    · simp_all
    · exact ⟨k, y, h⟩
  rw [hi0]
  have hi1 := (List.getElem?_eq_some_iff.1 hy0).1
  obtain ⟨g, cap', rest, h1, rfl, h3, h4, h5⟩ := h.block (by omega)
  cases h1
  (repeat' (first | refine nX ?_ | (refine nA ?_; intro _) | refine nY ?_ | refine nR ?_))
  refine WC_loop (fun mz Ez Mz => ∃ (j i : Nat) (zs : List Seal), j + mz = xs.length ∧ i < j ∧ zs.length = xs.length ∧ zs.take i = (xs.take j).filter (fun x => !p x) ∧ zs.drop j = xs.drop j ∧ Ez = [(0, .slice (some ⟨g, 0, none⟩) xs.length c), (1, .func (.func f) [].toArray cap.toArray), (5, I i), (6, I j)] ∧ Mz = (g, cellsO (encSeal.row zs ++ rest) 155) :: L0) (xs.length - (i0 + 1)) (by exact kQ) (by exact kL)
    ⟨i0 + 1, i0, xs, by omega, by omega, rfl, ?_, rfl, rfl, rfl⟩ ?_
  · rw [take_next hy0, List.filter_append, List.filter_eq_self.2 (fun z hz => by simp [hall z hz])]
    simp [hp0]
  rintro mz Ez Mz ⟨j, i, zs, hk, hij, hzl, hz1, hz2, rfl, rfl⟩
  rcases Nat.lt_or_ge j xs.length with hlt | hge
  · obtain ⟨y, hy⟩ : ∃ y, xs[j]? = some y := ⟨xs[j], by simp [hlt]⟩
    have hyz : zs[j]? = some y := by
      have e1 : (zs.drop j)[0]? = zs[j]? := by rw [List.getElem?_drop, Nat.add_zero]
      have e2 : (xs.drop j)[0]? = xs[j]? := by rw [List.getElem?_drop, Nat.add_zero]
      rw [← e1, hz2, e2, hy]
    have hrow' := RowC.of_row encSeal zs rest j y hyz
    simp only [Nat.zero_add] at hrow'
    have hfy := hf y (List.mem_of_getElem? hy)
    (repeat' (first | refine nX ?_ | (refine nA ?_; intro _) | (refine nW ?_; first | (refine op_store_id ?_; (refine op_storeRow (E := encSeal) (v := y) rfl rfl rfl rfl (by exact kF) rfl (by omega) ?_)) | (refine op_load_id ?_; refine op_val rfl (by exact val_loadN rfl rfl rfl (by exact kM) (by simp only [Nat.zero_add, Int.toNat_natCast]; exact hrow')) ?_) | refine op_rov rfl rfl rfl (hfy _ (by exact kS)) ?_) | refine nY ?_ | refine nR ?_ | refine WC_condT rfl (by exact kD) ?_ | refine WC_condF rfl (by exact kD) ?_ | refine WC_cond rfl (fun hc => ?_) (fun hc => ?_)))
    · have hpy : p y = false := by simp_all
      exact loopQ_next ⟨mz - 1, _, _, by omega, by exact kQ, by exact kL, j + 1, i + 1, zs.set i y, by omega, by omega, by simp [hzl], (by
        rw [take_next hy, List.filter_append, ← hz1, List.take_set, List.filter_cons_of_pos (by simp [hpy]), List.filter_nil]
        exact set_take (by omega)), (by rw [List.drop_set_of_lt (by omega), drop_next hz2]), rfl, rfl⟩
    · have hpy : p y = true := by simp_all
      exact loopQ_next ⟨mz - 1, _, _, by omega, by exact kQ, by exact kL, j + 1, i, zs, by omega, by omega, hzl, (by
        rw [take_next hy, List.filter_append, ← hz1, List.filter_cons_of_neg (by simp [hpy]), List.filter_nil, List.append_nil]), drop_next hz2, rfl, rfl⟩
  · have hrz : Row encSeal 155 ⟨some ⟨g, 0, none⟩, zs.length, c⟩ zs [(g, cellsO (encSeal.row zs ++ rest) 155)] := Row.mk (by omega) (by rw [hzl]; exact h4) h5 (by rw [hzl]; exact h.2)
    have hri := hrz.take (k := i) (by omega) (by omega)
    (repeat' (first | refine nX ?_ | (refine nA ?_; intro _) | (refine nW ?_; first | (refine go_clear ?_; refine op_clearRow (E := encSeal) (a := some ⟨g, 0, none⟩) (k := i) (cap := c) rfl rfl rfl rfl rfl rfl hri (by exact List.Perm.refl _) (by omega) (by omega) ?_; intro es2 hrow2)) | refine nY ?_ | refine nR ?_ | refine WC_condT rfl (by exact kD) ?_ | refine WC_condF rfl (by exact kD) ?_ | refine WC_cond rfl (fun hc => ?_) (fun hc => ?_)))
    rw [hz1, take_all hge] at hrow2
    refine ret_ret (by exact kR) ?_; exact ⟨es2 ++ L0, by exact kP, _, es2, rfl, hrow2, rfl⟩
end Go.Proofs.YtoledfhjmdpihaaGreat
/- What is remembered. -/
set_option linter.unusedVariables false
set_option linter.unusedSectionVars false
set_option linter.unusedSimpArgs false
namespace Go.Proofs.YtoledfhjmdpihaaGreat
open Go Go.Proofs Go.Proofs.YtoledfhjmdpihaaGreat.VE
attribute [local irreducible] Val Op1 WO WR WA WC seqQ blockQ loopQ retQ
set_option maxHeartbeats 2000000
theorem c_rem1 {L : List Ent} (x : Seal) (b : Nat) (now : Int) (hm : (b, cellsO [I now] 3) ∈ L) (hn : 0 ≤ now ∧ now ≤ 1000) : RO Tryz.prog 216 [sealV x, .pointer (some ⟨b, 0, none⟩)] L (B (fresh x.b now)) := by
  refine Tri.of Tryz.func216 rfl rfl Tryz.ntmps216 rfl rfl ?_
  (repeat' (first | refine nX ?_ | (refine nA ?_; intro _) | (refine nW ?_; first | (refine op_call_id ?_; refine op_ro rfl rfl (by exact c_within _ _ _) ?_)) | refine nY ?_ | refine nR ?_))
  refine ro_ret (by exact kR) (by exact kL) ?_; rfl
theorem c_rem2 {L : List Ent} (x : Seal) (b b2 : Nat) (now : Int) (hm : (b, cellsO [I now] 3) ∈ L) (hm2 : (b2, cellsO [.func (.func 216) [].toArray [.pointer (some ⟨b, 0, none⟩)].toArray] 166) ∈ L) (hn : 0 ≤ now ∧ now ≤ 1000) :
    RO Tryz.prog 218 [sealV x, .pointer (some ⟨b2, 0, none⟩)] L (B (!fresh x.b now)) := by
  refine Tri.of Tryz.func218 rfl rfl Tryz.ntmps218 rfl rfl ?_
  (repeat' (first | refine nX ?_ | (refine nA ?_; intro _) | (refine nW ?_; first | refine op_rov rfl rfl rfl (c_rem1 _ _ _ (by exact kM) hn) ?_) | refine nY ?_ | refine nR ?_))
  refine ro_ret (by exact kR) (by exact kL) ?_; rfl
theorem c_remember {L : List Ent} (s : Sl) (cache : List Seal) (auth : Seal) (now : Int) (h : SliceAt L encSeal s cache) (hl : cache.length ≤ 20) (hn : 0 ≤ now ∧ now ≤ 1000) :
    Tri Tryz.prog 207 [s.v, sealV auth, I now] L (fun v L' => ∃ s' es', v = .tuple [s'.v, B (canKeep cache auth now)].toArray ∧ Row encSeal 155 s' (remember cache auth now) es' ∧ L' = es' ++ L) := by
  have hfl : (freshen cache now).length ≤ cache.length := List.length_filter_le _ _
  obtain ⟨a, n, c⟩ := s
  dsimp only [Sl.v]
  refine Tri.of Tryz.func207 rfl rfl Tryz.ntmps207 rfl rfl ?_
  (repeat' (first | refine nX ?_ | (refine nA ?_; intro _) | (refine nW ?_; first | (refine op_call_id ?_; refine op_call rfl (c_cloneimpl.Seal ⟨_, _, _⟩ cache (h.mono (by exact kS)) (by simp only [lim]; omega)) rfl ?_; rintro _ _ ⟨⟨a1, n1, c1⟩, e1, rfl, hr1, rfl⟩) | (refine op_call_id ?_; refine op_call rfl (c_deleteFuncSeal ⟨_, _, _⟩ cache e1 _ _ (fun x => !fresh x.b now) hr1 (fun x _ M hM => c_rem2 x _ _ now (hM _ (by exact kM)) (hM _ (by exact kM)) hn)) rfl ?_; rintro _ _ ⟨⟨a2, n2, c2⟩, e2, rfl, hr2, rfl⟩)) | refine nY ?_ | refine nR ?_))
  have hf : cache.filter (fun x => !(!fresh x.b now)) = freshen cache now := by simp [freshen]
  rw [hf] at hr2
  have hn2 := hr2.n
  dsimp only at hn2
  subst hn2
  (repeat' (first | refine nX ?_ | (refine nA ?_; intro _) | (refine nW ?_; first | (refine op_call_id ?_; refine op_ro rfl rfl (by first | exact c_containsimpl.Seal ⟨_, _, _⟩ (freshen cache now) auth (hr2.atL (by exact kS)) | exact c_clipimpl.Seal _ _ _ hr2.1.le_cap | exact c_clipimpl.Seal _ _ _ hrow'.1.le_cap) ?_) | refine op_rov rfl rfl rfl (c_rem1 _ _ _ (by exact kM) hn) ?_ | (refine go_append ?_; refine op_appendRow (sl := ⟨_, _, _⟩) (sx := ⟨_, _, _⟩) rfl rfl rfl rfl rfl rfl rfl rfl rfl (hr2) (by exact kE) (SliceAt.one (x := auth) (by exact kM) rfl) (by exact kN) ?_; intro sl' es' hrow' hst')) | refine nY ?_ | refine nR ?_ | refine WO_split rfl rfl (fun hg => ?_) (fun hg => ?_) | refine WR_split rfl rfl rfl (fun hg => ?_) (fun hg => ?_) | refine WC_cond rfl (fun hc => ?_) (fun hc => ?_)))
  · have hk : canKeep cache auth now = false := by simp_all [canKeep] <;> omega
    obtain ⟨e3, hs3, hr3⟩ := hr2.clip
    rw [hk, remember, hk]
    refine ret_ret (by exact kR) ?_; exact ⟨e3 ++ L, SubP.trans (M := e2 ++ L) (by exact kP) (hs3 L), ⟨_, _, _⟩, e3, rfl, hr3, rfl⟩
  · have hk : canKeep cache auth now = false := by simp_all [canKeep] <;> omega
    obtain ⟨e3, hs3, hr3⟩ := hr2.clip
    rw [hk, remember, hk]
    refine ret_ret (by exact kR) ?_; exact ⟨e3 ++ L, SubP.trans (M := e2 ++ L) (by exact kP) (hs3 L), ⟨_, _, _⟩, e3, rfl, hr3, rfl⟩
  · have hk : canKeep cache auth now = false := by simp_all [canKeep] <;> omega
    obtain ⟨e3, hs3, hr3⟩ := hr2.clip
    rw [hk, remember, hk]
    refine ret_ret (by exact kR) ?_; exact ⟨e3 ++ L, SubP.trans (M := e2 ++ L) (by exact kP) (hs3 L), ⟨_, _, _⟩, e3, rfl, hr3, rfl⟩
  · have hk : canKeep cache auth now = true := by simp_all [canKeep] <;> omega
    obtain ⟨a3, n3, c3⟩ := sl'
    obtain ⟨e3, hs3, hr3⟩ := hrow'.clip
    rw [hk, remember, hk]
    refine ret_ret (by exact kR) ?_; exact ⟨e3 ++ L, SubP.trans (M := es' ++ L) (by exact kP) (hs3 L), ⟨_, _, _⟩, e3, rfl, hr3, rfl⟩
end Go.Proofs.YtoledfhjmdpihaaGreat
/- What is remembered, by the other. -/
set_option linter.unusedVariables false
set_option linter.unusedSectionVars false
set_option linter.unusedSimpArgs false
namespace Go.Proofs.YtoledfhjmdpihaaGreat
open Go Go.Proofs Go.Proofs.YtoledfhjmdpihaaGreat.VE
attribute [local irreducible] Val Op1 WO WR WA WC seqQ blockQ loopQ retQ
set_option maxHeartbeats 2000000
theorem c_l11With {L : List Ent} (s : Sl) (cache : List Seal) (auth : Seal) (now : Int) (h : SliceAt L encSeal s cache) (hl : cache.length ≤ 20) (hn : 0 ≤ now ∧ now ≤ 1000) (hb : ∀ x ∈ cache, -1000 ≤ x.b ∧ x.b ≤ 1000) (ha : -1000 ≤ auth.b ∧ auth.b ≤ 1000) :
    Tri Tryz.prog 190 [s.v, sealV auth, I now] L (fun v L' => ∃ s' es', v = .tuple [s'.v, B (canKeep cache auth now)].toArray ∧ Row encSeal 155 s' (remember cache auth now) es' ∧ L' = es' ++ L) := by
  obtain ⟨a, n, c⟩ := s
  dsimp only [Sl.v]
  obtain ⟨rfl, hc, hbb, hat⟩ := h
  dsimp only at hc
  refine Tri.of Tryz.func190 rfl rfl Tryz.ntmps190 rfl rfl ?_
  (repeat' (first | refine nX ?_ | (refine nA ?_; intro _) | refine nY ?_ | refine nR ?_))
  rename_i bx b0
  refine WC_loop (fun mz Ez Mz => ∃ (k : Nat) (a2 : Option Addr) (n2 c2 : Nat) (es : List Ent), k + mz = (cache).length ∧ Ez = [(0, .slice a cache.length c), (2, I now), (4, .pointer (some ⟨bx, 0, none⟩)), (8, .slice a2 n2 c2), (9, I k)] ∧ Mz = es ++ ((bx, cellsO (sealC auth) 155) :: L) ∧ (Row encSeal 155 ⟨a2, n2, c2⟩ (freshen (cache.take k) now) es)) (cache).length (by exact kQ) (by exact kL) ⟨0, some ⟨b0, 0, none⟩, 0, 0, [], by omega, rfl, rfl, by exact Row.nil⟩ ?_
  rintro mz Ez Mz ⟨k, a2, n2, c2, es, hk, rfl, rfl, hin⟩
  rcases Nat.lt_or_ge k (cache).length with hlt | hge
  · obtain ⟨y, hy⟩ : ∃ y, (cache)[k]? = some y := ⟨(cache)[k], by simp [hlt]⟩; obtain ⟨b', o, cs, T, fr, rfl, hm, hrow⟩ := hat (by omega); have hrow' := hrow k y hy; have htk := take_next hy
    have hby := hb y (List.mem_of_getElem? hy)
    have hlen : (freshen (cache.take k) now).length ≤ 20 := Nat.le_trans (List.length_filter_le _ _) (by rw [List.length_take]; omega)
    (repeat' (first | refine nX ?_ | (refine nA ?_; intro _) | (refine nW ?_; first | (refine op_call_id ?_; refine op_ro rfl rfl (by exact c_l11Fresh y.b now hby.1 hby.2 (by omega) hn.2) ?_) | (refine go_append ?_; refine op_appendRow (sl := ⟨_, _, _⟩) (sx := ⟨_, _, _⟩) rfl rfl rfl rfl rfl rfl rfl rfl rfl (hin) (by exact kE) (SliceAt.one (x := y) (by exact kM) rfl) (by exact kN) ?_; intro sl' es' hrow' hst')) | refine nY ?_ | refine nR ?_ | refine WC_condT rfl (by exact kD) ?_ | refine WC_condF rfl (by exact kD) ?_ | refine WC_cond rfl (fun hc => ?_) (fun hc => ?_)))
    · obtain ⟨a3, n3, c3⟩ := sl'
      have hf : freshen (cache.take (k + 1)) now = freshen (cache.take k) now ++ [y] := by
        rw [htk]; simp only [freshen, List.filter_append]; rw [List.filter_cons_of_pos (by simp_all)]; rfl
      exact loopQ_next ⟨mz - 1, _, _, by omega, by exact kQ, by exact kL, k + 1, a3, n3, c3, es', by omega, rfl, rfl, by rw [hf]; exact hrow'⟩
    · have hf : freshen (cache.take (k + 1)) now = freshen (cache.take k) now := by
        rw [htk]; simp only [freshen, List.filter_append]; rw [List.filter_cons_of_neg (by simp_all)]; simp
      exact loopQ_next ⟨mz - 1, _, _, by omega, by exact kQ, by exact kL, k + 1, a2, n2, c2, es, by omega, rfl, rfl, by rw [hf]; exact hin⟩
  · rw [take_all hge] at hin
    have hfl : (freshen cache now).length ≤ cache.length := List.length_filter_le _ _
    have hn2 := hin.n
    dsimp only at hn2
    subst hn2
    (repeat' (first | refine nX ?_ | (refine nA ?_; intro _) | (refine nW ?_; first | (refine op_call_id ?_; refine op_ro rfl rfl (by first | exact c_l11Fresh auth.b now ha.1 ha.2 (by omega) hn.2 | exact c_spec.l3Among ⟨_, _, _⟩ (freshen cache now) auth (hin.atL (by exact kS))) ?_) | (refine go_append ?_; refine op_appendRow (sl := ⟨_, _, _⟩) (sx := ⟨_, _, _⟩) rfl rfl rfl rfl rfl rfl rfl rfl rfl (hin) (by exact kE) (SliceAt.one (x := auth) (by exact kM) rfl) (by exact kN) ?_; intro sl' es' hrow' hst')) | refine nY ?_ | refine nR ?_ | refine WO_split rfl rfl (fun hg => ?_) (fun hg => ?_) | refine WR_split rfl rfl rfl (fun hg => ?_) (fun hg => ?_) | refine WC_condT rfl (by exact kD) ?_ | refine WC_condF rfl (by exact kD) ?_ | refine WC_cond rfl (fun hc => ?_) (fun hc => ?_)))
    · have hk : canKeep cache auth now = false := by simp_all [canKeep] <;> omega
      rw [hk, remember, hk]
      refine ret_ret (by exact kR) ?_; exact ⟨es ++ L, by exact kP, ⟨_, _, _⟩, es, rfl, hin, rfl⟩
    · have hk : canKeep cache auth now = false := by simp_all [canKeep] <;> omega
      rw [hk, remember, hk]
      refine ret_ret (by exact kR) ?_; exact ⟨es ++ L, by exact kP, ⟨_, _, _⟩, es, rfl, hin, rfl⟩
    · have hk : canKeep cache auth now = false := by simp_all [canKeep] <;> omega
      rw [hk, remember, hk]
      refine ret_ret (by exact kR) ?_; exact ⟨es ++ L, by exact kP, ⟨_, _, _⟩, es, rfl, hin, rfl⟩
    · have hk : canKeep cache auth now = true := by simp_all [canKeep] <;> omega
      obtain ⟨a3, n3, c3⟩ := sl'
      rw [hk, remember, hk]
      refine ret_ret (by exact kR) ?_; exact ⟨es' ++ L, by exact kP, ⟨_, _, _⟩, es', rfl, hrow', rfl⟩
end Go.Proofs.YtoledfhjmdpihaaGreat
/- Who gives tickets. -/
set_option linter.unusedVariables false
set_option linter.unusedSectionVars false
set_option linter.unusedSimpArgs false
namespace Go.Proofs.YtoledfhjmdpihaaGreat
open Go Go.Proofs Go.Proofs.YtoledfhjmdpihaaGreat.VE
attribute [local irreducible] Val Op1 WO WR WA WC seqQ blockQ loopQ retQ
set_option maxHeartbeats 2000000
/-- What is answered: nothing, or a word with seals of its own. -/
def AnsR (om : Option Msg) (v : Value) (es : List Ent) : Prop := match om with
  | none => v = .tuple [msgV Msg.zero Sl.nil, B false].toArray ∧ es = []
  | some m => ∃ sm : Sl, v = .tuple [msgV m sm, B true].toArray ∧ Row encSeal 155 sm m.seals es
theorem c_give {L0 : List Ent} (b o : Nat) (c : List Value) (T : TypeId) (s : Sl) (k : Kdc) (kind user serv key nonce now til : Int) (ho : o + 2 ≤ c.length) (hk : -1000 ≤ k.next ∧ k.next ≤ 1000) :
    Tri Tryz.prog 205 [.pointer (some ⟨b, o, none⟩), I kind, I user, I serv, I key, I nonce, I now, I til] ((b, cellsO (putC c o [I k.next, s.v]) T) :: L0)
      (fun v L' => ∃ sm em, v = .tuple [msgV (giveMsg k kind user serv key nonce now til) sm, B true].toArray ∧ Row encSeal 155 sm (giveMsg k kind user serv key nonce now til).seals em ∧ L' = em ++ ((b, cellsO (putC c o [I (k.next + 1), s.v]) T) :: L0)) := by
  refine Tri.of Tryz.func205 rfl rfl Tryz.ntmps205 rfl rfl ?_
  (repeat' (first | refine nX ?_ | (refine nA ?_; intro _) | refine nY ?_ | refine nR ?_))
  rename_i b4 b3 b2 b1
  refine ret_ret (by exact kR) ?_; exact ⟨[(b1, _)] ++ ((b, cellsO (putC c o [I (k.next + 1), s.v]) T) :: L0), by exact kP, ⟨_, _, _⟩, _, rfl, Row.lit (xs := (giveMsg k kind user serv key nonce now til).seals) rfl (by simp [giveMsg, lim]), rfl⟩
theorem c_kdcAs {L0 : List Ent} (b o : Nat) (c : List Value) (T : TypeId) (s : Sl) (k : Kdc) (m : Msg) (sm : Sl) (now : Int) (es : List Ent) (ho : o + 2 ≤ c.length) (hk : 10 ≤ k.next ∧ k.next ≤ 61) (hn : 0 ≤ now ∧ now ≤ 100) (hr : Row encSeal 155 s k.cache es) (hm : MsgAt L0 m sm) :
    Tri Tryz.prog 175 [.pointer (some ⟨b, o, none⟩), msgV m sm, I now] ((b, cellsO (putC c o [I k.next, s.v]) T) :: (es ++ L0))
      (fun v L' => ∃ s' es' em, AnsR (kdcAs k m now).2 v em ∧ Row encSeal 155 s' (kdcAs k m now).1.cache es' ∧ L' = em ++ ((b, cellsO (putC c o [I (kdcAs k m now).1.next, s'.v]) T) :: (es' ++ L0))) := by
  refine Tri.of Tryz.func175 rfl rfl Tryz.ntmps175 rfl rfl ?_
  (repeat' (first | refine nX ?_ | (refine nA ?_; intro _) | (refine nW ?_; first | (refine op_call_id ?_; refine op_ro rfl rfl (by exact c_msgOk m sm (hm.mono (by exact kS))) ?_) | (refine op_call_id ?_; refine op_call rfl ((c_give b o c T s k _ _ _ _ _ _ _ ho ⟨by omega, by omega⟩).perm (by exact kF)) rfl ?_; rintro _ _ ⟨sm', em, rfl, hrm, rfl⟩)) | refine nY ?_ | refine nR ?_ | refine WO_split rfl rfl (fun hg => ?_) (fun hg => ?_) | refine WR_split rfl rfl rfl (fun hg => ?_) (fun hg => ?_) | refine WC_cond rfl (fun hc => ?_) (fun hc => ?_)))
  · have he : kdcAs k m now = (k, none) := by simp_all [kdcAs]
    rw [he]
    refine ret_ret (by exact kR) ?_; exact ⟨(b, cellsO (putC c o [I k.next, s.v]) T) :: (es ++ L0), by exact kP, s, es, [], ⟨rfl, rfl⟩, hr, rfl⟩
  · have he : kdcAs k m now = (k, none) := by simp_all [kdcAs]
    rw [he]
    refine ret_ret (by exact kR) ?_; exact ⟨(b, cellsO (putC c o [I k.next, s.v]) T) :: (es ++ L0), by exact kP, s, es, [], ⟨rfl, rfl⟩, hr, rfl⟩
  · have he : kdcAs k m now = (k, none) := by simp_all [kdcAs]
    rw [he]
    refine ret_ret (by exact kR) ?_; exact ⟨(b, cellsO (putC c o [I k.next, s.v]) T) :: (es ++ L0), by exact kP, s, es, [], ⟨rfl, rfl⟩, hr, rfl⟩
  · have he : kdcAs k m now = ({ k with next := k.next + 1 }, some (giveMsg k 2 m.client 6 m.client m.nonce now (if 100 < now + 12 then 100 else now + 12))) := by simp_all [kdcAs]
    rw [he]
    refine ret_ret (by exact kR) ?_; exact ⟨em ++ ((b, cellsO (putC c o [I (k.next + 1), s.v]) T) :: (es ++ L0)), by exact kP, s, es, em, ⟨sm', rfl, hrm⟩, hr, rfl⟩
theorem seals2 {m : Msg} (h : msgOk m = true) (hk : m.kind = 2 ∨ m.kind = 3 ∨ m.kind = 4 ∨ m.kind = 5) : ∃ s0 s1, m.seals = [s0, s1] ∧ sealOk s0 = true ∧ sealOk s1 = true := by
  have hl : m.seals.length = 2 := by
    simp only [msgOk, shaped, Bool.and_eq_true] at h
    rcases hk with hk | hk | hk | hk <;> simp [hk] at h <;> omega
  match hs : m.seals, hl with
  | [s0, s1], _ =>
    refine ⟨s0, s1, rfl, ?_⟩
    simp only [msgOk, Bool.and_eq_true, hs] at h
    simpa using h.2
theorem seals1 {m : Msg} (h : msgOk m = true) (hk : m.kind = 6) : ∃ s0, m.seals = [s0] ∧ sealOk s0 = true := by
  have hl : m.seals.length = 1 := by
    simp only [msgOk, shaped, Bool.and_eq_true] at h
    simp [hk] at h; omega
  match hs : m.seals, hl with
  | [s0], _ =>
    refine ⟨s0, rfl, ?_⟩
    simp only [msgOk, Bool.and_eq_true, hs] at h
    simpa using h.2
theorem read2 {L : List Ent} {sm : Sl} {s0 s1 : Seal} (h : SliceAt L encSeal sm [s0, s1]) : ∃ b o cs T fr c, sm = ⟨some ⟨b, o, none⟩, 2, c⟩ ∧ (b, Obj.cells cs.toArray T fr) ∈ L ∧ takeC cs (o + (0 : Int).toNat * 7) 7 = some (sealC s0) ∧ takeC cs (o + (1 : Int).toNat * 7) 7 = some (sealC s1) := by
  obtain ⟨a, n, c⟩ := sm
  obtain ⟨h1, h2, h3, h4⟩ := h
  obtain ⟨b, o, cs, T, fr, ha, hm, hr⟩ := h4 (by simp)
  replace h1 : n = 2 := h1
  replace ha : a = _ := ha
  subst h1; subst ha
  exact ⟨b, o, cs, T, fr, c, rfl, hm, hr 0 s0 rfl, hr 1 s1 rfl⟩
theorem read1 {L : List Ent} {sm : Sl} {s0 : Seal} (h : SliceAt L encSeal sm [s0]) : ∃ b o cs T fr c, sm = ⟨some ⟨b, o, none⟩, 1, c⟩ ∧ (b, Obj.cells cs.toArray T fr) ∈ L ∧ takeC cs (o + (0 : Int).toNat * 7) 7 = some (sealC s0) := by
  obtain ⟨a, n, c⟩ := sm
  obtain ⟨h1, h2, h3, h4⟩ := h
  obtain ⟨b, o, cs, T, fr, ha, hm, hr⟩ := h4 (by simp)
  replace h1 : n = 1 := h1
  replace ha : a = _ := ha
  subst h1; subst ha
  exact ⟨b, o, cs, T, fr, c, rfl, hm, hr 0 s0 rfl⟩
end Go.Proofs.YtoledfhjmdpihaaGreat
/- Worlds in memory: what is read, and what is one's own. -/
set_option linter.unusedVariables false
set_option linter.unusedSectionVars false
set_option linter.unusedSimpArgs false
namespace Go.Proofs.YtoledfhjmdpihaaGreat
open Go Go.Proofs Go.Proofs.YtoledfhjmdpihaaGreat.VE
attribute [local irreducible] Val Op1 WO WR WA WC seqQ blockQ loopQ retQ

/-- Each of several with what is its own. -/
def All {X : Type} (R : X → List Ent → Prop) : List X → List Ent → Prop
  | [], es => es = []
  | x :: r, es => ∃ e1 e2, es = e1 ++ e2 ∧ R x e1 ∧ All R r e2
theorem All.get {X : Type} {R : X → List Ent → Prop} : ∀ {xs : List X} {es : List Ent} {i : Nat} {x : X}, All R xs es → xs[i]? = some x → ∃ e1 e2, es.Perm (e1 ++ e2) ∧ R x e1 ∧ ∀ x' e1', R x' e1' → ∃ es', All R (xs.set i x') es' ∧ es'.Perm (e1' ++ e2)
  | [], _, _, _, _, h => by simp at h
  | y :: r, _, 0, x, ⟨e1, e2, rfl, hy, hr⟩, h => by
    cases h
    exact ⟨e1, e2, .refl _, hy, fun x' e1' h' => ⟨e1' ++ e2, ⟨e1', e2, rfl, h', hr⟩, .refl _⟩⟩
  | y :: r, _, i + 1, x, ⟨e1, e2, rfl, hy, hr⟩, h => by
    obtain ⟨a, b, hp, hx, hk⟩ := All.get (i := i) hr (by simpa using h)
    refine ⟨a, e1 ++ b, front_app hp, hx, fun x' e1' h' => ?_⟩
    obtain ⟨es', h1, h2⟩ := hk x' e1' h'
    exact ⟨e1 ++ es', ⟨e1, es', rfl, hy, h1⟩, front_app h2⟩
theorem All.snoc {X : Type} {R : X → List Ent → Prop} : ∀ {xs : List X} {es e : List Ent} {x : X}, All R xs es → R x e → All R (xs ++ [x]) (es ++ e)
  | [], _, e, x, h, hx => by
    have h' : _ = [] := h
    subst h'
    exact ⟨e, [], by simp, hx, rfl⟩
  | y :: r, _, e, x, ⟨e1, e2, rfl, hy, hr⟩, hx => ⟨e1, e2 ++ e, by simp, hy, All.snoc hr hx⟩
theorem All.mem {X : Type} {R : X → List Ent → Prop} : ∀ {xs : List X} {es : List Ent} {x : X}, All R xs es → x ∈ xs → ∃ e1, R x e1 ∧ ∀ e ∈ e1, e ∈ es
  | y :: r, _, x, ⟨e1, e2, rfl, hy, hr⟩, h => by
    rcases List.mem_cons.1 h with rfl | h
    · exact ⟨e1, hy, fun e he => List.mem_append_left _ he⟩
    · obtain ⟨e3, h1, h2⟩ := All.mem hr h
      exact ⟨e3, h1, fun e he => List.mem_append_right _ (h2 e he)⟩

structure CSl where
  w : Sl
  c : Sl
  s : Sl
  m : Sl
abbrev CSl.nil : CSl := ⟨Sl.nil, Sl.nil, Sl.nil, Sl.nil⟩
abbrev clientC (c : Client) (s : CSl) : List Value := [I c.id, I c.num, s.w.v, s.c.v, s.s.v, s.m.v]
abbrev clientV (c : Client) (s : CSl) : Value := .agg (clientC c s).toArray
def encClient : Enc (Client × CSl) := ⟨6, fun p => clientC p.1 p.2, fun _ => rfl, fun _ => rfl⟩
def encServ : Enc (Serv × (Sl × Sl)) := ⟨4, fun p => servC p.1 p.2.1 p.2.2, fun _ => rfl, fun _ => rfl⟩
structure WSl where
  kc : Sl
  cs : Sl
  ss : Sl
  ls : Sl
abbrev WSl.nil : WSl := ⟨Sl.nil, Sl.nil, Sl.nil, Sl.nil⟩
abbrev worldC (w : World) (q : WSl) : List Value := [I w.now, I w.kdc.next, q.kc.v, q.cs.v, q.ss.v, q.ls.v, I w.bad]
abbrev worldV (w : World) (q : WSl) : Value := .agg (worldC w q).toArray
abbrev eventC (e : Event) (s : Sl) : List Value := [I e.kind, I e.a, I e.b, I e.msg.kind, I e.msg.client, I e.msg.serv, I e.msg.nonce, s.v]
abbrev eventV (e : Event) (s : Sl) : Value := .agg (eventC e s).toArray
def encEvent : Enc (Event × Sl) := ⟨8, fun p => eventC p.1 p.2, fun _ => rfl, fun _ => rfl⟩

/-! ### Read -/
structure CliAt (L : List Ent) (p : Client × CSl) : Prop where
  w : SliceAt L encWant p.2.w p.1.wants
  c : SliceAt L encCred p.2.c p.1.creds
  s : SliceAt L encCall p.2.s p.1.sent
  m : SliceAt L encCall p.2.m p.1.met
structure SrvAt (L : List Ent) (p : Serv × (Sl × Sl)) : Prop where
  c : SliceAt L encSeal p.2.1 p.1.cache
  t : SliceAt L encCall p.2.2 p.1.took
structure WldAt (L : List Ent) (w : World) (q : WSl) (ps : List (Client × CSl)) (ss : List (Serv × (Sl × Sl))) (ms : List (Msg × Sl)) : Prop where
  kc : SliceAt L encSeal q.kc w.kdc.cache
  pe : ps.map Prod.fst = w.clients
  pr : SliceAt L encClient q.cs ps
  pa : ∀ p ∈ ps, CliAt L p
  se : ss.map Prod.fst = w.servs
  sr : SliceAt L encServ q.ss ss
  sa : ∀ p ∈ ss, SrvAt L p
  me : ms.map Prod.fst = w.log
  mr : SliceAt L encMsg q.ls ms
  ma : ∀ p ∈ ms, MsgAt L p.1 p.2
theorem CliAt.mono {L M : List Ent} {p : Client × CSl} (h : CliAt L p) (hs : ∀ e ∈ L, e ∈ M) : CliAt M p := ⟨h.w.mono hs, h.c.mono hs, h.s.mono hs, h.m.mono hs⟩
theorem SrvAt.mono {L M : List Ent} {p : Serv × (Sl × Sl)} (h : SrvAt L p) (hs : ∀ e ∈ L, e ∈ M) : SrvAt M p := ⟨h.c.mono hs, h.t.mono hs⟩
theorem WldAt.mono {L M : List Ent} {w : World} {q : WSl} {ps : List (Client × CSl)} {ss : List (Serv × (Sl × Sl))} {ms : List (Msg × Sl)} (h : WldAt L w q ps ss ms) (hs : ∀ e ∈ L, e ∈ M) : WldAt M w q ps ss ms :=
  ⟨h.kc.mono hs, h.pe, h.pr.mono hs, fun p hp => (h.pa p hp).mono hs, h.se, h.sr.mono hs, fun p hp => (h.sa p hp).mono hs, h.me, h.mr.mono hs, fun p hp => (h.ma p hp).mono hs⟩

/-! ### One's own -/
def CliOwn (p : Client × CSl) (es : List Ent) : Prop := ∃ e1 e2 e3 e4, es = e1 ++ (e2 ++ (e3 ++ e4)) ∧ Row encWant 162 p.2.w p.1.wants e1 ∧ Row encCred 164 p.2.c p.1.creds e2 ∧ Row encCall 169 p.2.s p.1.sent e3 ∧ Row encCall 169 p.2.m p.1.met e4
def SrvOwn (p : Serv × (Sl × Sl)) (es : List Ent) : Prop := ∃ e1 e2, es = e1 ++ e2 ∧ Row encSeal 155 p.2.1 p.1.cache e1 ∧ Row encCall 169 p.2.2 p.1.took e2
def MsgOwn (p : Msg × Sl) (es : List Ent) : Prop := Row encSeal 155 p.2 p.1.seals es
structure WldOwn (w : World) (q : WSl) (ps : List (Client × CSl)) (ss : List (Serv × (Sl × Sl))) (ms : List (Msg × Sl)) (ek ec ca es sa el la : List Ent) : Prop where
  kc : Row encSeal 155 q.kc w.kdc.cache ek
  pe : ps.map Prod.fst = w.clients
  pr : Row encClient 112 q.cs ps ec
  pa : All CliOwn ps ca
  se : ss.map Prod.fst = w.servs
  sr : Row encServ 115 q.ss ss es
  sa : All SrvOwn ss sa
  me : ms.map Prod.fst = w.log
  mr : Row encMsg 47 q.ls ms el
  ma : All MsgOwn ms la
abbrev wldE (ek ec ca es sa el la : List Ent) : List Ent := ek ++ (ec ++ (ca ++ (es ++ (sa ++ (el ++ la)))))
theorem CliOwn.at {p : Client × CSl} {es : List Ent} (h : CliOwn p es) : CliAt es p := by
  obtain ⟨e1, e2, e3, e4, rfl, h1, h2, h3, h4⟩ := h
  exact ⟨h1.atL (by exact kS), h2.atL (by exact kS), h3.atL (by exact kS), h4.atL (by exact kS)⟩
theorem SrvOwn.at {p : Serv × (Sl × Sl)} {es : List Ent} (h : SrvOwn p es) : SrvAt es p := by
  obtain ⟨e1, e2, rfl, h1, h2⟩ := h
  exact ⟨h1.atL (by exact kS), h2.atL (by exact kS)⟩
theorem WldOwn.at {w : World} {q : WSl} {ps : List (Client × CSl)} {ss : List (Serv × (Sl × Sl))} {ms : List (Msg × Sl)} {ek ec ca es sa el la : List Ent} (h : WldOwn w q ps ss ms ek ec ca es sa el la) : WldAt (wldE ek ec ca es sa el la) w q ps ss ms := by
  refine ⟨h.kc.atL (by exact kS), h.pe, h.pr.atL (by exact kS), fun p hp => ?_, h.se, h.sr.atL (by exact kS), fun p hp => ?_, h.me, h.mr.atL (by exact kS), fun p hp => ?_⟩
  · obtain ⟨e1, h1, h2⟩ := h.pa.mem hp
    exact h1.at.mono fun e he => by have := h2 e he; exact kM
  · obtain ⟨e1, h1, h2⟩ := h.sa.mem hp
    exact h1.at.mono fun e he => by have := h2 e he; exact kM
  · obtain ⟨e1, h1, h2⟩ := h.ma.mem hp
    exact h1.atL fun e he => by have := h2 e he; exact kM
end Go.Proofs.YtoledfhjmdpihaaGreat
/- Who gives tickets: one for a service. -/
set_option linter.unusedVariables false
set_option linter.unusedSectionVars false
set_option linter.unusedSimpArgs false
namespace Go.Proofs.YtoledfhjmdpihaaGreat
open Go Go.Proofs Go.Proofs.YtoledfhjmdpihaaGreat.VE
attribute [local irreducible] Val Op1 WO WR WA WC seqQ blockQ loopQ retQ
noncomputable def o176x1L11 : Array Oper := cops (cl (cl (cr (codeOf Tryz.f176))))
noncomputable def o176x3L11 : Array Oper := cops (cl (cr (cr (codeOf Tryz.f176))))
noncomputable def r176x1L11 : Run := (.st 0 0 (.st 1 1 (.st 2 0 (.st 3 0 (.st 4 1 (.st 5 3 (.st 6 0 (.st 7 0 (.st 8 0 (.st 9 0 (.st 10 0 (.st 11 0 (.st 12 1 (.st 13 0 (.st 14 0 (.st 15 0 (.st 16 0 (.st 17 1 (.st 18 0 (.st 19 1 (.st 20 0 (.st 21 1 (.st 22 0 (.st 23 1 (.st 24 0 (.st 25 3 (.st 26 0 (.st 27 0 .done))))))))))))))))))))))))))))
noncomputable def r176x3L11 : Run := (.st 0 0 (.st 1 0 (.st 2 0 (.st 3 1 (.st 4 0 (.st 5 1 (.st 6 0 (.st 7 1 (.st 8 0 (.st 9 3 (.st 10 0 (.st 11 0 (.st 12 0 (.st 13 0 (.st 14 0 .done)))))))))))))))
set_option maxHeartbeats 4000000
theorem sealAt0 {m : Msg} {s0 s1 : Seal} (h : m.seals = [s0, s1]) : sealAt m 0 = s0 ∧ sealAt m 1 = s1 := by simp [sealAt, h]
/-- What hearing comes to, in memory. -/
def KdcR (L0 : List Ent) (b o : Nat) (c : List Value) (T : TypeId) (r : Kdc × Option Msg) (v : Value) (L' : List Ent) : Prop := ∃ s' es' em, AnsR r.2 v em ∧ Row encSeal 155 s' r.1.cache es' ∧ L' = em ++ ((b, cellsO (putC c o [I r.1.next, s'.v]) T) :: (es' ++ L0))
section
variable {L0 : List Ent} (b o : Nat) (c : List Value) (T : TypeId) (s : Sl) (k : Kdc) (m : Msg) (sm : Sl) (now : Int) (es : List Ent) (ho : o + 2 ≤ c.length) (hk : 10 ≤ k.next ∧ k.next ≤ 61) (hn : 0 ≤ now ∧ now ≤ 100) (hl : k.cache.length ≤ 20) (hr : Row encSeal 155 s k.cache es) (hm : MsgAt L0 m sm)
include ho hk hn hl hr hm
theorem c_kdcTgs1 (hk3 : m.kind ≠ 3) : Tri Tryz.prog 176 [.pointer (some ⟨b, o, none⟩), msgV m sm, I now] ((b, cellsO (putC c o [I k.next, s.v]) T) :: (es ++ L0)) (KdcR L0 b o c T (kdcTgs k m now)) := by
  refine Tri.of Tryz.func176 rfl rfl Tryz.ntmps176 rfl rfl ?_
  (repeat' (first | (refine nW ?_; refine op_val rfl (by exact val_neq_t rfl rfl hk3) ?_) | (refine WR_id ?_; refine WR_pure rfl rfl rfl (by exact val_neq_t rfl rfl hk3) ?_) | refine nX ?_ | (refine nA ?_; intro _) | refine nY ?_ | refine WA_alt ?_ ?_ | refine nR ?_ | refine WC_drawL (id := 1) (ops := o176x1L11) r176x1L11 (by kernel_rfl) rfl ?_ | refine WC_drawL (id := 3) (ops := o176x3L11) r176x3L11 (by kernel_rfl) rfl ?_ | refine WC_cond rfl (fun hc => ?_) (fun hc => ?_)))
  have he : kdcTgs k m now = (k, none) := by
    unfold kdcTgs; exact if_pos (.inl hk3)
  rw [he]
  refine ret_ret (by exact kR) ?_; exact ⟨(b, cellsO (putC c o [I k.next, s.v]) T) :: (es ++ L0), by exact kP, s, es, [], ⟨rfl, rfl⟩, hr, rfl⟩
theorem c_kdcTgs2 (hk3 : m.kind = 3) (hok : msgOk m = false) : Tri Tryz.prog 176 [.pointer (some ⟨b, o, none⟩), msgV m sm, I now] ((b, cellsO (putC c o [I k.next, s.v]) T) :: (es ++ L0)) (KdcR L0 b o c T (kdcTgs k m now)) := by
  refine Tri.of Tryz.func176 rfl rfl Tryz.ntmps176 rfl rfl ?_
  (repeat' (first | (refine nW ?_; refine op_val rfl (by exact val_neq_f rfl rfl hk3) ?_) | (refine WR_id ?_; refine WR_pure rfl rfl rfl (by exact val_neq_f rfl rfl hk3) ?_) | refine nX ?_ | (refine nA ?_; intro _) | (refine nW ?_; first | (refine op_call_id ?_; refine op_ro rfl rfl (by exact (c_msgOk m _ (hm.mono (by exact kS))).eq (by rw [hok])) ?_)) | refine nY ?_ | refine WA_alt ?_ ?_ | refine nR ?_ | refine WC_drawL (id := 1) (ops := o176x1L11) r176x1L11 (by kernel_rfl) rfl ?_ | refine WC_drawL (id := 3) (ops := o176x3L11) r176x3L11 (by kernel_rfl) rfl ?_ | refine WC_cond rfl (fun hc => ?_) (fun hc => ?_)))
  have he : kdcTgs k m now = (k, none) := by
    unfold kdcTgs; exact if_pos (.inr (.inl hok))
  rw [he]
  refine ret_ret (by exact kR) ?_; exact ⟨(b, cellsO (putC c o [I k.next, s.v]) T) :: (es ++ L0), by exact kP, s, es, [], ⟨rfl, rfl⟩, hr, rfl⟩
theorem c_kdcTgs3 (hk3 : m.kind = 3) (hok : msgOk m = true) (hnx : 60 < k.next) : Tri Tryz.prog 176 [.pointer (some ⟨b, o, none⟩), msgV m sm, I now] ((b, cellsO (putC c o [I k.next, s.v]) T) :: (es ++ L0)) (KdcR L0 b o c T (kdcTgs k m now)) := by
  obtain ⟨s0, s1, hs, _, _⟩ := seals2 hok (.inr (.inl hk3))
  have hm' := hm
  simp only [MsgAt, hs] at hm'
  obtain ⟨bs, os, cs, Ts, frs, cc, rfl, hmem, ht0, ht1⟩ := read2 hm'
  obtain ⟨hs0, hs1⟩ := sealAt0 hs
  refine Tri.of Tryz.func176 rfl rfl Tryz.ntmps176 rfl rfl ?_
  (repeat' (first | (refine nW ?_; refine op_val rfl (by first | exact val_neq_f rfl rfl hk3 | exact val_gtr_t rfl rfl hnx) ?_) | (refine WR_id ?_; refine WR_pure rfl rfl rfl (by first | exact val_neq_f rfl rfl hk3 | exact val_gtr_t rfl rfl hnx) ?_) | refine nX ?_ | (refine nA ?_; intro _) | (refine nW ?_; first | (refine op_call_id ?_; refine op_ro rfl rfl (by exact (c_msgOk m _ (hm.mono (by exact kS))).eq (by rw [hok])) ?_)) | refine nY ?_ | refine WA_alt ?_ ?_ | refine nR ?_ | refine WC_drawL (id := 1) (ops := o176x1L11) r176x1L11 (by kernel_rfl) rfl ?_ | refine WC_drawL (id := 3) (ops := o176x3L11) r176x3L11 (by kernel_rfl) rfl ?_ | refine WC_cond rfl (fun hc => ?_) (fun hc => ?_)))
  have he : kdcTgs k m now = (k, none) := by
    unfold kdcTgs; exact if_pos (.inr (.inr (.inl hnx)))
  rw [he]
  refine ret_ret (by exact kR) ?_; exact ⟨(b, cellsO (putC c o [I k.next, s.v]) T) :: (es ++ L0), by exact kP, s, es, [], ⟨rfl, rfl⟩, hr, rfl⟩
theorem c_kdcTgs4 (hk3 : m.kind = 3) (hok : msgOk m = true) (hnx : k.next ≤ 60) (hsh : shown (sealAt m 0) (sealAt m 1) 6 now = false) : Tri Tryz.prog 176 [.pointer (some ⟨b, o, none⟩), msgV m sm, I now] ((b, cellsO (putC c o [I k.next, s.v]) T) :: (es ++ L0)) (KdcR L0 b o c T (kdcTgs k m now)) := by
  obtain ⟨s0, s1, hs, _, _⟩ := seals2 hok (.inr (.inl hk3))
  have hm' := hm
  simp only [MsgAt, hs] at hm'
  obtain ⟨bs, os, cs, Ts, frs, cc, rfl, hmem, ht0, ht1⟩ := read2 hm'
  obtain ⟨hs0, hs1⟩ := sealAt0 hs
  rw [hs0, hs1] at hsh
  refine Tri.of Tryz.func176 rfl rfl Tryz.ntmps176 rfl rfl ?_
  (repeat' (first | (refine nW ?_; refine op_val rfl (by first | exact val_neq_f rfl rfl hk3 | exact val_gtr_f rfl rfl hnx) ?_) | (refine WR_id ?_; refine WR_pure rfl rfl rfl (by first | exact val_neq_f rfl rfl hk3 | exact val_gtr_f rfl rfl hnx) ?_) | refine nX ?_ | (refine nA ?_; intro _) | (refine nW ?_; first | (refine op_call_id ?_; refine op_ro rfl rfl (by first | exact (c_msgOk m _ (hm.mono (by exact kS))).eq (by rw [hok]) | exact (c_shown s0 s1 6 now).eq (by rw [hsh])) ?_)) | refine nY ?_ | refine WA_alt ?_ ?_ | refine nR ?_ | refine WC_drawL (id := 1) (ops := o176x1L11) r176x1L11 (by kernel_rfl) rfl ?_ | refine WC_drawL (id := 3) (ops := o176x3L11) r176x3L11 (by kernel_rfl) rfl ?_ | refine WC_cond rfl (fun hc => ?_) (fun hc => ?_)))
  have he : kdcTgs k m now = (k, none) := by
    unfold kdcTgs; exact if_pos (.inr (.inr (.inr (by rw [hs0, hs1]; exact hsh))))
  rw [he]
  refine ret_ret (by exact kR) ?_; exact ⟨(b, cellsO (putC c o [I k.next, s.v]) T) :: (es ++ L0), by exact kP, s, es, [], ⟨rfl, rfl⟩, hr, rfl⟩
theorem c_kdcTgs5 (hk3 : m.kind = 3) (hok : msgOk m = true) (hnx : k.next ≤ 60) (hsh : shown (sealAt m 0) (sealAt m 1) 6 now = true) : Tri Tryz.prog 176 [.pointer (some ⟨b, o, none⟩), msgV m sm, I now] ((b, cellsO (putC c o [I k.next, s.v]) T) :: (es ++ L0)) (KdcR L0 b o c T (kdcTgs k m now)) := by
  obtain ⟨s0, s1, hs, _, _⟩ := seals2 hok (.inr (.inl hk3))
  have hm' := hm
  simp only [MsgAt, hs] at hm'
  obtain ⟨bs, os, cs, Ts, frs, cc, rfl, hmem, ht0, ht1⟩ := read2 hm'
  obtain ⟨hs0, hs1⟩ := sealAt0 hs
  rw [hs0, hs1] at hsh
  have h0 : kdcTgs k m now = if canKeep k.cache s1 now = false then ({ k with cache := remember k.cache s1 now }, none) else ({ next := k.next + 1, cache := remember k.cache s1 now }, some (giveMsg k 4 s0.a m.serv s0.c m.nonce now s0.e)) := by
    unfold kdcTgs
    rw [hs0, hs1]
    exact if_neg (by rw [not_or, not_or, not_or]; exact ⟨fun h => h hk3, by simp [hok], by omega, by simp [hsh]⟩)
  refine Tri.of Tryz.func176 rfl rfl Tryz.ntmps176 rfl rfl ?_
  (repeat' (first | (refine nW ?_; refine op_val rfl (by first | exact val_neq_f rfl rfl hk3 | exact val_gtr_f rfl rfl hnx) ?_) | (refine WR_id ?_; refine WR_pure rfl rfl rfl (by first | exact val_neq_f rfl rfl hk3 | exact val_gtr_f rfl rfl hnx) ?_) | refine nX ?_ | (refine nA ?_; intro _) | (refine nW ?_; first | (refine op_call_id ?_; refine op_ro rfl rfl (by first | exact (c_msgOk m _ (hm.mono (by exact kS))).eq (by rw [hok]) | exact (c_shown s0 s1 6 now).eq (by rw [hsh])) ?_) | (refine op_call_id ?_; refine op_call rfl (c_remember s k.cache s1 now (hr.atL (by exact kS)) hl ⟨hn.1, by omega⟩) rfl ?_; rintro _ _ ⟨⟨a2, n2, c2⟩, e2, rfl, hr2, rfl⟩) | (refine op_call_id ?_; refine op_call rfl ((c_give b o c T ⟨a2, n2, c2⟩ k _ _ _ _ _ _ _ ho ⟨by omega, by omega⟩).perm (by exact kF)) rfl ?_; rintro _ _ ⟨sm', em, rfl, hrm, rfl⟩)) | refine nY ?_ | refine WA_alt ?_ ?_ | refine nR ?_ | refine WC_drawL (id := 1) (ops := o176x1L11) r176x1L11 (by kernel_rfl) rfl ?_ | refine WC_drawL (id := 3) (ops := o176x3L11) r176x3L11 (by kernel_rfl) rfl ?_ | refine WC_cond rfl (fun hc => ?_) (fun hc => ?_)))
  · have hck : canKeep k.cache s1 now = false := by simpa using hc
    rw [h0, if_pos hck]
    have hr3 := hr2
    refine ret_ret (by exact kR) ?_; exact ⟨(b, cellsO (putC c o [I k.next, (⟨a2, n2, c2⟩ : Sl).v]) T) :: (e2 ++ L0), by exact kP, ⟨a2, n2, c2⟩, e2, [], ⟨rfl, rfl⟩, hr2, rfl⟩
  · have hck : canKeep k.cache s1 now = true := by simpa using hc
    rw [h0, if_neg (by simp [hck])]
    refine ret_ret (by exact kR) ?_; exact ⟨em ++ ((b, cellsO (putC c o [I (k.next + 1), (⟨a2, n2, c2⟩ : Sl).v]) T) :: (e2 ++ L0)), by exact kP, ⟨a2, n2, c2⟩, e2, em, ⟨sm', rfl, hrm⟩, hr2, rfl⟩
theorem c_kdcTgs : Tri Tryz.prog 176 [.pointer (some ⟨b, o, none⟩), msgV m sm, I now] ((b, cellsO (putC c o [I k.next, s.v]) T) :: (es ++ L0)) (KdcR L0 b o c T (kdcTgs k m now)) := by
  by_cases hk3 : m.kind = 3
  · cases hok : msgOk m with
    | false => exact c_kdcTgs2 b o c T s k m sm now es ho hk hn hl hr hm hk3 hok
    | true =>
      by_cases hnx : 60 < k.next
      · exact c_kdcTgs3 b o c T s k m sm now es ho hk hn hl hr hm hk3 hok hnx
      · cases hsh : shown (sealAt m 0) (sealAt m 1) 6 now with
        | false => exact c_kdcTgs4 b o c T s k m sm now es ho hk hn hl hr hm hk3 hok (by omega) hsh
        | true => exact c_kdcTgs5 b o c T s k m sm now es ho hk hn hl hr hm hk3 hok (by omega) hsh
  · exact c_kdcTgs1 b o c T s k m sm now es ho hk hn hl hr hm hk3
end
end Go.Proofs.YtoledfhjmdpihaaGreat
/- Copies. -/
set_option linter.unusedVariables false
set_option linter.unusedSectionVars false
set_option linter.unusedSimpArgs false
namespace Go.Proofs.YtoledfhjmdpihaaGreat
open Go Go.Proofs Go.Proofs.YtoledfhjmdpihaaGreat.VE
attribute [local irreducible] Val Op1 WO WR WA WC seqQ blockQ loopQ retQ
noncomputable def o91x1L12 : Array Oper := cops (cl (cr (codeOf Tryz.f91)))
noncomputable def o92x1L12 : Array Oper := cops (cl (cr (codeOf Tryz.f92)))
noncomputable def o92x2L12 : Array Oper := cops (cl (cr (cr (codeOf Tryz.f92))))
noncomputable def o93x1L12 : Array Oper := cops (cl (cr (codeOf Tryz.f93)))
noncomputable def r91x1L12 : Run := (.st 0 0 (.st 1 1 (.st 2 0 (.st 3 1 (.st 4 2 (.st 5 2 (.st 6 0 (.st 7 3 .done))))))))
noncomputable def r92x1L12 : Run := (.st 0 0 (.st 1 1 (.st 4 0 (.st 5 1 (.st 2 2 (.st 3 2 (.st 8 0 (.st 6 3 (.st 7 3 (.st 9 3 (.st 10 0 (.st 11 3 .done))))))))))))
noncomputable def r92x2L12 : Run := (.st 0 0 (.st 1 1 (.st 4 0 (.st 5 1 (.st 2 2 (.st 3 2 (.st 8 0 (.st 6 3 (.st 7 3 (.st 9 3 (.st 10 0 (.st 11 3 .done))))))))))))
noncomputable def r93x1L12 : Run := (.st 0 0 (.st 1 1 (.st 4 0 (.st 5 1 (.st 2 2 (.st 3 2 (.st 8 0 (.st 6 3 (.st 7 3 (.st 9 3 (.st 10 0 (.st 11 3 .done))))))))))))
set_option maxHeartbeats 4000000
theorem c_kdcCopied {L : List Ent} (k : Kdc) (s : Sl) (h : SliceAt L encSeal s k.cache) (hl : k.cache.length ≤ lim) :
    Tri Tryz.prog 91 [.agg [I k.next, s.v].toArray] L (fun v L' => ∃ s' es, v = .agg [I k.next, s'.v].toArray ∧ Row encSeal 155 s' k.cache es ∧ L' = es ++ L) := by
  refine Tri.of Tryz.func91 rfl rfl Tryz.ntmps91 rfl rfl ?_
  (repeat' (first | refine nX ?_ | (refine nA ?_; intro _) | (refine nW ?_; first | (refine op_call_id ?_; refine op_ro rfl rfl (by exact c_clipimpl.Seal _ _ _ hr1.1.le_cap) ?_) | (refine op_call_id ?_; refine op_call rfl (c_cloneimpl.Seal s k.cache (h.mono (by exact kS)) hl) rfl ?_; rintro _ _ ⟨⟨a1, n1, c1⟩, e1, rfl, hr1, rfl⟩)) | refine nY ?_ | refine WA_alt ?_ ?_ | refine nR ?_ | refine WC_drawL (id := 1) (ops := o91x1L12) r91x1L12 (by kernel_rfl) rfl ?_))
  obtain ⟨e3, hs3, hr3⟩ := hr1.clip
  refine ret_ret (by exact kR) ?_; exact ⟨e3 ++ L, SubP.trans (M := e1 ++ L) (by exact kP) (hs3 L), ⟨_, _, _⟩, e3, rfl, hr3, rfl⟩
theorem c_msgCopied {L : List Ent} (m : Msg) (s : Sl) (h : MsgAt L m s) (hl : m.seals.length ≤ lim) :
    Tri Tryz.prog 94 [msgV m s] L (fun v L' => ∃ s' es, v = msgV m s' ∧ Row encSeal 155 s' m.seals es ∧ L' = es ++ L) := by
  refine Tri.of Tryz.func94 rfl rfl Tryz.ntmps94 rfl rfl ?_
  (repeat' (first | refine nX ?_ | (refine nA ?_; intro _) | (refine nW ?_; first | (refine op_call_id ?_; refine op_ro rfl rfl (by exact c_clipimpl.Seal _ _ _ hr1.1.le_cap) ?_) | (refine op_call_id ?_; refine op_call rfl (c_cloneimpl.Seal s m.seals (h.mono (by exact kS)) hl) rfl ?_; rintro _ _ ⟨⟨a1, n1, c1⟩, e1, rfl, hr1, rfl⟩)) | refine nY ?_ | refine nR ?_))
  obtain ⟨e3, hs3, hr3⟩ := hr1.clip
  refine ret_ret (by exact kR) ?_; exact ⟨e3 ++ L, SubP.trans (M := e1 ++ L) (by exact kP) (hs3 L), ⟨_, _, _⟩, e3, rfl, hr3, rfl⟩
theorem c_servCopied {L : List Ent} (p : Serv) (c t : Sl) (h : SrvAt L (p, c, t)) (hl : p.cache.length ≤ lim) (hl2 : p.took.length ≤ lim) :
    Tri Tryz.prog 93 [servV p c t] L (fun v L' => ∃ c' t' es, v = servV p c' t' ∧ SrvOwn (p, c', t') es ∧ L' = es ++ L) := by
  refine Tri.of Tryz.func93 rfl rfl Tryz.ntmps93 rfl rfl ?_
  (repeat' (first | refine nX ?_ | (refine nA ?_; intro _) | (refine nW ?_; first | (refine op_call_id ?_; refine op_ro rfl rfl (by first | exact c_clipimpl.Seal _ _ _ hr1.1.le_cap | exact c_clipimpl.Call _ _ _ hr2.1.le_cap) ?_) | (refine op_call_id ?_; refine op_call rfl (c_cloneimpl.Seal c p.cache (h.c.mono (by exact kS)) hl) rfl ?_; rintro _ _ ⟨⟨a1, n1, c1⟩, e1, rfl, hr1, rfl⟩) | (refine op_call_id ?_; refine op_call rfl (c_cloneimpl.Call t p.took (h.t.mono (by exact kS)) hl2) rfl ?_; rintro _ _ ⟨⟨a2, n2, c2⟩, e2, rfl, hr2, rfl⟩)) | refine nY ?_ | refine WA_alt ?_ ?_ | refine nR ?_ | refine WC_drawL (id := 1) (ops := o93x1L12) r93x1L12 (by kernel_rfl) rfl ?_))
  obtain ⟨e3, hs3, hr3⟩ := hr1.clip
  obtain ⟨e4, hs4, hr4⟩ := hr2.clip
  refine ret_ret (by exact kR) ?_; exact ⟨e3 ++ (e4 ++ L), SubP.trans (M := e1 ++ (e2 ++ L)) (by exact kP) (SubP.trans (hs3 _) (SubP.front (.refl _) (hs4 _))), ⟨_, _, _⟩, ⟨_, _, _⟩, e3 ++ e4, rfl, ⟨e3, e4, rfl, hr3, hr4⟩, by simp⟩
theorem c_cliCopied {L : List Ent} (p : Client) (s : CSl) (h : CliAt L (p, s)) (h1 : p.wants.length ≤ lim) (h2 : p.creds.length ≤ lim) (h3 : p.sent.length ≤ lim) (h4 : p.met.length ≤ lim) :
    Tri Tryz.prog 92 [clientV p s] L (fun v L' => ∃ s' es, v = clientV p s' ∧ CliOwn (p, s') es ∧ L' = es ++ L) := by
  refine Tri.of Tryz.func92 rfl rfl Tryz.ntmps92 rfl rfl ?_
  (repeat' (first | refine nX ?_ | (refine nA ?_; intro _) | (refine nW ?_; first | (refine op_call_id ?_; refine op_ro rfl rfl (by first | exact c_clipimpl.Want _ _ _ hr1.1.le_cap | exact c_clipimpl.Cred _ _ _ hr2.1.le_cap | exact c_clipimpl.Call _ _ _ hr3.1.le_cap | exact c_clipimpl.Call _ _ _ hr4.1.le_cap) ?_) | (refine op_call_id ?_; refine op_call rfl (c_cloneimpl.Want s.w p.wants (h.w.mono (by exact kS)) h1) rfl ?_; rintro _ _ ⟨⟨a1, n1, c1⟩, e1, rfl, hr1, rfl⟩) | (refine op_call_id ?_; refine op_call rfl (c_cloneimpl.Cred s.c p.creds (h.c.mono (by exact kS)) h2) rfl ?_; rintro _ _ ⟨⟨a2, n2, c2⟩, e2, rfl, hr2, rfl⟩) | (refine op_call_id ?_; refine op_call rfl (c_cloneimpl.Call s.s p.sent (h.s.mono (by exact kS)) h3) rfl ?_; rintro _ _ ⟨⟨a3, n3, c3⟩, e3, rfl, hr3, rfl⟩) | (refine op_call_id ?_; refine op_call rfl (c_cloneimpl.Call s.m p.met (h.m.mono (by exact kS)) h4) rfl ?_; rintro _ _ ⟨⟨a4, n4, c4⟩, e4, rfl, hr4, rfl⟩)) | refine nY ?_ | refine WA_alt ?_ ?_ | refine nR ?_ | refine WC_drawL (id := 1) (ops := o92x1L12) r92x1L12 (by kernel_rfl) rfl ?_ | refine WC_drawL (id := 2) (ops := o92x2L12) r92x2L12 (by kernel_rfl) rfl ?_))
  obtain ⟨f1, hs1, hq1⟩ := hr1.clip
  obtain ⟨f2, hs2, hq2⟩ := hr2.clip
  obtain ⟨f3, hs3, hq3⟩ := hr3.clip
  obtain ⟨f4, hs4, hq4⟩ := hr4.clip
  refine ret_ret (by exact kR) ?_; exact ⟨f1 ++ (f2 ++ (f3 ++ (f4 ++ L))), SubP.trans (M := e1 ++ (e2 ++ (e3 ++ (e4 ++ L)))) (by exact kP) (SubP.trans (hs1 _) (SubP.front (.refl _) (SubP.trans (hs2 _) (SubP.front (.refl _) (SubP.trans (hs3 _) (SubP.front (.refl _) (hs4 _))))))), ⟨⟨_, _, _⟩, ⟨_, _, _⟩, ⟨_, _, _⟩, ⟨_, _, _⟩⟩, f1 ++ (f2 ++ (f3 ++ f4)), rfl, ⟨f1, f2, f3, f4, rfl, hq1, hq2, hq3, hq4⟩, by simp⟩
end Go.Proofs.YtoledfhjmdpihaaGreat
/- Users: what one has for somebody. -/
set_option linter.unusedVariables false
set_option linter.unusedSectionVars false
set_option linter.unusedSimpArgs false
namespace Go.Proofs.YtoledfhjmdpihaaGreat
open Go Go.Proofs Go.Proofs.YtoledfhjmdpihaaGreat.VE
attribute [local irreducible] Val Op1 WO WR WA WC seqQ blockQ loopQ retQ
set_option maxHeartbeats 4000000
theorem credIdx_cases (c : Client) (s : Int) : (credIdx c s = -1 ∧ credAt c s = none) ∨ ∃ (k : Nat) (y : Cred), credIdx c s = k ∧ c.creds[k]? = some y ∧ y.serv = s ∧ credAt c s = some y := by
  rcases idx_cases (fun x : Cred => x.serv == s) c.creds with ⟨h1, h2⟩ | ⟨k, y, h1, h2, h3, h4⟩
  · refine .inl ⟨h1, ?_⟩
    unfold credAt
    exact List.find?_eq_none.2 fun x hx => by simp only [h2 x hx]; simp
  · refine .inr ⟨k, y, h1, h2, by simpa using h3, ?_⟩
    have hsplit : c.creds = c.creds.take k ++ y :: c.creds.drop (k + 1) := by
      obtain ⟨hlt, he⟩ := List.getElem?_eq_some_iff.1 h2
      rw [← he, List.getElem_cons_drop, List.take_append_drop]
    unfold credAt
    rw [hsplit, List.find?_append]
    have hn : (c.creds.take k).find? (fun x => x.serv == s) = none := List.find?_eq_none.2 fun x hx => by simp only [h4 x hx]; simp
    rw [hn, List.find?_cons_of_pos (p := fun x : Cred => x.serv == s) h3]; rfl
theorem c_cred1 {L : List Ent} (x : Cred) (b2 : Nat) (serv : Int) (h : (b2, cellsO [I serv] 3) ∈ L) : RO Tryz.prog 199 [credV x, .pointer (some ⟨b2, 0, none⟩)] L (B (x.serv == serv)) := by
  refine Tri.of Tryz.func199 rfl rfl Tryz.ntmps199 rfl rfl ?_
  (repeat' (first | refine nX ?_ | (refine nA ?_; intro _) | refine nY ?_ | refine nR ?_))
  refine ro_ret (by exact kR) (by exact kL) ?_; rfl
theorem c_cred {L : List Ent} (b o : Nat) (c : List Value) (T : TypeId) (cl : Client) (s : CSl) (nm : Int) (w1 w2 w3 : Value) (serv : Int) (ho : o + 6 ≤ c.length) (hm : (b, cellsO (putC c o [I cl.id, I nm, w1, s.c.v, w2, w3]) T) ∈ L) (hc : SliceAt L encCred s.c cl.creds) :
    RO Tryz.prog 152 [.pointer (some ⟨b, o, none⟩), I serv] L (I (credIdx cl serv)) := by
  refine Tri.of Tryz.func152 rfl rfl Tryz.ntmps152 rfl rfl ?_
  (repeat' (first | refine nX ?_ | (refine nA ?_; intro _) | (refine nW ?_; first | (refine op_call_id ?_; refine op_ro rfl rfl (by exact c_idxFuncimpl.Cred s.c cl.creds _ [_] (fun x => x.serv == serv) (hc.mono (by exact kS)) (fun x _ => c_cred1 x _ serv (by exact kM))) ?_)) | refine nY ?_ | refine nR ?_))
  refine ro_ret (by exact kR) (by exact kL) ?_; rfl
def usV : Option Cred → Value
  | some x => .tuple [credV x, B true].toArray
  | none => .tuple [credV Cred.none, B false].toArray
theorem c_usable0 {L : List Ent} (b o : Nat) (c : List Value) (T : TypeId) (cl : Client) (s : CSl) (giver serv now many : Int) (ho : o + 6 ≤ c.length) (hm : (b, cellsO (putC c o (clientC cl s)) T) ∈ L) (hc : SliceAt L encCred s.c cl.creds) (hn : 0 ≤ cl.num ∧ cl.num ≤ 60) (hmany : 0 ≤ many ∧ many ≤ 60)
    (hi : credIdx cl giver = -1) : RO Tryz.prog 203 [.pointer (some ⟨b, o, none⟩), I giver, I serv, I now, I many] L (usV none) := by
  refine Tri.of Tryz.func203 rfl rfl Tryz.ntmps203 rfl rfl ?_
  (repeat' (first | (refine nW ?_; refine op_val rfl (by exact val_lss_t rfl rfl (by decide)) ?_) | refine nX ?_ | (refine nA ?_; intro _) | (refine nW ?_; first | (refine op_call_id ?_; refine op_ro rfl rfl (by first | exact (c_cred b o c T cl s _ _ _ _ giver ho (by exact kM) (hc.mono (by exact kS))).eq (by rw [hi]) | exact c_servOk _) ?_)) | refine nY ?_ | refine nR ?_ | refine WO_split rfl rfl (fun hg => ?_) (fun hg => ?_) | refine WR_split rfl rfl rfl (fun hg => ?_) (fun hg => ?_) | refine WC_cond rfl (fun hc => ?_) (fun hc => ?_)))
  all_goals (refine ro_ret (by exact kR) (by exact kL) ?_; rfl)
theorem c_usable1 {L : List Ent} (b o : Nat) (c : List Value) (T : TypeId) (cl : Client) (s : CSl) (giver serv now many : Int) (ho : o + 6 ≤ c.length) (hm : (b, cellsO (putC c o (clientC cl s)) T) ∈ L) (hc : SliceAt L encCred s.c cl.creds) (hn : 0 ≤ cl.num ∧ cl.num ≤ 60) (hmany : 0 ≤ many ∧ many ≤ 60)
    (k : Nat) (y : Cred) (hi : credIdx cl giver = k) (hy : cl.creds[k]? = some y) : RO Tryz.prog 203 [.pointer (some ⟨b, o, none⟩), I giver, I serv, I now, I many] L (usV (if 60 < cl.num + many ∨ servOk serv = false ∨ y.til < now then none else some y)) := by
  obtain ⟨sw, ⟨a, n, cap⟩, ss, sm⟩ := s
  have hlt := (List.getElem?_eq_some_iff.1 hy).1
  have hcat := hc
  obtain ⟨hn', hcap, hbig, hat⟩ := hc
  replace hn' : n = cl.creds.length := hn'
  subst hn'
  simp only [big] at hbig
  obtain ⟨b', o', cs, T', fr, ha, hmem, hrow⟩ := hat (by omega)
  replace ha : a = _ := ha
  subst ha
  have hrow' := hrow k y hy
  refine Tri.of Tryz.func203 rfl rfl Tryz.ntmps203 rfl rfl ?_
  (repeat' (first | (refine nW ?_; refine op_val rfl (by exact val_lss_f rfl rfl (by omega)) ?_) | refine nX ?_ | (refine nA ?_; intro _) | (refine nW ?_; first | (refine op_call_id ?_; refine op_ro rfl rfl (by first | exact (c_cred b o c T cl ⟨sw, _, ss, sm⟩ _ _ _ _ giver ho (by exact kM) (hcat.mono (by exact kS))).eq (by rw [hi]) | exact c_servOk _) ?_)) | refine nY ?_ | refine nR ?_ | refine WO_split rfl rfl (fun hg => ?_) (fun hg => ?_) | refine WR_split rfl rfl rfl (fun hg => ?_) (fun hg => ?_) | refine WC_cond rfl (fun hc => ?_) (fun hc => ?_)))
  all_goals (by_cases hh : 60 < cl.num + many ∨ servOk serv = false ∨ y.til < now)
  all_goals first | (rw [if_pos hh]; refine ro_ret (by exact kR) (by exact kL) ?_; rfl) | (rw [if_neg hh]; refine ro_ret (by exact kR) (by exact kL) ?_; rfl) | (exfalso; simp_all <;> omega)
theorem c_usable {L : List Ent} (b o : Nat) (c : List Value) (T : TypeId) (cl : Client) (s : CSl) (giver serv now many : Int) (ho : o + 6 ≤ c.length) (hm : (b, cellsO (putC c o (clientC cl s)) T) ∈ L) (hc : SliceAt L encCred s.c cl.creds) (hn : 0 ≤ cl.num ∧ cl.num ≤ 60) (hmany : 0 ≤ many ∧ many ≤ 60) :
    RO Tryz.prog 203 [.pointer (some ⟨b, o, none⟩), I giver, I serv, I now, I many] L (usV (usable cl giver serv now many)) := by
  rcases credIdx_cases cl giver with ⟨h1, h2⟩ | ⟨k, y, h1, h2, h3, h4⟩
  · have := c_usable0 b o c T cl s giver serv now many ho hm hc hn hmany h1
    simpa only [usable, h2] using this
  · have := c_usable1 b o c T cl s giver serv now many ho hm hc hn hmany k y h1 h2
    simpa only [usable, h4] using this
end Go.Proofs.YtoledfhjmdpihaaGreat
/- Users: what one asks. -/
set_option linter.unusedVariables false
set_option linter.unusedSectionVars false
set_option linter.unusedSimpArgs false
namespace Go.Proofs.YtoledfhjmdpihaaGreat
open Go Go.Proofs Go.Proofs.YtoledfhjmdpihaaGreat.VE
attribute [local irreducible] Val Op1 WO WR WA WC seqQ blockQ loopQ retQ
noncomputable def o172x4L14 : Array Oper := cops (cl (cr (cr (cr (codeOf Tryz.f172)))))
noncomputable def o172x5L14 : Array Oper := cops (cl (cr (cr (cr (cr (codeOf Tryz.f172))))))
noncomputable def o204x1L14 : Array Oper := cops (cl (cr (codeOf Tryz.f204)))
noncomputable def r172x4L14 : Run := (.st 0 0 (.st 1 0 (.st 2 0 (.st 3 0 (.st 4 1 (.st 5 0 (.st 6 0 (.st 7 0 (.st 8 1 (.st 9 0 (.st 10 2 (.st 11 3 (.st 12 0 (.st 13 0 (.st 14 3 .done)))))))))))))))
noncomputable def r172x5L14 : Run := (.st 0 0 (.st 1 0 (.st 2 0 (.st 3 1 (.st 4 0 (.st 5 0 (.st 6 0 (.st 7 1 (.st 8 0 (.st 9 3 (.st 10 0 .done)))))))))))
noncomputable def r204x1L14 : Run := (.st 0 0 (.st 1 1 (.st 2 0 (.st 3 1 (.st 4 0 (.st 5 0 (.st 6 0 (.st 7 1 (.st 8 0 (.st 9 0 (.st 10 0 (.st 11 3 (.st 12 0 .done)))))))))))))
set_option maxHeartbeats 4000000
theorem c_auth {L : List Ent} (b o : Nat) (c : List Value) (T : TypeId) (cs : List Value) (id : Int) (x : Cred) (now num : Int) (hcs : getF cs 0 = some (I id)) (ho : o + cs.length ≤ c.length) (hm : (b, cellsO (putC c o cs) T) ∈ L) :
    Tri Tryz.prog 204 [.pointer (some ⟨b, o, none⟩), credV x, I now, I num] L (fun v L' => ∃ s' es, v = s'.v ∧ Row encSeal 155 s' [x.ticket, mkAuth id x.key now num] es ∧ L' = es ++ L) := by
  refine Tri.of Tryz.func204 rfl rfl Tryz.ntmps204 rfl rfl ?_
  (repeat' (first | refine nX ?_ | (refine nA ?_; intro _) | (refine nW ?_; first | (refine op_load_id ?_; refine op_val rfl (by exact val_load1P rfl rfl rfl (by exact kM) ho hcs) ?_)) | (refine WR_id ?_; refine WR_load rfl rfl rfl (by exact val_load1P rfl rfl rfl (by exact kM) ho hcs) (by exact kS) ?_) | refine nY ?_ | refine WA_alt ?_ ?_ | refine nR ?_ | refine WC_drawL (id := 1) (ops := o204x1L14) r204x1L14 (by kernel_rfl) rfl ?_))
  rename_i b2 b1
  refine ret_ret (by exact kR) ?_; exact ⟨[(b1, _)] ++ L, by exact kP, ⟨_, _, _⟩, _, rfl, Row.lit (xs := [x.ticket, mkAuth id x.key now num]) rfl (by simp [lim]), rfl⟩
def CliR (L0 : List Ent) (b o : Nat) (c : List Value) (T : TypeId) (r : Client × Option Msg) (v : Value) (L' : List Ent) : Prop := ∃ s' es' em, AnsR r.2 v em ∧ CliOwn (r.1, s') es' ∧ L' = em ++ ((b, cellsO (putC c o (clientC r.1 s')) T) :: (es' ++ L0))
section
variable {L0 : List Ent} (b o : Nat) (c : List Value) (T : TypeId) (cl : Client) (s : CSl) (es : List Ent) (ho : o + 6 ≤ c.length) (hn : 0 ≤ cl.num ∧ cl.num ≤ 60) (hw : cl.wants.length ≤ 100) (hs : cl.sent.length ≤ 100) (hown : CliOwn (cl, s) es)
include ho hn hw hs hown
theorem c_cliAs1 (h60 : 60 ≤ cl.num) : Tri Tryz.prog 172 [.pointer (some ⟨b, o, none⟩)] ((b, cellsO (putC c o (clientC cl s)) T) :: (es ++ L0)) (CliR L0 b o c T (clientAs cl)) := by
  refine Tri.of Tryz.func172 rfl rfl Tryz.ntmps172 rfl rfl ?_
  (repeat' (first | (refine nW ?_; refine op_val rfl (by exact val_geq_t rfl rfl h60) ?_) | (refine WR_id ?_; refine WR_pure rfl rfl rfl (by exact val_geq_t rfl rfl h60) ?_) | refine nX ?_ | (refine nA ?_; intro _) | refine nY ?_ | refine WA_alt ?_ ?_ | refine nR ?_ | refine WC_drawL (id := 4) (ops := o172x4L14) r172x4L14 (by kernel_rfl) rfl ?_ | refine WC_drawL (id := 5) (ops := o172x5L14) r172x5L14 (by kernel_rfl) rfl ?_ | refine WC_cond rfl (fun hc => ?_) (fun hc => ?_)))
  have he : clientAs cl = (cl, none) := by unfold clientAs; exact if_pos h60
  rw [he]
  refine ret_ret (by exact kR) ?_; exact ⟨(b, cellsO (putC c o (clientC cl s)) T) :: (es ++ L0), by exact kP, s, es, [], ⟨rfl, rfl⟩, hown, rfl⟩
theorem c_cliAs2 (h60 : cl.num < 60) : Tri Tryz.prog 172 [.pointer (some ⟨b, o, none⟩)] ((b, cellsO (putC c o (clientC cl s)) T) :: (es ++ L0)) (CliR L0 b o c T (clientAs cl)) := by
  have he : clientAs cl = ({ cl with num := cl.num + 1, wants := cl.wants ++ [⟨6, cl.num + 1⟩] }, some ⟨1, cl.id, 0, cl.num + 1, []⟩) := by unfold clientAs; exact if_neg (by omega)
  rw [he]
  obtain ⟨⟨a1, n1, c1⟩, sc, ss, sm⟩ := s
  obtain ⟨e1, e2, e3, e4, rfl, h1, h2, h3, h4⟩ := hown
  dsimp only at h1 h2 h3 h4
  simp only [List.append_assoc]
  refine Tri.of Tryz.func172 rfl rfl Tryz.ntmps172 rfl rfl ?_
  (repeat' (first | (refine nW ?_; refine op_val rfl (by exact val_geq_f rfl rfl h60) ?_) | (refine WR_id ?_; refine WR_pure rfl rfl rfl (by exact val_geq_f rfl rfl h60) ?_) | refine nX ?_ | (refine nA ?_; intro _) | (refine nW ?_; first | (refine go_append ?_; refine op_appendRow (sl := ⟨_, _, _⟩) (sx := ⟨_, _, _⟩) rfl rfl rfl rfl rfl rfl rfl rfl rfl (h1) (by exact kE) (SliceAt.one (x := (⟨6, cl.num + 1⟩ : Want)) (by exact kM) rfl) (by exact kN) ?_; intro sl' es' hrow' hst')) | refine nY ?_ | refine WA_alt ?_ ?_ | refine nR ?_ | refine WC_draw (id := 4) (ops := o172x4L14) ([(b, cellsO (putC c o [I cl.id, I (cl.num + 1), .slice a1 n1 c1, sc.v, ss.v, sm.v]) T)]) r172x4L14 (by kernel_rfl) rfl ?_ | refine WC_drawL (id := 5) (ops := o172x5L14) r172x5L14 (by kernel_rfl) rfl ?_ | refine WC_cond rfl (fun hc => ?_) (fun hc => ?_)))
  refine ret_ret (by exact kR) ?_; exact ⟨(b, cellsO (putC c o [I cl.id, I (cl.num + 1), sl'.v, sc.v, ss.v, sm.v]) T) :: (es' ++ (e2 ++ (e3 ++ (e4 ++ L0)))), by exact kP, ⟨sl', sc, ss, sm⟩, es' ++ (e2 ++ (e3 ++ e4)), [], ⟨Sl.nil, rfl, Row.nil⟩, ⟨es', e2, e3, e4, rfl, hrow', h2, h3, h4⟩, by simp⟩
theorem c_cliAs : Tri Tryz.prog 172 [.pointer (some ⟨b, o, none⟩)] ((b, cellsO (putC c o (clientC cl s)) T) :: (es ++ L0)) (CliR L0 b o c T (clientAs cl)) := by
  by_cases h60 : 60 ≤ cl.num
  · exact c_cliAs1 b o c T cl s es ho hn hw hs hown h60
  · exact c_cliAs2 b o c T cl s es ho hn hw hs hown (by omega)
end
end Go.Proofs.YtoledfhjmdpihaaGreat
/- Users: what one asks for, with what one has. -/
set_option linter.unusedVariables false
set_option linter.unusedSectionVars false
set_option linter.unusedSimpArgs false
namespace Go.Proofs.YtoledfhjmdpihaaGreat
open Go Go.Proofs Go.Proofs.YtoledfhjmdpihaaGreat.VE
attribute [local irreducible] Val Op1 WO WR WA WC seqQ blockQ loopQ retQ
noncomputable def o173x5L15 : Array Oper := cops (cl (cr (cr (cr (cr (codeOf Tryz.f173))))))
noncomputable def o173x6L15 : Array Oper := cops (cl (cr (cr (cr (cr (cr (codeOf Tryz.f173)))))))
noncomputable def o174x5L15 : Array Oper := cops (cl (cr (cr (cr (cr (codeOf Tryz.f174))))))
noncomputable def o174x6L15 : Array Oper := cops (cl (cr (cr (cr (cr (cr (codeOf Tryz.f174)))))))
noncomputable def r173x5L15 : Run := (.st 0 0 (.st 1 0 (.st 2 0 (.st 3 0 (.st 4 1 (.st 5 0 (.st 6 0 (.st 7 0 (.st 8 0 (.st 9 1 (.st 10 0 (.st 11 2 (.st 12 3 (.st 13 0 (.st 14 0 (.st 15 3 .done))))))))))))))))
noncomputable def r173x6L15 : Run := (.st 0 0 (.st 1 0 (.st 2 0 (.st 3 0 (.st 4 1 (.st 5 0 (.st 6 1 (.st 7 0 (.st 8 0 (.st 9 0 (.st 10 0 (.st 11 1 (.st 12 0 (.st 13 2 (.st 14 0 (.st 15 3 (.st 16 0 .done)))))))))))))))))
noncomputable def r174x5L15 : Run := (.st 0 0 (.st 1 0 (.st 2 0 (.st 3 0 (.st 4 1 (.st 5 0 (.st 6 0 (.st 7 1 (.st 8 0 (.st 9 0 (.st 10 0 (.st 11 0 (.st 12 1 (.st 13 0 (.st 14 2 (.st 15 3 (.st 16 0 (.st 17 0 (.st 18 3 .done)))))))))))))))))))
noncomputable def r174x6L15 : Run := (.st 0 0 (.st 1 0 (.st 2 1 (.st 3 0 (.st 4 0 (.st 5 0 (.st 6 0 (.st 7 1 (.st 8 3 (.st 9 0 (.st 10 3 (.st 11 0 .done))))))))))))
set_option maxHeartbeats 4000000
section
variable {L0 : List Ent} (b o : Nat) (c : List Value) (T : TypeId) (cl : Client) (s : CSl) (es : List Ent) (serv now : Int) (ho : o + 6 ≤ c.length) (hn : 0 ≤ cl.num ∧ cl.num ≤ 60) (hw : cl.wants.length ≤ 100) (hs : cl.sent.length ≤ 100) (hown : CliOwn (cl, s) es)
include ho hn hw hs hown
theorem c_cli_tgs0 (hu : usable cl 6 serv now 2 = none) : Tri Tryz.prog 173 [.pointer (some ⟨b, o, none⟩), I serv, I now] ((b, cellsO (putC c o (clientC cl s)) T) :: (es ++ L0)) (CliR L0 b o c T (clientTgs cl serv now)) := by
  have he : clientTgs cl serv now = (cl, none) := by unfold clientTgs; rw [hu]
  rw [he]
  have hat := hown.at
  refine Tri.of Tryz.func173 rfl rfl Tryz.ntmps173 rfl rfl ?_
  (repeat' (first | refine nX ?_ | (refine nA ?_; intro _) | (refine nW ?_; first | (refine op_call_id ?_; refine op_ro rfl rfl (by exact (c_usable b o c T cl s 6 serv now 2 ho (by exact kM) (hat.c.mono (by exact kS)) hn (by omega)).eq (congrArg usV hu)) ?_)) | refine nY ?_ | refine WA_alt ?_ ?_ | refine nR ?_ | refine WC_drawL (id := 5) (ops := o173x5L15) r173x5L15 (by kernel_rfl) rfl ?_ | refine WC_drawL (id := 6) (ops := o173x6L15) r173x6L15 (by kernel_rfl) rfl ?_ | refine WC_cond rfl (fun hc => ?_) (fun hc => ?_)))
  refine ret_ret (by exact kR) ?_; exact ⟨(b, cellsO (putC c o (clientC cl s)) T) :: (es ++ L0), by exact kP, s, es, [], ⟨rfl, rfl⟩, hown, rfl⟩
theorem c_cli_ap0 (hu : usable cl serv serv now 1 = none) : Tri Tryz.prog 174 [.pointer (some ⟨b, o, none⟩), I serv, I now] ((b, cellsO (putC c o (clientC cl s)) T) :: (es ++ L0)) (CliR L0 b o c T (clientAp cl serv now)) := by
  have he : clientAp cl serv now = (cl, none) := by unfold clientAp; rw [hu]
  rw [he]
  have hat := hown.at
  refine Tri.of Tryz.func174 rfl rfl Tryz.ntmps174 rfl rfl ?_
  (repeat' (first | refine nX ?_ | (refine nA ?_; intro _) | (refine nW ?_; first | (refine op_call_id ?_; refine op_ro rfl rfl (by exact (c_usable b o c T cl s serv serv now 1 ho (by exact kM) (hat.c.mono (by exact kS)) hn (by omega)).eq (congrArg usV hu)) ?_)) | refine nY ?_ | refine WA_alt ?_ ?_ | refine nR ?_ | refine WC_drawL (id := 5) (ops := o174x5L15) r174x5L15 (by kernel_rfl) rfl ?_ | refine WC_drawL (id := 6) (ops := o174x6L15) r174x6L15 (by kernel_rfl) rfl ?_ | refine WC_cond rfl (fun hc => ?_) (fun hc => ?_)))
  refine ret_ret (by exact kR) ?_; exact ⟨(b, cellsO (putC c o (clientC cl s)) T) :: (es ++ L0), by exact kP, s, es, [], ⟨rfl, rfl⟩, hown, rfl⟩
theorem c_cli_tgs1 (x : Cred) (hu : usable cl 6 serv now 2 = some x) : Tri Tryz.prog 173 [.pointer (some ⟨b, o, none⟩), I serv, I now] ((b, cellsO (putC c o (clientC cl s)) T) :: (es ++ L0)) (CliR L0 b o c T (clientTgs cl serv now)) := by
  have he : clientTgs cl serv now = ({ cl with num := cl.num + 2, wants := cl.wants ++ [⟨serv, cl.num + 2⟩] }, some ⟨3, 0, serv, cl.num + 2, [x.ticket, mkAuth cl.id x.key now (cl.num + 1)]⟩) := by unfold clientTgs; rw [hu]
  rw [he]
  have hat := hown.at
  obtain ⟨⟨a1, n1, c1⟩, sc, ss, sm⟩ := s
  obtain ⟨e1, e2, e3, e4, rfl, h1, h2, h3, h4⟩ := hown
  dsimp only at h1 h2 h3 h4
  simp only [List.append_assoc]
  refine Tri.of Tryz.func173 rfl rfl Tryz.ntmps173 rfl rfl ?_
  (repeat' (first | refine nX ?_ | (refine nA ?_; intro _) | (refine nW ?_; first | (refine op_call_id ?_; refine op_ro rfl rfl (by exact (c_usable b o c T cl ⟨⟨a1, n1, c1⟩, sc, ss, sm⟩ 6 serv now 2 ho (by exact kM) (h2.atL (by exact kS)) hn (by omega)).eq (congrArg usV hu)) ?_) | (refine go_append ?_; refine op_appendRow (sl := ⟨_, _, _⟩) (sx := ⟨_, _, _⟩) rfl rfl rfl rfl rfl rfl rfl rfl rfl (h1) (by exact kE) (SliceAt.one (x := (⟨serv, cl.num + 2⟩ : Want)) (by exact kM) rfl) (by exact kN) ?_; intro sl' es' hrow' hst')) | refine nY ?_ | refine WA_alt ?_ ?_ | refine nR ?_ | refine WC_draw (id := 5) (ops := o173x5L15) ([(b, cellsO (putC c o [I cl.id, I (cl.num + 2), .slice a1 n1 c1, sc.v, ss.v, sm.v]) T)]) r173x5L15 (by kernel_rfl) rfl ?_ | refine WC_cond rfl (fun hc => ?_) (fun hc => ?_)))
  rename_i b6 b8 b9
  (repeat' (first | refine nX ?_ | (refine nA ?_; intro _) | (refine nW ?_; first | (refine op_call_id ?_; refine op_call rfl (c_auth b o c T [I cl.id, I (cl.num + 2), sl'.v, sc.v, ss.v, sm.v] cl.id x now (cl.num + 2 - 1) rfl (by assumption) (by exact kM)) rfl ?_; rintro _ _ ⟨sq, eq, rfl, hrq, rfl⟩)) | refine nY ?_ | refine WA_alt ?_ ?_ | refine nR ?_ | refine WC_drawL (id := 5) (ops := o173x5L15) r173x5L15 (by kernel_rfl) rfl ?_ | refine WC_draw (id := 6) (ops := o173x6L15) ([(b8, cellsO (credC x) 164), (b, cellsO (putC c o [I cl.id, I (cl.num + 2), sl'.v, sc.v, ss.v, sm.v]) T)]) r173x6L15 (by kernel_rfl) rfl ?_))
  rw [show cl.num + 2 - 1 = cl.num + 1 by omega] at hrq
  refine ret_ret (by exact kR) ?_; exact ⟨eq ++ ((b, cellsO (putC c o [I cl.id, I (cl.num + 2), sl'.v, sc.v, ss.v, sm.v]) T) :: (es' ++ (e2 ++ (e3 ++ (e4 ++ L0))))), by exact kP, ⟨sl', sc, ss, sm⟩, es' ++ (e2 ++ (e3 ++ e4)), eq, ⟨sq, rfl, hrq⟩, ⟨es', e2, e3, e4, rfl, hrow', h2, h3, h4⟩, by simp⟩
theorem c_cli_ap1 (x : Cred) (hu : usable cl serv serv now 1 = some x) : Tri Tryz.prog 174 [.pointer (some ⟨b, o, none⟩), I serv, I now] ((b, cellsO (putC c o (clientC cl s)) T) :: (es ++ L0)) (CliR L0 b o c T (clientAp cl serv now)) := by
  have he : clientAp cl serv now = ({ cl with num := cl.num + 1, sent := cl.sent ++ [⟨serv, x.key, now, cl.num + 1⟩] }, some ⟨5, 0, serv, 0, [x.ticket, mkAuth cl.id x.key now (cl.num + 1)]⟩) := by unfold clientAp; rw [hu]
  rw [he]
  obtain ⟨sw, sc, ⟨a1, n1, c1⟩, sm⟩ := s
  obtain ⟨e1, e2, e3, e4, rfl, h1, h2, h3, h4⟩ := hown
  dsimp only at h1 h2 h3 h4
  simp only [List.append_assoc]
  refine Tri.of Tryz.func174 rfl rfl Tryz.ntmps174 rfl rfl ?_
  (repeat' (first | refine nX ?_ | (refine nA ?_; intro _) | (refine nW ?_; first | (refine op_call_id ?_; refine op_ro rfl rfl (by exact (c_usable b o c T cl ⟨sw, sc, ⟨a1, n1, c1⟩, sm⟩ serv serv now 1 ho (by exact kM) (h2.atL (by exact kS)) hn (by omega)).eq (congrArg usV hu)) ?_)) | refine nY ?_ | refine WA_alt ?_ ?_ | refine nR ?_ | refine WC_drawL (id := 6) (ops := o174x6L15) r174x6L15 (by kernel_rfl) rfl ?_ | refine WC_cond rfl (fun hc => ?_) (fun hc => ?_)))
  rename_i b6 b8
  (repeat' (first | refine nX ?_ | (refine nA ?_; intro _) | (refine nW ?_; first | (refine op_call_id ?_; refine op_ro rfl rfl (by exact (c_usable b o c T cl ⟨sw, sc, ⟨a1, n1, c1⟩, sm⟩ serv serv now 1 ho (by exact kM) (h2.atL (by exact kS)) hn (by omega)).eq (congrArg usV hu)) ?_) | (refine go_append ?_; refine op_appendRow (sl := ⟨_, _, _⟩) (sx := ⟨_, _, _⟩) rfl rfl rfl rfl rfl rfl rfl rfl rfl (h3) (by exact kE) (SliceAt.one (x := (⟨serv, x.key, now, cl.num + 1⟩ : Call)) (by exact kM) rfl) (by exact kN) ?_; intro sl' es' hrow' hst') | (refine op_call_id ?_; refine op_call rfl (c_auth b o c T [I cl.id, I (cl.num + 1), sw.v, sc.v, sl'.v, sm.v] cl.id x now (cl.num + 1) rfl (by assumption) (by exact kM)) rfl ?_; rintro _ _ ⟨sq, eq, rfl, hrq, rfl⟩)) | refine nY ?_ | refine WA_alt ?_ ?_ | refine nR ?_ | refine WC_draw (id := 5) (ops := o174x5L15) ([(b8, cellsO (credC x) 164), (b, cellsO (putC c o [I cl.id, I (cl.num + 1), sw.v, sc.v, .slice a1 n1 c1, sm.v]) T)]) r174x5L15 (by kernel_rfl) rfl ?_ | refine WC_draw (id := 6) (ops := o174x6L15) ([(b8, cellsO (credC x) 164), (b, cellsO (putC c o [I cl.id, I (cl.num + 1), sw.v, sc.v, sl'.v, sm.v]) T)]) r174x6L15 (by kernel_rfl) rfl ?_ | refine WC_cond rfl (fun hc => ?_) (fun hc => ?_)))
  refine ret_ret (by exact kR) ?_; exact ⟨eq ++ ((b, cellsO (putC c o [I cl.id, I (cl.num + 1), sw.v, sc.v, sl'.v, sm.v]) T) :: (e1 ++ (e2 ++ (es' ++ (e4 ++ L0))))), by exact kP, ⟨sw, sc, sl', sm⟩, e1 ++ (e2 ++ (es' ++ e4)), eq, ⟨sq, rfl, hrq⟩, ⟨e1, e2, es', e4, rfl, h1, h2, hrow', h4⟩, by simp⟩
theorem c_cli_tgs : Tri Tryz.prog 173 [.pointer (some ⟨b, o, none⟩), I serv, I now] ((b, cellsO (putC c o (clientC cl s)) T) :: (es ++ L0)) (CliR L0 b o c T (clientTgs cl serv now)) := by
  cases hu : usable cl 6 serv now 2 with
  | none => exact c_cli_tgs0 b o c T cl s es serv now ho hn hw hs hown hu
  | some x => exact c_cli_tgs1 b o c T cl s es serv now ho hn hw hs hown x hu
theorem c_cli_ap : Tri Tryz.prog 174 [.pointer (some ⟨b, o, none⟩), I serv, I now] ((b, cellsO (putC c o (clientC cl s)) T) :: (es ++ L0)) (CliR L0 b o c T (clientAp cl serv now)) := by
  cases hu : usable cl serv serv now 1 with
  | none => exact c_cli_ap0 b o c T cl s es serv now ho hn hw hs hown hu
  | some x => exact c_cli_ap1 b o c T cl s es serv now ho hn hw hs hown x hu
end
end Go.Proofs.YtoledfhjmdpihaaGreat
/- Users: what one is given. -/
set_option linter.unusedVariables false
set_option linter.unusedSectionVars false
set_option linter.unusedSimpArgs false
namespace Go.Proofs.YtoledfhjmdpihaaGreat
open Go Go.Proofs Go.Proofs.YtoledfhjmdpihaaGreat.VE
attribute [local irreducible] Val Op1 WO WR WA WC seqQ blockQ loopQ retQ
noncomputable def o208x1L16 : Array Oper := cops (cl (cr (codeOf Tryz.f208)))
noncomputable def o208x7L16 : Array Oper := cops (cl (cr (cr (cr (cr (cr (cr (cr (codeOf Tryz.f208)))))))))
noncomputable def o208x8L16 : Array Oper := cops (cr (cr (cr (cr (cr (cr (cr (cr (codeOf Tryz.f208)))))))))
noncomputable def r208x1L16 : Run := (.st 0 0 (.st 1 0 (.st 2 0 (.st 3 1 (.st 4 0 (.st 5 1 (.st 6 0 (.st 7 1 (.st 8 0 (.st 9 3 (.st 10 0 .done)))))))))))
noncomputable def r208x7L16 : Run := (.st 0 0 (.st 1 0 (.st 2 0 (.st 3 1 (.st 4 0 (.st 5 1 (.st 6 0 (.st 7 3 .done))))))))
noncomputable def r208x8L16 : Run := (.st 0 0 (.st 1 0 (.st 2 0 (.st 3 0 (.st 4 1 (.st 5 1 (.st 6 2 (.st 7 3 (.st 8 0 (.st 9 0 (.st 10 3 .done)))))))))))
set_option maxHeartbeats 4000000
theorem erase_idx {X : Type} [DecidableEq X] (w : X) : ∀ (xs : List X) (k : Nat), xs[k]? = some w → (∀ z ∈ xs.take k, z ≠ w) → xs.erase w = xs.eraseIdx k
  | [], k, h, _ => by simp at h
  | y :: r, 0, h, _ => by
    have : y = w := by simpa using h
    subst this; simp
  | y :: r, k + 1, h, hn => by
    have hy : y ≠ w := hn y (by simp)
    rw [List.erase_cons_tail (by simpa using hy), List.eraseIdx_cons_succ, erase_idx w r k (by simpa using h) (fun z hz => hn z (by simp [hz]))]
theorem putCred_set (x : Cred) : ∀ (xs : List Cred) (k : Nat) (y : Cred), xs[k]? = some y → y.serv = x.serv → (∀ z ∈ xs.take k, z.serv ≠ x.serv) → putCred x xs = xs.set k x
  | [], k, y, h, _, _ => by simp at h
  | z :: r, 0, y, h, hy, _ => by
    have : z = y := by simpa using h
    subst this; simp [putCred, hy]
  | z :: r, k + 1, y, h, hy, hn => by
    have hz : z.serv ≠ x.serv := hn z (by simp)
    simp only [putCred, if_neg hz, List.set_cons_succ]
    rw [putCred_set x r k y (by simpa using h) hy (fun u hu => hn u (by simp [hu]))]
theorem putCred_new (x : Cred) : ∀ xs : List Cred, (∀ z ∈ xs, z.serv ≠ x.serv) → putCred x xs = xs ++ [x]
  | [], _ => rfl
  | z :: r, h => by
    simp only [putCred, if_neg (h z List.mem_cons_self), List.cons_append]
    rw [putCred_new x r fun u hu => h u (List.mem_cons_of_mem _ hu)]
/-- It hears, and hands back nothing. -/
def CliH (L0 : List Ent) (b o : Nat) (c : List Value) (T : TypeId) (r : Client) (v : Value) (L' : List Ent) : Prop := v = .tuple #[] ∧ ∃ s' es', CliOwn (r, s') es' ∧ L' = (b, cellsO (putC c o (clientC r s')) T) :: (es' ++ L0)
section
variable {L0 : List Ent} (b o : Nat) (c : List Value) (T : TypeId) (cl : Client) (s : CSl) (es : List Ent) (tk pt : Seal) (ho : o + 6 ≤ c.length) (hw : cl.wants.length ≤ 100) (hs : cl.creds.length ≤ 100) (hown : CliOwn (cl, s) es)
include ho hw hs hown
theorem c_given1 (hk : tk.kind ≠ 1) : Tri Tryz.prog 208 [.pointer (some ⟨b, o, none⟩), sealV tk, sealV pt] ((b, cellsO (putC c o (clientC cl s)) T) :: (es ++ L0)) (CliH L0 b o c T (given cl tk pt)) := by
  have he : given cl tk pt = cl := by unfold given; exact if_neg fun h => hk h.1
  rw [he]
  have hat := hown.at
  refine Tri.of Tryz.func208 rfl rfl Tryz.ntmps208 rfl rfl ?_
  (repeat' (first | (refine nW ?_; refine op_val rfl (by exact val_neq_t rfl rfl hk) ?_) | (refine WR_id ?_; refine WR_pure rfl rfl rfl (by exact val_neq_t rfl rfl hk) ?_) | refine nX ?_ | (refine nA ?_; intro _) | (refine nW ?_; first | (refine op_call_id ?_; refine op_ro rfl rfl (by exact c_indeximpl.Want s.w cl.wants ⟨pt.a, pt.c⟩ (hat.w.mono (by exact kS))) ?_)) | refine nY ?_ | refine WA_alt ?_ ?_ | refine nR ?_ | refine WC_drawL (id := 1) (ops := o208x1L16) r208x1L16 (by kernel_rfl) rfl ?_ | refine WC_drawL (id := 7) (ops := o208x7L16) r208x7L16 (by kernel_rfl) rfl ?_ | refine WC_drawL (id := 8) (ops := o208x8L16) r208x8L16 (by kernel_rfl) rfl ?_ | refine WC_cond rfl (fun hc => ?_) (fun hc => ?_)))
  refine ret_ret (by exact kR) ?_; exact ⟨(b, cellsO (putC c o (clientC cl s)) T) :: (es ++ L0), by exact kP, rfl, s, es, hown, rfl⟩
theorem c_given2 (hk : tk.kind = 1) (hi : idx (fun y => decide ((⟨pt.a, pt.c⟩ : Want) = y)) cl.wants = -1) (hno : (⟨pt.a, pt.c⟩ : Want) ∉ cl.wants) : Tri Tryz.prog 208 [.pointer (some ⟨b, o, none⟩), sealV tk, sealV pt] ((b, cellsO (putC c o (clientC cl s)) T) :: (es ++ L0)) (CliH L0 b o c T (given cl tk pt)) := by
  have he : given cl tk pt = cl := by unfold given; exact if_neg fun h => hno h.2
  rw [he]
  have hat := hown.at
  refine Tri.of Tryz.func208 rfl rfl Tryz.ntmps208 rfl rfl ?_
  (repeat' (first | (refine nW ?_; refine op_val rfl (by first | exact val_neq_f rfl rfl hk | exact val_lss_t rfl rfl (by decide)) ?_) | (refine WR_id ?_; refine WR_pure rfl rfl rfl (by first | exact val_neq_f rfl rfl hk | exact val_lss_t rfl rfl (by decide)) ?_) | refine nX ?_ | (refine nA ?_; intro _) | (refine nW ?_; first | (refine op_call_id ?_; refine op_ro rfl rfl (by exact (c_indeximpl.Want s.w cl.wants ⟨pt.a, pt.c⟩ (hat.w.mono (by exact kS))).eq (by rw [hi])) ?_)) | refine nY ?_ | refine WA_alt ?_ ?_ | refine nR ?_ | refine WC_drawL (id := 1) (ops := o208x1L16) r208x1L16 (by kernel_rfl) rfl ?_ | refine WC_drawL (id := 7) (ops := o208x7L16) r208x7L16 (by kernel_rfl) rfl ?_ | refine WC_drawL (id := 8) (ops := o208x8L16) r208x8L16 (by kernel_rfl) rfl ?_ | refine WC_cond rfl (fun hc => ?_) (fun hc => ?_)))
  refine ret_ret (by exact kR) ?_; exact ⟨(b, cellsO (putC c o (clientC cl s)) T) :: (es ++ L0), by exact kP, rfl, s, es, hown, rfl⟩
theorem c_given3 (hk : tk.kind = 1) (k : Nat) (hi : idx (fun y => decide ((⟨pt.a, pt.c⟩ : Want) = y)) cl.wants = k) (hlt : k < cl.wants.length) (he1 : cl.wants.erase ⟨pt.a, pt.c⟩ = cl.wants.eraseIdx k) (hin : (⟨pt.a, pt.c⟩ : Want) ∈ cl.wants)
    (hc : credIdx cl pt.a = -1) (hput : putCred ⟨pt.a, pt.b, pt.d, tk⟩ cl.creds = cl.creds ++ [⟨pt.a, pt.b, pt.d, tk⟩]) : Tri Tryz.prog 208 [.pointer (some ⟨b, o, none⟩), sealV tk, sealV pt] ((b, cellsO (putC c o (clientC cl s)) T) :: (es ++ L0)) (CliH L0 b o c T (given cl tk pt)) := by
  have he : given cl tk pt = { cl with wants := cl.wants.eraseIdx k, creds := cl.creds ++ [⟨pt.a, pt.b, pt.d, tk⟩] } := by unfold given; rw [if_pos ⟨hk, hin⟩, he1, hput]
  rw [he]
  obtain ⟨sw, ⟨a2, n2, c2⟩, ss, sm⟩ := s
  obtain ⟨e1, e2, e3, e4, rfl, h1, h2, h3, h4⟩ := hown
  dsimp only at h1 h2 h3 h4
  simp only [List.append_assoc]
  refine Tri.of Tryz.func208 rfl rfl Tryz.ntmps208 rfl rfl ?_
  (repeat' (first | (refine nW ?_; refine op_val rfl (by first | exact val_neq_f rfl rfl hk | exact val_lss_f rfl rfl (by omega) | exact val_geq_f rfl rfl (by decide)) ?_) | (refine WR_id ?_; refine WR_pure rfl rfl rfl (by first | exact val_neq_f rfl rfl hk | exact val_lss_f rfl rfl (by omega) | exact val_geq_f rfl rfl (by decide)) ?_) | refine nX ?_ | (refine nA ?_; intro _) | (refine nW ?_; first | (refine op_call_id ?_; refine op_ro rfl rfl (by first | exact (c_indeximpl.Want sw cl.wants ⟨pt.a, pt.c⟩ (h1.atL (by exact kS))).eq (by rw [hi]) | exact (c_cred b o c T cl ⟨_, ⟨a2, n2, c2⟩, ss, sm⟩ _ _ _ _ pt.a ho (by exact kM) (h2.atL (by exact kS))).eq (by rw [hc])) ?_) | (refine op_call_id ?_; refine op_call rfl ((c_deleteWant sw cl.wants e1 k h1 hlt).perm (by exact kE)) rfl ?_; rintro _ _ ⟨⟨aq, nq, cq⟩, eq, rfl, hrq, rfl⟩)) | refine nY ?_ | refine WA_alt ?_ ?_ | refine nR ?_ | refine WC_drawL (id := 1) (ops := o208x1L16) r208x1L16 (by kernel_rfl) rfl ?_ | refine WC_cond rfl (fun hc => ?_) (fun hc => ?_)))
  rename_i b4 b5 b7
  (repeat' (first | refine nX ?_ | (refine nA ?_; intro _) | (refine nW ?_; first | (refine go_append ?_; refine op_appendRow (sl := ⟨_, _, _⟩) (sx := ⟨_, _, _⟩) rfl rfl rfl rfl rfl rfl rfl rfl rfl (h2) (by exact kE) (SliceAt.one (x := (⟨pt.a, pt.b, pt.d, tk⟩ : Cred)) (by exact kM) rfl) (by exact kN) ?_; intro sl' es' hrow' hst')) | refine nY ?_ | refine WA_alt ?_ ?_ | refine nR ?_ | refine WC_drawL (id := 1) (ops := o208x1L16) r208x1L16 (by kernel_rfl) rfl ?_ | refine WC_drawL (id := 7) (ops := o208x7L16) r208x7L16 (by kernel_rfl) rfl ?_ | refine WC_draw (id := 8) (ops := o208x8L16) ([(b7, cellsO (credC ⟨pt.a, pt.b, pt.d, tk⟩) 164), (b, cellsO (putC c o [I cl.id, I cl.num, .slice aq nq cq, .slice a2 n2 c2, ss.v, sm.v]) T)]) r208x8L16 (by kernel_rfl) rfl ?_ | refine WC_cond rfl (fun hc => ?_) (fun hc => ?_)))
  refine ret_normal (by exact kR) ?_; exact ⟨(b, cellsO (putC c o [I cl.id, I cl.num, .slice aq nq cq, sl'.v, ss.v, sm.v]) T) :: (eq ++ (es' ++ (e3 ++ (e4 ++ L0)))), by exact kP, rfl, ⟨⟨aq, nq, cq⟩, sl', ss, sm⟩, eq ++ (es' ++ (e3 ++ e4)), ⟨eq, es', e3, e4, rfl, hrq, hrow', h3, h4⟩, by simp⟩
theorem c_given4 (hk : tk.kind = 1) (k : Nat) (hi : idx (fun y => decide ((⟨pt.a, pt.c⟩ : Want) = y)) cl.wants = k) (hlt : k < cl.wants.length) (he1 : cl.wants.erase ⟨pt.a, pt.c⟩ = cl.wants.eraseIdx k) (hin : (⟨pt.a, pt.c⟩ : Want) ∈ cl.wants)
    (k2 : Nat) (hc : credIdx cl pt.a = k2) (hlt2 : k2 < cl.creds.length) (hput : putCred ⟨pt.a, pt.b, pt.d, tk⟩ cl.creds = cl.creds.set k2 ⟨pt.a, pt.b, pt.d, tk⟩) : Tri Tryz.prog 208 [.pointer (some ⟨b, o, none⟩), sealV tk, sealV pt] ((b, cellsO (putC c o (clientC cl s)) T) :: (es ++ L0)) (CliH L0 b o c T (given cl tk pt)) := by
  have he : given cl tk pt = { cl with wants := cl.wants.eraseIdx k, creds := cl.creds.set k2 ⟨pt.a, pt.b, pt.d, tk⟩ } := by unfold given; rw [if_pos ⟨hk, hin⟩, he1, hput]
  rw [he]
  obtain ⟨sw, ⟨a2, n2, c2⟩, ss, sm⟩ := s
  obtain ⟨e1, e2, e3, e4, rfl, h1, h2, h3, h4⟩ := hown
  dsimp only at h1 h2 h3 h4
  obtain ⟨g, cap', rest, h21, rfl, h23, h24, h25⟩ := h2.block (by omega)
  cases h21
  simp only [List.append_assoc]
  refine Tri.of Tryz.func208 rfl rfl Tryz.ntmps208 rfl rfl ?_
  (repeat' (first | (refine nW ?_; refine op_val rfl (by first | exact val_neq_f rfl rfl hk | exact val_lss_f rfl rfl (by omega) | exact val_geq_t rfl rfl (by omega)) ?_) | (refine WR_id ?_; refine WR_pure rfl rfl rfl (by first | exact val_neq_f rfl rfl hk | exact val_lss_f rfl rfl (by omega) | exact val_geq_t rfl rfl (by omega)) ?_) | refine nX ?_ | (refine nA ?_; intro _) | (refine nW ?_; first | (refine op_call_id ?_; refine op_ro rfl rfl (by first | exact (c_indeximpl.Want sw cl.wants ⟨pt.a, pt.c⟩ (h1.atL (by exact kS))).eq (by rw [hi]) | exact (c_cred b o c T cl ⟨_, ⟨_, _, _⟩, ss, sm⟩ _ _ _ _ pt.a ho (by exact kM) (h2.atL (by exact kS))).eq (by rw [hc])) ?_) | (refine op_call_id ?_; refine op_call rfl ((c_deleteWant sw cl.wants e1 k h1 hlt).perm (by exact kE)) rfl ?_; rintro _ _ ⟨⟨aq, nq, cq⟩, eq, rfl, hrq, rfl⟩)) | refine nY ?_ | refine WA_alt ?_ ?_ | refine nR ?_ | refine WC_drawL (id := 1) (ops := o208x1L16) r208x1L16 (by kernel_rfl) rfl ?_ | refine WC_cond rfl (fun hc => ?_) (fun hc => ?_)))
  rename_i b4 b5 b7
  (repeat' (first | refine nX ?_ | (refine nA ?_; intro _) | (refine nW ?_; first | (refine op_store_id ?_; (refine op_storeRow (E := encCred) (v := ⟨pt.a, pt.b, pt.d, tk⟩) (i := k2) rfl rfl rfl rfl (by exact kF) rfl hlt2 ?_))) | refine nY ?_ | refine WA_alt ?_ ?_ | refine nR ?_ | refine WC_drawL (id := 1) (ops := o208x1L16) r208x1L16 (by kernel_rfl) rfl ?_ | refine WC_draw (id := 7) (ops := o208x7L16) ([(b7, cellsO (credC ⟨pt.a, pt.b, pt.d, tk⟩) 164), (b, cellsO (putC c o [I cl.id, I cl.num, .slice aq nq cq, .slice (some ⟨g, 0, none⟩) cl.creds.length c2, ss.v, sm.v]) T)]) r208x7L16 (by kernel_rfl) rfl ?_ | refine WC_drawL (id := 8) (ops := o208x8L16) r208x8L16 (by kernel_rfl) rfl ?_ | refine WC_cond rfl (fun hc => ?_) (fun hc => ?_)))
  have h2' : Row encCred 164 ⟨some ⟨g, 0, none⟩, cl.creds.length, c2⟩ (cl.creds.set k2 ⟨pt.a, pt.b, pt.d, tk⟩) [(g, cellsO (encCred.row (cl.creds.set k2 ⟨pt.a, pt.b, pt.d, tk⟩) ++ rest) 164)] := by
    have := Row.mk (E := encCred) (T := 164) (g := g) (cap := c2) (rest := rest) (xs := cl.creds.set k2 ⟨pt.a, pt.b, pt.d, tk⟩) (by simpa using h23) (by simpa using h24) h25 (by simpa using h2.2)
    simpa using this
  refine ret_normal (by exact kR) ?_; exact ⟨(b, cellsO (putC c o [I cl.id, I cl.num, .slice aq nq cq, .slice (some ⟨g, 0, none⟩) cl.creds.length c2, ss.v, sm.v]) T) :: (eq ++ ([(g, cellsO (encCred.row (cl.creds.set k2 ⟨pt.a, pt.b, pt.d, tk⟩) ++ rest) 164)] ++ (e3 ++ (e4 ++ L0)))), by exact kP, rfl, ⟨⟨aq, nq, cq⟩, ⟨_, _, _⟩, ss, sm⟩, eq ++ ([(g, cellsO (encCred.row (cl.creds.set k2 ⟨pt.a, pt.b, pt.d, tk⟩) ++ rest) 164)] ++ (e3 ++ e4)), ⟨eq, _, e3, e4, rfl, hrq, h2', h3, h4⟩, by simp⟩
theorem c_given : Tri Tryz.prog 208 [.pointer (some ⟨b, o, none⟩), sealV tk, sealV pt] ((b, cellsO (putC c o (clientC cl s)) T) :: (es ++ L0)) (CliH L0 b o c T (given cl tk pt)) := by
  by_cases hk : tk.kind = 1
  · rcases idx_cases (fun y => decide ((⟨pt.a, pt.c⟩ : Want) = y)) cl.wants with ⟨hi, hno⟩ | ⟨k, w, hi, hw', hp, hall⟩
    · exact c_given2 b o c T cl s es tk pt ho hw hs hown hk hi (fun hm => by have := hno _ hm; simp at this)
    · have hwe : (⟨pt.a, pt.c⟩ : Want) = w := by simpa using hp
      subst hwe
      have he1 := erase_idx _ _ _ hw' (fun z hz => by have := hall z hz; simp at this; exact fun e => this e.symm)
      have hlt := (List.getElem?_eq_some_iff.1 hw').1
      have hin := List.mem_of_getElem? hw'
      rcases idx_cases (fun x : Cred => x.serv == pt.a) cl.creds with ⟨h1, h2⟩ | ⟨k2, y, h1, h2, h3, h4⟩
      · exact c_given3 b o c T cl s es tk pt ho hw hs hown hk k hi hlt he1 hin h1 (putCred_new _ _ fun z hz => by have := h2 z hz; simpa using this)
      · exact c_given4 b o c T cl s es tk pt ho hw hs hown hk k hi hlt he1 hin k2 h1 (List.getElem?_eq_some_iff.1 h2).1 (putCred_set _ _ _ y h2 (by simpa using h3) fun z hz => by have := h4 z hz; simpa using this)
  · exact c_given1 b o c T cl s es tk pt ho hw hs hown hk
end
end Go.Proofs.YtoledfhjmdpihaaGreat
