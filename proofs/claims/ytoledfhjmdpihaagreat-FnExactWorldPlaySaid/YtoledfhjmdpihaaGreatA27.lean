/- Rows are marked. -/
import Derived.Test.YtoledfhjmdpihaaGreatA25
set_option linter.unusedVariables false
set_option linter.unusedSectionVars false
set_option linter.unusedSimpArgs false
namespace Go.Proofs.YtoledfhjmdpihaaGreat
open Go Go.Proofs Go.Proofs.YtoledfhjmdpihaaGreat.VE
attribute [local irreducible] Val Op1 WO WR WA WC seqQ blockQ loopQ retQ
set_option maxHeartbeats 8000000
theorem frontEE {e1 e2 L L1 L0 : List Ent} (h1 : L.Perm (e1 ++ L1)) (h2 : L1.Perm (e2 ++ L0)) : L.Perm (e1 ++ (e2 ++ L0)) := h1.trans (h2.append_left e1)
theorem put_row {X : Type} (E : Enc X) (xs : List X) (x : X) (rest cc : List Value) {k sz : Nat} (hE : E.sz = sz) (hk : k < xs.length) (h : cc = E.row xs ++ rest) : putC cc (0 + ((k : Int)).toNat * sz) (E.cells x) = E.row (xs.set k x) ++ rest ∧ 0 + ((k : Int)).toNat * sz + (E.cells x).length ≤ cc.length := by
  subst hE h
  refine ⟨by rw [Nat.zero_add]; exact row_set E xs x rest hk, ?_⟩
  rw [List.length_append, E.row_length, E.len]
  have : (k + 1) * E.sz ≤ xs.length * E.sz := Nat.mul_le_mul_right _ hk
  rw [Nat.add_mul, Nat.one_mul] at this
  show 0 + k * E.sz + E.sz ≤ _
  omega
theorem c_markSealS {L L0 : List Ent} (s : Sl) (xs : List Seal) (es : List Ent) (hL : L.Perm (es ++ L0)) (hr : Row encSeal 155 s xs es) (k0 : Int) (hk : 0 ≤ k0 ∧ k0 ≤ 288230376151711744) (hn : xs.length ≤ 2000000) :
    Tri Tryz.prog 57 [s.v, I k0] L (fun v L' => ∃ xs' es' k', v = I k' ∧ xs'.length = xs.length ∧ Row encSeal 155 s xs' es' ∧ HL HSeal k0 xs' k' ∧ k' = k0 + 7 * (xs.length : Int) ∧ L' = es' ++ L0) := by
  refine Tri.perm ?_ hL
  obtain ⟨a, nn, c⟩ := s
  have hnn := hr.n
  dsimp only at hnn
  subst hnn
  rcases Nat.eq_zero_or_pos xs.length with h0 | hpos
  · have h00 : xs = [] := List.eq_nil_of_length_eq_zero h0
    subst h00
    refine Tri.of Tryz.func57 rfl rfl Tryz.ntmps57 rfl rfl ?_
    (repeat' (first | refine nI ?_ | (refine nA ?_; intro _) | refine nY ?_ | refine nR ?_ | refine WC_cond rfl (fun hc => ?_) (fun hc => ?_)))
    refine WC_loop (fun mz Ez Mz => ∃ k : Nat, k + mz = (([] : List Seal)).length ∧ Ez = [(0, .slice a 0 c), (1, I k0), (5, I k)] ∧ Mz = es ++ L0 ∧ (True)) (([] : List Seal)).length (by exact kQ) (by exact kL) ⟨0, by omega, rfl, rfl, by trivial⟩ ?_
    rintro mz Ez Mz ⟨k, hk, rfl, rfl, hin⟩
    rcases Nat.lt_or_ge k (([] : List Seal)).length with hlt | hge
    · exact absurd hlt (by simp)
    (repeat' (first | refine nI ?_ | (refine nA ?_; intro _) | refine nY ?_ | refine nR ?_ | refine WC_cond rfl (fun hc => ?_) (fun hc => ?_)))
    refine ret_ret (by exact kR) ?_; exact ⟨es ++ L0, by exact kP, [], es, k0, rfl, rfl, hr, rfl, by simp, rfl⟩
  obtain ⟨g, cap, rest, hsl, rfl, h3, h4, h5⟩ := hr.block hpos
  cases hsl
  refine Tri.of Tryz.func57 rfl rfl Tryz.ntmps57 rfl rfl ?_
  (repeat' (first | refine nI ?_ | (refine nA ?_; intro _) | refine nY ?_ | refine nR ?_ | refine WC_cond rfl (fun hc => ?_) (fun hc => ?_)))
  refine WC_loop (fun mz Ez Mz => ∃ (k : Nat) (ds zs : List Seal) (kk : Int) (cells : List Value), k + mz = (xs).length ∧ Ez = [(0, .slice (some ⟨g, 0, none⟩) xs.length c), (1, I kk), (5, I k)] ∧ Mz = (g, cellsO cells 155) :: L0 ∧ (cells = encSeal.row zs ++ rest ∧ zs = ds ++ xs.drop k ∧ ds.length = k ∧ HL HSeal k0 ds kk ∧ kk = k0 + 7 * (k : Int))) (xs).length (by exact kQ) (by exact kL) ⟨0, [], xs, k0, encSeal.row xs ++ rest, by omega, rfl, rfl, by exact ⟨rfl, by simp, rfl, rfl, by omega⟩⟩ ?_
  rintro mz Ez Mz ⟨k, ds, zs, kk, cells, hk, rfl, rfl, hin⟩
  rcases Nat.lt_or_ge k (xs).length with hlt | hge
  · obtain ⟨hcl, hzs, hdl, hh, hkk⟩ := hin
    obtain ⟨y, hy⟩ : ∃ y, xs[k]? = some y := ⟨_, List.getElem?_eq_getElem hlt⟩
    rw [drop_hl hy] at hzs
    have hzl : zs.length = xs.length := by rw [hzs, List.length_append, List.length_cons, List.length_drop]; omega
    obtain ⟨cc, hcc⟩ : ∃ cc, cells = cc := ⟨_, rfl⟩
    have hself : zs.set k y = zs := by rw [hzs, set_mid hdl, List.append_assoc]; rfl
    have hp := put_row encSeal zs y rest cc (k := k) (sz := 7) rfl (by omega) (hcc ▸ hcl)
    have hput : cells = putC cc (0 + ((k : Int)).toNat * 7) (sealC y) := by
      have h1 := hp.1
      rw [hself, ← hcl] at h1
      exact h1.symm
    have hlen : 0 + ((k : Int)).toNat * 7 + (sealC y).length ≤ cc.length := hp.2
    have hcl9 : putC cc (0 + ((k : Int)).toNat * 7) (sealC (markSealAt kk)) = encSeal.row (zs.set k (markSealAt kk)) ++ rest := (put_row encSeal zs (markSealAt kk) rest cc (k := k) (sz := 7) rfl (by omega) (hcc ▸ hcl)).1
    rw [hput]
    (repeat' (first | refine nI ?_ | (refine nA ?_; intro _) | refine nY ?_ | refine nR ?_ | refine WC_cond rfl (fun hc => ?_) (fun hc => ?_)))
    exact loopQ_next ⟨mz - 1, _, _, by omega, by exact kQ, by exact kL, k + 1, ds ++ [markSealAt kk], zs.set k (markSealAt kk), kk + 1 + 1 + 1 + 1 + 1 + 1 + 1, putC cc (0 + ((k : Int)).toNat * 7) (sealC (markSealAt kk)), by omega, rfl, rfl, by exact ⟨hcl9, by rw [hzs, set_mid hdl], by simp [hdl], HL.snoc hh ⟨rfl, rfl⟩, by omega⟩⟩
  · obtain ⟨hcl, hzs, hdl, hh, hkk⟩ := hin
    have hk9 : k = xs.length := by omega
    subst hk9
    rw [List.drop_length, List.append_nil] at hzs
    subst hzs hcl
    have hfin := Row.mk (E := encSeal) (T := 155) (g := g) (cap := c) (rest := rest) (xs := zs) (by omega) (by rw [hdl]; exact h4) h5 (by rw [hdl]; exact hr.2)
    rw [hdl] at hfin
    (repeat' (first | refine nI ?_ | (refine nA ?_; intro _) | refine nY ?_ | refine nR ?_ | refine WC_cond rfl (fun hc => ?_) (fun hc => ?_)))
    refine ret_ret (by exact kR) ?_; exact ⟨(g, cellsO (encSeal.row zs ++ rest) 155) :: L0, by exact kP, zs, [(g, cellsO (encSeal.row zs ++ rest) 155)], kk, rfl, hdl, hfin, hh, hkk, rfl⟩
theorem c_markWantS {L L0 : List Ent} (s : Sl) (xs : List Want) (es : List Ent) (hL : L.Perm (es ++ L0)) (hr : Row encWant 162 s xs es) (k0 : Int) (hk : 0 ≤ k0 ∧ k0 ≤ 288230376151711744) (hn : xs.length ≤ 2000000) :
    Tri Tryz.prog 110 [s.v, I k0] L (fun v L' => ∃ xs' es' k', v = I k' ∧ xs'.length = xs.length ∧ Row encWant 162 s xs' es' ∧ HL HWant k0 xs' k' ∧ k' = k0 + 2 * (xs.length : Int) ∧ L' = es' ++ L0) := by
  refine Tri.perm ?_ hL
  obtain ⟨a, nn, c⟩ := s
  have hnn := hr.n
  dsimp only at hnn
  subst hnn
  rcases Nat.eq_zero_or_pos xs.length with h0 | hpos
  · have h00 : xs = [] := List.eq_nil_of_length_eq_zero h0
    subst h00
    refine Tri.of Tryz.func110 rfl rfl Tryz.ntmps110 rfl rfl ?_
    (repeat' (first | refine nI ?_ | (refine nA ?_; intro _) | refine nY ?_ | refine nR ?_ | refine WC_cond rfl (fun hc => ?_) (fun hc => ?_)))
    refine WC_loop (fun mz Ez Mz => ∃ k : Nat, k + mz = (([] : List Want)).length ∧ Ez = [(0, .slice a 0 c), (1, I k0), (5, I k)] ∧ Mz = es ++ L0 ∧ (True)) (([] : List Want)).length (by exact kQ) (by exact kL) ⟨0, by omega, rfl, rfl, by trivial⟩ ?_
    rintro mz Ez Mz ⟨k, hk, rfl, rfl, hin⟩
    rcases Nat.lt_or_ge k (([] : List Want)).length with hlt | hge
    · exact absurd hlt (by simp)
    (repeat' (first | refine nI ?_ | (refine nA ?_; intro _) | refine nY ?_ | refine nR ?_ | refine WC_cond rfl (fun hc => ?_) (fun hc => ?_)))
    refine ret_ret (by exact kR) ?_; exact ⟨es ++ L0, by exact kP, [], es, k0, rfl, rfl, hr, rfl, by simp, rfl⟩
  obtain ⟨g, cap, rest, hsl, rfl, h3, h4, h5⟩ := hr.block hpos
  cases hsl
  refine Tri.of Tryz.func110 rfl rfl Tryz.ntmps110 rfl rfl ?_
  (repeat' (first | refine nI ?_ | (refine nA ?_; intro _) | refine nY ?_ | refine nR ?_ | refine WC_cond rfl (fun hc => ?_) (fun hc => ?_)))
  refine WC_loop (fun mz Ez Mz => ∃ (k : Nat) (ds zs : List Want) (kk : Int) (cells : List Value), k + mz = (xs).length ∧ Ez = [(0, .slice (some ⟨g, 0, none⟩) xs.length c), (1, I kk), (5, I k)] ∧ Mz = (g, cellsO cells 162) :: L0 ∧ (cells = encWant.row zs ++ rest ∧ zs = ds ++ xs.drop k ∧ ds.length = k ∧ HL HWant k0 ds kk ∧ kk = k0 + 2 * (k : Int))) (xs).length (by exact kQ) (by exact kL) ⟨0, [], xs, k0, encWant.row xs ++ rest, by omega, rfl, rfl, by exact ⟨rfl, by simp, rfl, rfl, by omega⟩⟩ ?_
  rintro mz Ez Mz ⟨k, ds, zs, kk, cells, hk, rfl, rfl, hin⟩
  rcases Nat.lt_or_ge k (xs).length with hlt | hge
  · obtain ⟨hcl, hzs, hdl, hh, hkk⟩ := hin
    obtain ⟨y, hy⟩ : ∃ y, xs[k]? = some y := ⟨_, List.getElem?_eq_getElem hlt⟩
    rw [drop_hl hy] at hzs
    have hzl : zs.length = xs.length := by rw [hzs, List.length_append, List.length_cons, List.length_drop]; omega
    obtain ⟨cc, hcc⟩ : ∃ cc, cells = cc := ⟨_, rfl⟩
    have hself : zs.set k y = zs := by rw [hzs, set_mid hdl, List.append_assoc]; rfl
    have hp := put_row encWant zs y rest cc (k := k) (sz := 2) rfl (by omega) (hcc ▸ hcl)
    have hput : cells = putC cc (0 + ((k : Int)).toNat * 2) (wantC y) := by
      have h1 := hp.1
      rw [hself, ← hcl] at h1
      exact h1.symm
    have hlen : 0 + ((k : Int)).toNat * 2 + (wantC y).length ≤ cc.length := hp.2
    have hcl9 : putC cc (0 + ((k : Int)).toNat * 2) (wantC (markWantAt kk)) = encWant.row (zs.set k (markWantAt kk)) ++ rest := (put_row encWant zs (markWantAt kk) rest cc (k := k) (sz := 2) rfl (by omega) (hcc ▸ hcl)).1
    rw [hput]
    (repeat' (first | refine nI ?_ | (refine nA ?_; intro _) | refine nY ?_ | refine nR ?_ | refine WC_cond rfl (fun hc => ?_) (fun hc => ?_)))
    exact loopQ_next ⟨mz - 1, _, _, by omega, by exact kQ, by exact kL, k + 1, ds ++ [markWantAt kk], zs.set k (markWantAt kk), kk + 1 + 1, putC cc (0 + ((k : Int)).toNat * 2) (wantC (markWantAt kk)), by omega, rfl, rfl, by exact ⟨hcl9, by rw [hzs, set_mid hdl], by simp [hdl], HL.snoc hh ⟨rfl, rfl⟩, by omega⟩⟩
  · obtain ⟨hcl, hzs, hdl, hh, hkk⟩ := hin
    have hk9 : k = xs.length := by omega
    subst hk9
    rw [List.drop_length, List.append_nil] at hzs
    subst hzs hcl
    have hfin := Row.mk (E := encWant) (T := 162) (g := g) (cap := c) (rest := rest) (xs := zs) (by omega) (by rw [hdl]; exact h4) h5 (by rw [hdl]; exact hr.2)
    rw [hdl] at hfin
    (repeat' (first | refine nI ?_ | (refine nA ?_; intro _) | refine nY ?_ | refine nR ?_ | refine WC_cond rfl (fun hc => ?_) (fun hc => ?_)))
    refine ret_ret (by exact kR) ?_; exact ⟨(g, cellsO (encWant.row zs ++ rest) 162) :: L0, by exact kP, zs, [(g, cellsO (encWant.row zs ++ rest) 162)], kk, rfl, hdl, hfin, hh, hkk, rfl⟩
theorem c_markCallS {L L0 : List Ent} (s : Sl) (xs : List Call) (es : List Ent) (hL : L.Perm (es ++ L0)) (hr : Row encCall 169 s xs es) (k0 : Int) (hk : 0 ≤ k0 ∧ k0 ≤ 288230376151711744) (hn : xs.length ≤ 2000000) :
    Tri Tryz.prog 112 [s.v, I k0] L (fun v L' => ∃ xs' es' k', v = I k' ∧ xs'.length = xs.length ∧ Row encCall 169 s xs' es' ∧ HL HCall k0 xs' k' ∧ k' = k0 + 4 * (xs.length : Int) ∧ L' = es' ++ L0) := by
  refine Tri.perm ?_ hL
  obtain ⟨a, nn, c⟩ := s
  have hnn := hr.n
  dsimp only at hnn
  subst hnn
  rcases Nat.eq_zero_or_pos xs.length with h0 | hpos
  · have h00 : xs = [] := List.eq_nil_of_length_eq_zero h0
    subst h00
    refine Tri.of Tryz.func112 rfl rfl Tryz.ntmps112 rfl rfl ?_
    (repeat' (first | refine nI ?_ | (refine nA ?_; intro _) | refine nY ?_ | refine nR ?_ | refine WC_cond rfl (fun hc => ?_) (fun hc => ?_)))
    refine WC_loop (fun mz Ez Mz => ∃ k : Nat, k + mz = (([] : List Call)).length ∧ Ez = [(0, .slice a 0 c), (1, I k0), (5, I k)] ∧ Mz = es ++ L0 ∧ (True)) (([] : List Call)).length (by exact kQ) (by exact kL) ⟨0, by omega, rfl, rfl, by trivial⟩ ?_
    rintro mz Ez Mz ⟨k, hk, rfl, rfl, hin⟩
    rcases Nat.lt_or_ge k (([] : List Call)).length with hlt | hge
    · exact absurd hlt (by simp)
    (repeat' (first | refine nI ?_ | (refine nA ?_; intro _) | refine nY ?_ | refine nR ?_ | refine WC_cond rfl (fun hc => ?_) (fun hc => ?_)))
    refine ret_ret (by exact kR) ?_; exact ⟨es ++ L0, by exact kP, [], es, k0, rfl, rfl, hr, rfl, by simp, rfl⟩
  obtain ⟨g, cap, rest, hsl, rfl, h3, h4, h5⟩ := hr.block hpos
  cases hsl
  refine Tri.of Tryz.func112 rfl rfl Tryz.ntmps112 rfl rfl ?_
  (repeat' (first | refine nI ?_ | (refine nA ?_; intro _) | refine nY ?_ | refine nR ?_ | refine WC_cond rfl (fun hc => ?_) (fun hc => ?_)))
  refine WC_loop (fun mz Ez Mz => ∃ (k : Nat) (ds zs : List Call) (kk : Int) (cells : List Value), k + mz = (xs).length ∧ Ez = [(0, .slice (some ⟨g, 0, none⟩) xs.length c), (1, I kk), (5, I k)] ∧ Mz = (g, cellsO cells 169) :: L0 ∧ (cells = encCall.row zs ++ rest ∧ zs = ds ++ xs.drop k ∧ ds.length = k ∧ HL HCall k0 ds kk ∧ kk = k0 + 4 * (k : Int))) (xs).length (by exact kQ) (by exact kL) ⟨0, [], xs, k0, encCall.row xs ++ rest, by omega, rfl, rfl, by exact ⟨rfl, by simp, rfl, rfl, by omega⟩⟩ ?_
  rintro mz Ez Mz ⟨k, ds, zs, kk, cells, hk, rfl, rfl, hin⟩
  rcases Nat.lt_or_ge k (xs).length with hlt | hge
  · obtain ⟨hcl, hzs, hdl, hh, hkk⟩ := hin
    obtain ⟨y, hy⟩ : ∃ y, xs[k]? = some y := ⟨_, List.getElem?_eq_getElem hlt⟩
    rw [drop_hl hy] at hzs
    have hzl : zs.length = xs.length := by rw [hzs, List.length_append, List.length_cons, List.length_drop]; omega
    obtain ⟨cc, hcc⟩ : ∃ cc, cells = cc := ⟨_, rfl⟩
    have hself : zs.set k y = zs := by rw [hzs, set_mid hdl, List.append_assoc]; rfl
    have hp := put_row encCall zs y rest cc (k := k) (sz := 4) rfl (by omega) (hcc ▸ hcl)
    have hput : cells = putC cc (0 + ((k : Int)).toNat * 4) (callC y) := by
      have h1 := hp.1
      rw [hself, ← hcl] at h1
      exact h1.symm
    have hlen : 0 + ((k : Int)).toNat * 4 + (callC y).length ≤ cc.length := hp.2
    have hcl9 : putC cc (0 + ((k : Int)).toNat * 4) (callC (markCallAt kk)) = encCall.row (zs.set k (markCallAt kk)) ++ rest := (put_row encCall zs (markCallAt kk) rest cc (k := k) (sz := 4) rfl (by omega) (hcc ▸ hcl)).1
    rw [hput]
    (repeat' (first | refine nI ?_ | (refine nA ?_; intro _) | refine nY ?_ | refine nR ?_ | refine WC_cond rfl (fun hc => ?_) (fun hc => ?_)))
    exact loopQ_next ⟨mz - 1, _, _, by omega, by exact kQ, by exact kL, k + 1, ds ++ [markCallAt kk], zs.set k (markCallAt kk), kk + 1 + 1 + 1 + 1, putC cc (0 + ((k : Int)).toNat * 4) (callC (markCallAt kk)), by omega, rfl, rfl, by exact ⟨hcl9, by rw [hzs, set_mid hdl], by simp [hdl], HL.snoc hh ⟨rfl, rfl⟩, by omega⟩⟩
  · obtain ⟨hcl, hzs, hdl, hh, hkk⟩ := hin
    have hk9 : k = xs.length := by omega
    subst hk9
    rw [List.drop_length, List.append_nil] at hzs
    subst hzs hcl
    have hfin := Row.mk (E := encCall) (T := 169) (g := g) (cap := c) (rest := rest) (xs := zs) (by omega) (by rw [hdl]; exact h4) h5 (by rw [hdl]; exact hr.2)
    rw [hdl] at hfin
    (repeat' (first | refine nI ?_ | (refine nA ?_; intro _) | refine nY ?_ | refine nR ?_ | refine WC_cond rfl (fun hc => ?_) (fun hc => ?_)))
    refine ret_ret (by exact kR) ?_; exact ⟨(g, cellsO (encCall.row zs ++ rest) 169) :: L0, by exact kP, zs, [(g, cellsO (encCall.row zs ++ rest) 169)], kk, rfl, hdl, hfin, hh, hkk, rfl⟩
theorem c_markCredS {L L0 : List Ent} (s : Sl) (xs : List Cred) (es : List Ent) (hL : L.Perm (es ++ L0)) (hr : Row encCred 164 s xs es) (k0 : Int) (hk : 0 ≤ k0 ∧ k0 ≤ 288230376151711744) (hn : xs.length ≤ 2000000) :
    Tri Tryz.prog 111 [s.v, I k0] L (fun v L' => ∃ xs' es' k', v = I k' ∧ xs'.length = xs.length ∧ Row encCred 164 s xs' es' ∧ HL HCred k0 xs' k' ∧ k' = k0 + 10 * (xs.length : Int) ∧ L' = es' ++ L0) := by
  refine Tri.perm ?_ hL
  obtain ⟨a, nn, c⟩ := s
  have hnn := hr.n
  dsimp only at hnn
  subst hnn
  rcases Nat.eq_zero_or_pos xs.length with h0 | hpos
  · have h00 : xs = [] := List.eq_nil_of_length_eq_zero h0
    subst h00
    refine Tri.of Tryz.func111 rfl rfl Tryz.ntmps111 rfl rfl ?_
    (repeat' (first | refine nI ?_ | (refine nA ?_; intro _) | refine nY ?_ | refine nR ?_ | refine WC_cond rfl (fun hc => ?_) (fun hc => ?_)))
    refine WC_loop (fun mz Ez Mz => ∃ k : Nat, k + mz = (([] : List Cred)).length ∧ Ez = [(0, .slice a 0 c), (1, I k0), (5, I k)] ∧ Mz = es ++ L0 ∧ (True)) (([] : List Cred)).length (by exact kQ) (by exact kL) ⟨0, by omega, rfl, rfl, by trivial⟩ ?_
    rintro mz Ez Mz ⟨k, hk, rfl, rfl, hin⟩
    rcases Nat.lt_or_ge k (([] : List Cred)).length with hlt | hge
    · exact absurd hlt (by simp)
    (repeat' (first | refine nI ?_ | (refine nA ?_; intro _) | refine nY ?_ | refine nR ?_ | refine WC_cond rfl (fun hc => ?_) (fun hc => ?_)))
    refine ret_ret (by exact kR) ?_; exact ⟨es ++ L0, by exact kP, [], es, k0, rfl, rfl, hr, rfl, by simp, rfl⟩
  obtain ⟨g, cap, rest, hsl, rfl, h3, h4, h5⟩ := hr.block hpos
  cases hsl
  refine Tri.of Tryz.func111 rfl rfl Tryz.ntmps111 rfl rfl ?_
  (repeat' (first | refine nI ?_ | (refine nA ?_; intro _) | refine nY ?_ | refine nR ?_ | refine WC_cond rfl (fun hc => ?_) (fun hc => ?_)))
  refine WC_loop (fun mz Ez Mz => ∃ (k : Nat) (ds zs : List Cred) (kk : Int) (cells : List Value), k + mz = (xs).length ∧ Ez = [(0, .slice (some ⟨g, 0, none⟩) xs.length c), (1, I kk), (5, I k)] ∧ Mz = (g, cellsO cells 164) :: L0 ∧ (cells = encCred.row zs ++ rest ∧ zs = ds ++ xs.drop k ∧ ds.length = k ∧ HL HCred k0 ds kk ∧ kk = k0 + 10 * (k : Int))) (xs).length (by exact kQ) (by exact kL) ⟨0, [], xs, k0, encCred.row xs ++ rest, by omega, rfl, rfl, by exact ⟨rfl, by simp, rfl, rfl, by omega⟩⟩ ?_
  rintro mz Ez Mz ⟨k, ds, zs, kk, cells, hk, rfl, rfl, hin⟩
  rcases Nat.lt_or_ge k (xs).length with hlt | hge
  · obtain ⟨hcl, hzs, hdl, hh, hkk⟩ := hin
    obtain ⟨y, hy⟩ : ∃ y, xs[k]? = some y := ⟨_, List.getElem?_eq_getElem hlt⟩
    rw [drop_hl hy] at hzs
    have hzl : zs.length = xs.length := by rw [hzs, List.length_append, List.length_cons, List.length_drop]; omega
    obtain ⟨cc, hcc⟩ : ∃ cc, cells = cc := ⟨_, rfl⟩
    have hself : zs.set k y = zs := by rw [hzs, set_mid hdl, List.append_assoc]; rfl
    have hp := put_row encCred zs y rest cc (k := k) (sz := 10) rfl (by omega) (hcc ▸ hcl)
    have hput : cells = putC cc (0 + ((k : Int)).toNat * 10) (credC y) := by
      have h1 := hp.1
      rw [hself, ← hcl] at h1
      exact h1.symm
    have hlen : 0 + ((k : Int)).toNat * 10 + (credC y).length ≤ cc.length := hp.2
    have hcl9 : putC cc (0 + ((k : Int)).toNat * 10) (credC (markCredAt kk)) = encCred.row (zs.set k (markCredAt kk)) ++ rest := (put_row encCred zs (markCredAt kk) rest cc (k := k) (sz := 10) rfl (by omega) (hcc ▸ hcl)).1
    rw [hput]
    (repeat' (first | refine nI ?_ | (refine nA ?_; intro _) | (refine nW ?_; first | (refine op_store_id ?_; (refine op_store1P2 rfl rfl rfl rfl rfl (by exact kF) (by assumption) rfl ?_))) | refine nY ?_ | refine nR ?_ | refine WC_cond rfl (fun hc => ?_) (fun hc => ?_)))
    exact loopQ_next ⟨mz - 1, _, _, by omega, by exact kQ, by exact kL, k + 1, ds ++ [markCredAt kk], zs.set k (markCredAt kk), kk + 1 + 1 + 1 + 1 + 1 + 1 + 1 + 1 + 1 + 1, putC cc (0 + ((k : Int)).toNat * 10) (credC (markCredAt kk)), by omega, rfl, rfl, by exact ⟨hcl9, by rw [hzs, set_mid hdl], by simp [hdl], HL.snoc hh ⟨rfl, rfl⟩, by omega⟩⟩
  · obtain ⟨hcl, hzs, hdl, hh, hkk⟩ := hin
    have hk9 : k = xs.length := by omega
    subst hk9
    rw [List.drop_length, List.append_nil] at hzs
    subst hzs hcl
    have hfin := Row.mk (E := encCred) (T := 164) (g := g) (cap := c) (rest := rest) (xs := zs) (by omega) (by rw [hdl]; exact h4) h5 (by rw [hdl]; exact hr.2)
    rw [hdl] at hfin
    (repeat' (first | refine nI ?_ | (refine nA ?_; intro _) | refine nY ?_ | refine nR ?_ | refine WC_cond rfl (fun hc => ?_) (fun hc => ?_)))
    refine ret_ret (by exact kR) ?_; exact ⟨(g, cellsO (encCred.row zs ++ rest) 164) :: L0, by exact kP, zs, [(g, cellsO (encCred.row zs ++ rest) 164)], kk, rfl, hdl, hfin, hh, hkk, rfl⟩
theorem c_markKdc {L L0 : List Ent} (k : Kdc) (s : Sl) (es : List Ent) (hL : L.Perm (es ++ L0)) (hr : Row encSeal 155 s k.cache es) (k0 : Int) (hk : 0 ≤ k0 ∧ k0 ≤ 288230376151711744) (hn : k.cache.length ≤ 2000000) :
    Tri Tryz.prog 46 [.agg [I k.next, s.v].toArray, I k0] L (fun v L' => ∃ xs' es' k', v = I k' ∧ xs'.length = k.cache.length ∧ Row encSeal 155 s xs' es' ∧ HL HSeal k0 xs' k' ∧ k' = k0 + 7 * (k.cache.length : Int) ∧ L' = es' ++ L0) := by
  refine Tri.perm ?_ hL
  refine Tri.of Tryz.func46 rfl rfl Tryz.ntmps46 rfl rfl ?_
  (repeat' (first | refine nI ?_ | (refine nA ?_; intro _) | (refine nW ?_; first | (refine op_call_id ?_; refine op_call rfl (c_markSealS s k.cache es (by exact kE) hr k0 hk hn) rfl ?_; rintro _ _ ⟨xs', es', k', rfl, hl, hr', hh, hk', rfl⟩)) | refine nY ?_ | refine nR ?_ | refine WC_cond rfl (fun hc => ?_) (fun hc => ?_)))
  refine ret_ret (by exact kR) ?_; exact ⟨es' ++ L0, by exact kP, xs', es', k', rfl, hl, hr', hh, hk', rfl⟩
theorem c_markMsg {L L0 : List Ent} (m : Msg) (s : Sl) (es : List Ent) (hL : L.Perm (es ++ L0)) (hr : Row encSeal 155 s m.seals es) (k0 : Int) (hk : 0 ≤ k0 ∧ k0 ≤ 288230376151711744) (hn : m.seals.length ≤ 2000000) :
    Tri Tryz.prog 50 [msgV m s, I k0] L (fun v L' => ∃ xs' es' k', v = I k' ∧ xs'.length = m.seals.length ∧ Row encSeal 155 s xs' es' ∧ k' = k0 + 7 * (m.seals.length : Int) ∧ L' = es' ++ L0) := by
  refine Tri.perm ?_ hL
  refine Tri.of Tryz.func50 rfl rfl Tryz.ntmps50 rfl rfl ?_
  (repeat' (first | refine nI ?_ | (refine nA ?_; intro _) | (refine nW ?_; first | (refine op_call_id ?_; refine op_call rfl (c_markSealS s m.seals es (by exact kE) hr k0 hk hn) rfl ?_; rintro _ _ ⟨xs', es', k', rfl, hl, hr', hh, hk', rfl⟩)) | refine nY ?_ | refine nR ?_ | refine WC_cond rfl (fun hc => ?_) (fun hc => ?_)))
  refine ret_ret (by exact kR) ?_; exact ⟨es' ++ L0, by exact kP, xs', es', k', rfl, hl, hr', hk', rfl⟩
theorem c_markEvent {L L0 : List Ent} (m : Event) (s : Sl) (es : List Ent) (hL : L.Perm (es ++ L0)) (hr : Row encSeal 155 s m.msg.seals es) (k0 : Int) (hk : 0 ≤ k0 ∧ k0 ≤ 288230376151711744) (hn : m.msg.seals.length ≤ 2000000) :
    Tri Tryz.prog 15 [eventV m s, I k0] L (fun v L' => ∃ xs' es' k', v = I k' ∧ xs'.length = m.msg.seals.length ∧ Row encSeal 155 s xs' es' ∧ k' = k0 + 7 * (m.msg.seals.length : Int) ∧ L' = es' ++ L0) := by
  refine Tri.perm ?_ hL
  refine Tri.of Tryz.func15 rfl rfl Tryz.ntmps15 rfl rfl ?_
  (repeat' (first | refine nI ?_ | (refine nA ?_; intro _) | (refine nW ?_; first | (refine op_call_id ?_; refine op_call rfl (c_markMsg m.msg s es (by exact kE) hr k0 hk hn) rfl ?_; rintro _ _ ⟨xs', es', k', rfl, hl, hr', hk', rfl⟩)) | refine nY ?_ | refine nR ?_ | refine WC_cond rfl (fun hc => ?_) (fun hc => ?_)))
  refine ret_ret (by exact kR) ?_; exact ⟨es' ++ L0, by exact kP, xs', es', k', rfl, hl, hr', hk', rfl⟩
theorem c_markClientS {L L0 : List Ent} (s : Sl) (xs : List (Client × CSl)) (ec ca : List Ent) (hL : L.Perm (ec ++ (ca ++ L0))) (hr : Row encClient 112 s xs ec) (ha : All CliOwn xs ca) (k0 : Int) (hk : 0 ≤ k0 ∧ k0 ≤ 144115188075855872) (hn : xs.length ≤ 2000000) :
    Tri Tryz.prog 47 [s.v, I k0] L (fun v L' => ∃ xs' ec' ca' k', v = I k' ∧ Row encClient 112 s xs' ec' ∧ All CliOwn xs' ca' ∧ HL HClientP k0 xs' k' ∧ (k0 ≤ k' ∧ k' ≤ k0 + 50000000 * (xs.length : Int)) ∧ L' = ec' ++ (ca' ++ L0)) := by
  refine Tri.perm ?_ hL
  obtain ⟨a, nn, c⟩ := s
  have hnn := hr.n
  dsimp only at hnn
  subst hnn
  rcases Nat.eq_zero_or_pos xs.length with h0 | hpos
  · have h00 : xs = [] := List.eq_nil_of_length_eq_zero h0
    subst h00
    refine Tri.of Tryz.func47 rfl rfl Tryz.ntmps47 rfl rfl ?_
    (repeat' (first | refine nI ?_ | (refine nA ?_; intro _) | refine nY ?_ | refine nR ?_ | refine WC_cond rfl (fun hc => ?_) (fun hc => ?_)))
    refine WC_loop (fun mz Ez Mz => ∃ k : Nat, k + mz = (([] : List (Client × CSl))).length ∧ Ez = [(0, .slice a 0 c), (1, I k0), (5, I k)] ∧ Mz = ec ++ (ca ++ L0) ∧ (True)) (([] : List (Client × CSl))).length (by exact kQ) (by exact kL) ⟨0, by omega, rfl, rfl, by trivial⟩ ?_
    rintro mz Ez Mz ⟨k, hk, rfl, rfl, hin⟩
    rcases Nat.lt_or_ge k (([] : List (Client × CSl))).length with hlt | hge
    · exact absurd hlt (by simp)
    (repeat' (first | refine nI ?_ | (refine nA ?_; intro _) | refine nY ?_ | refine nR ?_ | refine WC_cond rfl (fun hc => ?_) (fun hc => ?_)))
    refine ret_ret (by exact kR) ?_; exact ⟨ec ++ (ca ++ L0), by exact kP, [], ec, ca, k0, rfl, hr, ha, rfl, ⟨by omega, by simp⟩, rfl⟩
  obtain ⟨g, cap, rest, hsl, rfl, h3, h4, h5⟩ := hr.block hpos
  cases hsl
  refine Tri.of Tryz.func47 rfl rfl Tryz.ntmps47 rfl rfl ?_
  (repeat' (first | refine nI ?_ | (refine nA ?_; intro _) | refine nY ?_ | refine nR ?_ | refine WC_cond rfl (fun hc => ?_) (fun hc => ?_)))
  refine WC_loop (fun mz Ez Mz => ∃ (k : Nat) (ds zs : List (Client × CSl)) (ca1 ca2 : List Ent) (kk : Int) (cells : List Value), k + mz = (xs).length ∧ Ez = [(0, .slice (some ⟨g, 0, none⟩) xs.length c), (1, I kk), (5, I k)] ∧ Mz = (g, cellsO cells 112) :: (ca1 ++ (ca2 ++ L0)) ∧ (cells = encClient.row zs ++ rest ∧ zs = ds ++ xs.drop k ∧ ds.length = k ∧ All CliOwn ds ca1 ∧ All CliOwn (xs.drop k) ca2 ∧ HL HClientP k0 ds kk ∧ k0 ≤ kk ∧ kk ≤ k0 + 50000000 * (k : Int))) (xs).length (by exact kQ) (by exact kL) ⟨0, [], xs, [], ca, k0, encClient.row xs ++ rest, by omega, rfl, rfl, by exact ⟨rfl, by simp, rfl, rfl, ha, rfl, ⟨by omega, by omega⟩⟩⟩ ?_
  rintro mz Ez Mz ⟨k, ds, zs, ca1, ca2, kk, cells, hk, rfl, rfl, hin⟩
  rcases Nat.lt_or_ge k (xs).length with hlt | hge
  · obtain ⟨hcl, hzs, hdl, ha1, ha2, hh, hb1, hb2⟩ := hin
    obtain ⟨y, hy⟩ : ∃ y, xs[k]? = some y := ⟨_, List.getElem?_eq_getElem hlt⟩
    rw [drop_hl hy] at hzs ha2
    have hzl : zs.length = xs.length := by rw [hzs, List.length_append, List.length_cons, List.length_drop]; omega
    obtain ⟨e0, ca3, rfl, ho, ha3⟩ := ha2
    obtain ⟨v1, q1⟩ := y
    obtain ⟨e1, e2, e3, e4, rfl, o1, o2, o3, o4⟩ := ho
    have n1 : v1.wants.length ≤ lim := o1.2
    have n2 : v1.creds.length ≤ lim := o2.2
    have n3 : v1.sent.length ≤ lim := o3.2
    have n4 : v1.met.length ≤ lim := o4.2
    simp only [lim] at n1 n2 n3 n4
    obtain ⟨cc, hcc⟩ : ∃ cc, cells = cc := ⟨_, rfl⟩
    have hself : zs.set k (v1, q1) = zs := by rw [hzs, set_mid hdl, List.append_assoc]; rfl
    have hp := put_row encClient zs (v1, q1) rest cc (k := k) (sz := 6) rfl (by omega) (hcc ▸ hcl)
    have hput : cells = putC cc (0 + ((k : Int)).toNat * 6) (clientC v1 q1) := by
      have h1 := hp.1
      rw [hself, ← hcl] at h1
      exact h1.symm
    have hlen : 0 + ((k : Int)).toNat * 6 + (clientC v1 q1).length ≤ cc.length := hp.2
    rw [hput]
    (try simp only [List.append_assoc])
    (repeat' (first | refine nI ?_ | (refine nA ?_; intro _) | (refine nW ?_; first | (refine op_call_id ?_; refine op_call rfl (c_markWantS q1.w v1.wants e1 (by exact kE) o1 (kk + 1 + 1) (by omega) (by omega)) rfl ?_; rintro _ _ ⟨x1, f1, k1, rfl, m1, p1, j1, b1, rfl⟩) | (refine op_call_id ?_; refine op_call rfl (c_markCredS q1.c v1.creds e2 (by exact kE) o2 k1 (by omega) (by omega)) rfl ?_; rintro _ _ ⟨x2, f2, k2, rfl, m2, p2, j2, b2, rfl⟩) | (refine op_call_id ?_; refine op_call rfl (c_markCallS q1.s v1.sent e3 (by exact kE) o3 k2 (by omega) (by omega)) rfl ?_; rintro _ _ ⟨x3, f3, k3, rfl, m3, p3, j3, b3, rfl⟩) | (refine op_call_id ?_; refine op_call rfl (c_markCallS q1.m v1.met e4 (by exact kE) o4 k3 (by omega) (by omega)) rfl ?_; rintro _ _ ⟨x4, f4, k4, rfl, m4, p4, j4, b4, rfl⟩)) | refine nY ?_ | refine nR ?_ | refine WC_cond rfl (fun hc => ?_) (fun hc => ?_)))
    have hcl9 : putC cc (0 + ((k : Int)).toNat * 6) (clientC ⟨kk, kk + 1, x1, x2, x3, x4⟩ q1) = encClient.row (zs.set k (⟨kk, kk + 1, x1, x2, x3, x4⟩, q1)) ++ rest := (put_row encClient zs (⟨kk, kk + 1, x1, x2, x3, x4⟩, q1) rest cc (k := k) (sz := 6) rfl (by omega) (hcc ▸ hcl)).1
    exact loopQ_next ⟨mz - 1, _, _, by omega, by exact kQ, by (try simp only [List.append_assoc]); exact kL, k + 1, ds ++ [(⟨kk, kk + 1, x1, x2, x3, x4⟩, q1)], zs.set k (⟨kk, kk + 1, x1, x2, x3, x4⟩, q1), ca1 ++ (f1 ++ (f2 ++ (f3 ++ (f4)))), ca3, k4, putC cc (0 + ((k : Int)).toNat * 6) (clientC ⟨kk, kk + 1, x1, x2, x3, x4⟩ q1), by omega, rfl, rfl, by exact ⟨hcl9, by rw [hzs, set_mid hdl], by simp [hdl], All.snoc ha1 ⟨f1, f2, f3, f4, rfl, p1, p2, p3, p4⟩, ha3, HL.snoc hh ⟨k1, k2, k3, rfl, rfl, j1, j2, j3, j4⟩, by omega, by omega⟩⟩
  · obtain ⟨hcl, hzs, hdl, ha1, ha2, hh, hb1, hb2⟩ := hin
    have hk9 : k = xs.length := by omega
    subst hk9
    rw [List.drop_length] at ha2
    rw [List.drop_length, List.append_nil] at hzs
    obtain rfl : ca2 = [] := ha2
    subst hzs hcl
    have hfin := Row.mk (E := encClient) (T := 112) (g := g) (cap := c) (rest := rest) (xs := zs) (by omega) (by rw [hdl]; exact h4) h5 (by rw [hdl]; exact hr.2)
    rw [hdl] at hfin
    (repeat' (first | refine nI ?_ | (refine nA ?_; intro _) | refine nY ?_ | refine nR ?_ | refine WC_cond rfl (fun hc => ?_) (fun hc => ?_)))
    refine ret_ret (by exact kR) ?_; exact ⟨(g, cellsO (encClient.row zs ++ rest) 112) :: (ca1 ++ L0), by exact kP, zs, [(g, cellsO (encClient.row zs ++ rest) 112)], ca1, kk, rfl, hfin, ha1, hh, ⟨hb1, hb2⟩, rfl⟩
theorem c_markServS {L L0 : List Ent} (s : Sl) (xs : List (Serv × (Sl × Sl))) (ec ca : List Ent) (hL : L.Perm (ec ++ (ca ++ L0))) (hr : Row encServ 115 s xs ec) (ha : All SrvOwn xs ca) (k0 : Int) (hk : 0 ≤ k0 ∧ k0 ≤ 144115188075855872) (hn : xs.length ≤ 2000000) :
    Tri Tryz.prog 48 [s.v, I k0] L (fun v L' => ∃ xs' ec' ca' k', v = I k' ∧ Row encServ 115 s xs' ec' ∧ All SrvOwn xs' ca' ∧ HL HServP k0 xs' k' ∧ (k0 ≤ k' ∧ k' ≤ k0 + 50000000 * (xs.length : Int)) ∧ L' = ec' ++ (ca' ++ L0)) := by
  refine Tri.perm ?_ hL
  obtain ⟨a, nn, c⟩ := s
  have hnn := hr.n
  dsimp only at hnn
  subst hnn
  rcases Nat.eq_zero_or_pos xs.length with h0 | hpos
  · have h00 : xs = [] := List.eq_nil_of_length_eq_zero h0
    subst h00
    refine Tri.of Tryz.func48 rfl rfl Tryz.ntmps48 rfl rfl ?_
    (repeat' (first | refine nI ?_ | (refine nA ?_; intro _) | refine nY ?_ | refine nR ?_ | refine WC_cond rfl (fun hc => ?_) (fun hc => ?_)))
    refine WC_loop (fun mz Ez Mz => ∃ k : Nat, k + mz = (([] : List (Serv × (Sl × Sl)))).length ∧ Ez = [(0, .slice a 0 c), (1, I k0), (5, I k)] ∧ Mz = ec ++ (ca ++ L0) ∧ (True)) (([] : List (Serv × (Sl × Sl)))).length (by exact kQ) (by exact kL) ⟨0, by omega, rfl, rfl, by trivial⟩ ?_
    rintro mz Ez Mz ⟨k, hk, rfl, rfl, hin⟩
    rcases Nat.lt_or_ge k (([] : List (Serv × (Sl × Sl)))).length with hlt | hge
    · exact absurd hlt (by simp)
    (repeat' (first | refine nI ?_ | (refine nA ?_; intro _) | refine nY ?_ | refine nR ?_ | refine WC_cond rfl (fun hc => ?_) (fun hc => ?_)))
    refine ret_ret (by exact kR) ?_; exact ⟨ec ++ (ca ++ L0), by exact kP, [], ec, ca, k0, rfl, hr, ha, rfl, ⟨by omega, by simp⟩, rfl⟩
  obtain ⟨g, cap, rest, hsl, rfl, h3, h4, h5⟩ := hr.block hpos
  cases hsl
  refine Tri.of Tryz.func48 rfl rfl Tryz.ntmps48 rfl rfl ?_
  (repeat' (first | refine nI ?_ | (refine nA ?_; intro _) | refine nY ?_ | refine nR ?_ | refine WC_cond rfl (fun hc => ?_) (fun hc => ?_)))
  refine WC_loop (fun mz Ez Mz => ∃ (k : Nat) (ds zs : List (Serv × (Sl × Sl))) (ca1 ca2 : List Ent) (kk : Int) (cells : List Value), k + mz = (xs).length ∧ Ez = [(0, .slice (some ⟨g, 0, none⟩) xs.length c), (1, I kk), (5, I k)] ∧ Mz = (g, cellsO cells 115) :: (ca1 ++ (ca2 ++ L0)) ∧ (cells = encServ.row zs ++ rest ∧ zs = ds ++ xs.drop k ∧ ds.length = k ∧ All SrvOwn ds ca1 ∧ All SrvOwn (xs.drop k) ca2 ∧ HL HServP k0 ds kk ∧ k0 ≤ kk ∧ kk ≤ k0 + 50000000 * (k : Int))) (xs).length (by exact kQ) (by exact kL) ⟨0, [], xs, [], ca, k0, encServ.row xs ++ rest, by omega, rfl, rfl, by exact ⟨rfl, by simp, rfl, rfl, ha, rfl, ⟨by omega, by omega⟩⟩⟩ ?_
  rintro mz Ez Mz ⟨k, ds, zs, ca1, ca2, kk, cells, hk, rfl, rfl, hin⟩
  rcases Nat.lt_or_ge k (xs).length with hlt | hge
  · obtain ⟨hcl, hzs, hdl, ha1, ha2, hh, hb1, hb2⟩ := hin
    obtain ⟨y, hy⟩ : ∃ y, xs[k]? = some y := ⟨_, List.getElem?_eq_getElem hlt⟩
    rw [drop_hl hy] at hzs ha2
    have hzl : zs.length = xs.length := by rw [hzs, List.length_append, List.length_cons, List.length_drop]; omega
    obtain ⟨e0, ca3, rfl, ho, ha3⟩ := ha2
    obtain ⟨v1, q1⟩ := y
    obtain ⟨e1, e2, rfl, o1, o2⟩ := ho
    have n1 : v1.cache.length ≤ lim := o1.2
    have n2 : v1.took.length ≤ lim := o2.2
    simp only [lim] at n1 n2
    obtain ⟨cc, hcc⟩ : ∃ cc, cells = cc := ⟨_, rfl⟩
    have hself : zs.set k (v1, q1) = zs := by rw [hzs, set_mid hdl, List.append_assoc]; rfl
    have hp := put_row encServ zs (v1, q1) rest cc (k := k) (sz := 4) rfl (by omega) (hcc ▸ hcl)
    have hput : cells = putC cc (0 + ((k : Int)).toNat * 4) (servC v1 q1.1 q1.2) := by
      have h1 := hp.1
      rw [hself, ← hcl] at h1
      exact h1.symm
    have hlen : 0 + ((k : Int)).toNat * 4 + (servC v1 q1.1 q1.2).length ≤ cc.length := hp.2
    rw [hput]
    (try simp only [List.append_assoc])
    (repeat' (first | refine nI ?_ | (refine nA ?_; intro _) | (refine nW ?_; first | (refine op_call_id ?_; refine op_call rfl (c_markSealS q1.1 v1.cache e1 (by exact kE) o1 (kk + 1 + 1) (by omega) (by omega)) rfl ?_; rintro _ _ ⟨x1, f1, k1, rfl, m1, p1, j1, b1, rfl⟩) | (refine op_call_id ?_; refine op_call rfl (c_markCallS q1.2 v1.took e2 (by exact kE) o2 k1 (by omega) (by omega)) rfl ?_; rintro _ _ ⟨x2, f2, k2, rfl, m2, p2, j2, b2, rfl⟩)) | refine nY ?_ | refine nR ?_ | refine WC_cond rfl (fun hc => ?_) (fun hc => ?_)))
    have hcl9 : putC cc (0 + ((k : Int)).toNat * 4) (servC ⟨kk, kk + 1, x1, x2⟩ q1.1 q1.2) = encServ.row (zs.set k (⟨kk, kk + 1, x1, x2⟩, q1)) ++ rest := (put_row encServ zs (⟨kk, kk + 1, x1, x2⟩, q1) rest cc (k := k) (sz := 4) rfl (by omega) (hcc ▸ hcl)).1
    exact loopQ_next ⟨mz - 1, _, _, by omega, by exact kQ, by (try simp only [List.append_assoc]); exact kL, k + 1, ds ++ [(⟨kk, kk + 1, x1, x2⟩, q1)], zs.set k (⟨kk, kk + 1, x1, x2⟩, q1), ca1 ++ (f1 ++ (f2)), ca3, k2, putC cc (0 + ((k : Int)).toNat * 4) (servC ⟨kk, kk + 1, x1, x2⟩ q1.1 q1.2), by omega, rfl, rfl, by exact ⟨hcl9, by rw [hzs, set_mid hdl], by simp [hdl], All.snoc ha1 ⟨f1, f2, rfl, p1, p2⟩, ha3, HL.snoc hh ⟨k1, rfl, rfl, j1, j2⟩, by omega, by omega⟩⟩
  · obtain ⟨hcl, hzs, hdl, ha1, ha2, hh, hb1, hb2⟩ := hin
    have hk9 : k = xs.length := by omega
    subst hk9
    rw [List.drop_length] at ha2
    rw [List.drop_length, List.append_nil] at hzs
    obtain rfl : ca2 = [] := ha2
    subst hzs hcl
    have hfin := Row.mk (E := encServ) (T := 115) (g := g) (cap := c) (rest := rest) (xs := zs) (by omega) (by rw [hdl]; exact h4) h5 (by rw [hdl]; exact hr.2)
    rw [hdl] at hfin
    (repeat' (first | refine nI ?_ | (refine nA ?_; intro _) | refine nY ?_ | refine nR ?_ | refine WC_cond rfl (fun hc => ?_) (fun hc => ?_)))
    refine ret_ret (by exact kR) ?_; exact ⟨(g, cellsO (encServ.row zs ++ rest) 115) :: (ca1 ++ L0), by exact kP, zs, [(g, cellsO (encServ.row zs ++ rest) 115)], ca1, kk, rfl, hfin, ha1, hh, ⟨hb1, hb2⟩, rfl⟩
theorem c_markMsgS {L L0 : List Ent} (s : Sl) (xs : List (Msg × Sl)) (ec ca : List Ent) (hL : L.Perm (ec ++ (ca ++ L0))) (hr : Row encMsg 47 s xs ec) (ha : All MsgOwn xs ca) (k0 : Int) (hk : 0 ≤ k0 ∧ k0 ≤ 144115188075855872) (hn : xs.length ≤ 2000000) :
    Tri Tryz.prog 49 [s.v, I k0] L (fun v L' => ∃ xs' ec' ca' k', v = I k' ∧ Row encMsg 47 s xs' ec' ∧ All MsgOwn xs' ca' ∧ HL HMsgP k0 xs' k' ∧ (k0 ≤ k' ∧ k' ≤ k0 + 50000000 * (xs.length : Int)) ∧ L' = ec' ++ (ca' ++ L0)) := by
  refine Tri.perm ?_ hL
  obtain ⟨a, nn, c⟩ := s
  have hnn := hr.n
  dsimp only at hnn
  subst hnn
  rcases Nat.eq_zero_or_pos xs.length with h0 | hpos
  · have h00 : xs = [] := List.eq_nil_of_length_eq_zero h0
    subst h00
    refine Tri.of Tryz.func49 rfl rfl Tryz.ntmps49 rfl rfl ?_
    (repeat' (first | refine nI ?_ | (refine nA ?_; intro _) | refine nY ?_ | refine nR ?_ | refine WC_cond rfl (fun hc => ?_) (fun hc => ?_)))
    refine WC_loop (fun mz Ez Mz => ∃ k : Nat, k + mz = (([] : List (Msg × Sl))).length ∧ Ez = [(0, .slice a 0 c), (1, I k0), (5, I k)] ∧ Mz = ec ++ (ca ++ L0) ∧ (True)) (([] : List (Msg × Sl))).length (by exact kQ) (by exact kL) ⟨0, by omega, rfl, rfl, by trivial⟩ ?_
    rintro mz Ez Mz ⟨k, hk, rfl, rfl, hin⟩
    rcases Nat.lt_or_ge k (([] : List (Msg × Sl))).length with hlt | hge
    · exact absurd hlt (by simp)
    (repeat' (first | refine nI ?_ | (refine nA ?_; intro _) | refine nY ?_ | refine nR ?_ | refine WC_cond rfl (fun hc => ?_) (fun hc => ?_)))
    refine ret_ret (by exact kR) ?_; exact ⟨ec ++ (ca ++ L0), by exact kP, [], ec, ca, k0, rfl, hr, ha, rfl, ⟨by omega, by simp⟩, rfl⟩
  obtain ⟨g, cap, rest, hsl, rfl, h3, h4, h5⟩ := hr.block hpos
  cases hsl
  refine Tri.of Tryz.func49 rfl rfl Tryz.ntmps49 rfl rfl ?_
  (repeat' (first | refine nI ?_ | (refine nA ?_; intro _) | refine nY ?_ | refine nR ?_ | refine WC_cond rfl (fun hc => ?_) (fun hc => ?_)))
  refine WC_loop (fun mz Ez Mz => ∃ (k : Nat) (ds zs : List (Msg × Sl)) (ca1 ca2 : List Ent) (kk : Int) (cells : List Value), k + mz = (xs).length ∧ Ez = [(0, .slice (some ⟨g, 0, none⟩) xs.length c), (1, I kk), (5, I k)] ∧ Mz = (g, cellsO cells 47) :: (ca1 ++ (ca2 ++ L0)) ∧ (cells = encMsg.row zs ++ rest ∧ zs = ds ++ xs.drop k ∧ ds.length = k ∧ All MsgOwn ds ca1 ∧ All MsgOwn (xs.drop k) ca2 ∧ HL HMsgP k0 ds kk ∧ k0 ≤ kk ∧ kk ≤ k0 + 50000000 * (k : Int))) (xs).length (by exact kQ) (by exact kL) ⟨0, [], xs, [], ca, k0, encMsg.row xs ++ rest, by omega, rfl, rfl, by exact ⟨rfl, by simp, rfl, rfl, ha, rfl, ⟨by omega, by omega⟩⟩⟩ ?_
  rintro mz Ez Mz ⟨k, ds, zs, ca1, ca2, kk, cells, hk, rfl, rfl, hin⟩
  rcases Nat.lt_or_ge k (xs).length with hlt | hge
  · obtain ⟨hcl, hzs, hdl, ha1, ha2, hh, hb1, hb2⟩ := hin
    obtain ⟨y, hy⟩ : ∃ y, xs[k]? = some y := ⟨_, List.getElem?_eq_getElem hlt⟩
    rw [drop_hl hy] at hzs ha2
    have hzl : zs.length = xs.length := by rw [hzs, List.length_append, List.length_cons, List.length_drop]; omega
    obtain ⟨e0, ca3, rfl, ho, ha3⟩ := ha2
    obtain ⟨v1, q1⟩ := y
    have o1 : Row encSeal 155 q1 v1.seals e0 := ho
    have n1 : v1.seals.length ≤ lim := o1.2
    simp only [lim] at n1
    obtain ⟨cc, hcc⟩ : ∃ cc, cells = cc := ⟨_, rfl⟩
    have hself : zs.set k (v1, q1) = zs := by rw [hzs, set_mid hdl, List.append_assoc]; rfl
    have hp := put_row encMsg zs (v1, q1) rest cc (k := k) (sz := 5) rfl (by omega) (hcc ▸ hcl)
    have hput : cells = putC cc (0 + ((k : Int)).toNat * 5) (msgC v1 q1) := by
      have h1 := hp.1
      rw [hself, ← hcl] at h1
      exact h1.symm
    have hlen : 0 + ((k : Int)).toNat * 5 + (msgC v1 q1).length ≤ cc.length := hp.2
    rw [hput]
    (try simp only [List.append_assoc])
    (repeat' (first | refine nI ?_ | (refine nA ?_; intro _) | (refine nW ?_; first | (refine op_call_id ?_; refine op_call rfl (c_markSealS q1 v1.seals e0 (by exact kE) o1 (kk + 1 + 1 + 1 + 1) (by omega) (by omega)) rfl ?_; rintro _ _ ⟨x1, f1, k1, rfl, m1, p1, j1, b1, rfl⟩)) | refine nY ?_ | refine nR ?_ | refine WC_cond rfl (fun hc => ?_) (fun hc => ?_)))
    have hcl9 : putC cc (0 + ((k : Int)).toNat * 5) (msgC ⟨kk, kk + 1, kk + 1 + 1, kk + 1 + 1 + 1, x1⟩ q1) = encMsg.row (zs.set k (⟨kk, kk + 1, kk + 1 + 1, kk + 1 + 1 + 1, x1⟩, q1)) ++ rest := (put_row encMsg zs (⟨kk, kk + 1, kk + 1 + 1, kk + 1 + 1 + 1, x1⟩, q1) rest cc (k := k) (sz := 5) rfl (by omega) (hcc ▸ hcl)).1
    exact loopQ_next ⟨mz - 1, _, _, by omega, by exact kQ, by (try simp only [List.append_assoc]); exact kL, k + 1, ds ++ [(⟨kk, kk + 1, kk + 1 + 1, kk + 1 + 1 + 1, x1⟩, q1)], zs.set k (⟨kk, kk + 1, kk + 1 + 1, kk + 1 + 1 + 1, x1⟩, q1), ca1 ++ (f1), ca3, k1, putC cc (0 + ((k : Int)).toNat * 5) (msgC ⟨kk, kk + 1, kk + 1 + 1, kk + 1 + 1 + 1, x1⟩ q1), by omega, rfl, rfl, by exact ⟨hcl9, by rw [hzs, set_mid hdl], by simp [hdl], All.snoc ha1 p1, ha3, HL.snoc hh ⟨rfl, rfl, rfl, rfl, j1⟩, by omega, by omega⟩⟩
  · obtain ⟨hcl, hzs, hdl, ha1, ha2, hh, hb1, hb2⟩ := hin
    have hk9 : k = xs.length := by omega
    subst hk9
    rw [List.drop_length] at ha2
    rw [List.drop_length, List.append_nil] at hzs
    obtain rfl : ca2 = [] := ha2
    subst hzs hcl
    have hfin := Row.mk (E := encMsg) (T := 47) (g := g) (cap := c) (rest := rest) (xs := zs) (by omega) (by rw [hdl]; exact h4) h5 (by rw [hdl]; exact hr.2)
    rw [hdl] at hfin
    (repeat' (first | refine nI ?_ | (refine nA ?_; intro _) | refine nY ?_ | refine nR ?_ | refine WC_cond rfl (fun hc => ?_) (fun hc => ?_)))
    refine ret_ret (by exact kR) ?_; exact ⟨(g, cellsO (encMsg.row zs ++ rest) 47) :: (ca1 ++ L0), by exact kP, zs, [(g, cellsO (encMsg.row zs ++ rest) 47)], ca1, kk, rfl, hfin, ha1, hh, ⟨hb1, hb2⟩, rfl⟩
theorem c_markEventS {L L0 : List Ent} (s : Sl) (xs : List (Event × Sl)) (ec ca : List Ent) (hL : L.Perm (ec ++ (ca ++ L0))) (hr : Row encEvent 49 s xs ec) (ha : All EvOwn xs ca) (k0 : Int) (hk : 0 ≤ k0 ∧ k0 ≤ 144115188075855872) (hn : xs.length ≤ 2000000) :
    Tri Tryz.prog 22 [s.v, I k0] L (fun v L' => ∃ xs' ec' ca' k', v = I k' ∧ Row encEvent 49 s xs' ec' ∧ All EvOwn xs' ca' ∧ (k0 ≤ k' ∧ k' ≤ k0 + 50000000 * (xs.length : Int)) ∧ L' = ec' ++ (ca' ++ L0)) := by
  refine Tri.perm ?_ hL
  obtain ⟨a, nn, c⟩ := s
  have hnn := hr.n
  dsimp only at hnn
  subst hnn
  rcases Nat.eq_zero_or_pos xs.length with h0 | hpos
  · have h00 : xs = [] := List.eq_nil_of_length_eq_zero h0
    subst h00
    refine Tri.of Tryz.func22 rfl rfl Tryz.ntmps22 rfl rfl ?_
    (repeat' (first | refine nI ?_ | (refine nA ?_; intro _) | refine nY ?_ | refine nR ?_ | refine WC_cond rfl (fun hc => ?_) (fun hc => ?_)))
    refine WC_loop (fun mz Ez Mz => ∃ k : Nat, k + mz = (([] : List (Event × Sl))).length ∧ Ez = [(0, .slice a 0 c), (1, I k0), (5, I k)] ∧ Mz = ec ++ (ca ++ L0) ∧ (True)) (([] : List (Event × Sl))).length (by exact kQ) (by exact kL) ⟨0, by omega, rfl, rfl, by trivial⟩ ?_
    rintro mz Ez Mz ⟨k, hk, rfl, rfl, hin⟩
    rcases Nat.lt_or_ge k (([] : List (Event × Sl))).length with hlt | hge
    · exact absurd hlt (by simp)
    (repeat' (first | refine nI ?_ | (refine nA ?_; intro _) | refine nY ?_ | refine nR ?_ | refine WC_cond rfl (fun hc => ?_) (fun hc => ?_)))
    refine ret_ret (by exact kR) ?_; exact ⟨ec ++ (ca ++ L0), by exact kP, [], ec, ca, k0, rfl, hr, ha, ⟨by omega, by simp⟩, rfl⟩
  obtain ⟨g, cap, rest, hsl, rfl, h3, h4, h5⟩ := hr.block hpos
  cases hsl
  refine Tri.of Tryz.func22 rfl rfl Tryz.ntmps22 rfl rfl ?_
  (repeat' (first | refine nI ?_ | (refine nA ?_; intro _) | refine nY ?_ | refine nR ?_ | refine WC_cond rfl (fun hc => ?_) (fun hc => ?_)))
  refine WC_loop (fun mz Ez Mz => ∃ (k : Nat) (ds zs : List (Event × Sl)) (ca1 ca2 : List Ent) (kk : Int) (cells : List Value), k + mz = (xs).length ∧ Ez = [(0, .slice (some ⟨g, 0, none⟩) xs.length c), (1, I kk), (5, I k)] ∧ Mz = (g, cellsO cells 49) :: (ca1 ++ (ca2 ++ L0)) ∧ (cells = encEvent.row zs ++ rest ∧ zs = ds ++ xs.drop k ∧ ds.length = k ∧ All EvOwn ds ca1 ∧ All EvOwn (xs.drop k) ca2 ∧ k0 ≤ kk ∧ kk ≤ k0 + 50000000 * (k : Int))) (xs).length (by exact kQ) (by exact kL) ⟨0, [], xs, [], ca, k0, encEvent.row xs ++ rest, by omega, rfl, rfl, by exact ⟨rfl, by simp, rfl, rfl, ha, ⟨by omega, by omega⟩⟩⟩ ?_
  rintro mz Ez Mz ⟨k, ds, zs, ca1, ca2, kk, cells, hk, rfl, rfl, hin⟩
  rcases Nat.lt_or_ge k (xs).length with hlt | hge
  · obtain ⟨hcl, hzs, hdl, ha1, ha2, hb1, hb2⟩ := hin
    obtain ⟨y, hy⟩ : ∃ y, xs[k]? = some y := ⟨_, List.getElem?_eq_getElem hlt⟩
    rw [drop_hl hy] at hzs ha2
    have hzl : zs.length = xs.length := by rw [hzs, List.length_append, List.length_cons, List.length_drop]; omega
    obtain ⟨e0, ca3, rfl, ho, ha3⟩ := ha2
    obtain ⟨v1, q1⟩ := y
    have o1 : Row encSeal 155 q1 v1.msg.seals e0 := ho
    have n1 : v1.msg.seals.length ≤ lim := o1.2
    simp only [lim] at n1
    obtain ⟨cc, hcc⟩ : ∃ cc, cells = cc := ⟨_, rfl⟩
    have hself : zs.set k (v1, q1) = zs := by rw [hzs, set_mid hdl, List.append_assoc]; rfl
    have hp := put_row encEvent zs (v1, q1) rest cc (k := k) (sz := 8) rfl (by omega) (hcc ▸ hcl)
    have hput : cells = putC cc (0 + ((k : Int)).toNat * 8) (eventC v1 q1) := by
      have h1 := hp.1
      rw [hself, ← hcl] at h1
      exact h1.symm
    have hlen : 0 + ((k : Int)).toNat * 8 + (eventC v1 q1).length ≤ cc.length := hp.2
    rw [hput]
    (try simp only [List.append_assoc])
    (repeat' (first | refine nI ?_ | (refine nA ?_; intro _) | (refine nW ?_; first | (refine op_store_id ?_; (refine op_store1P2 rfl rfl rfl rfl rfl (by exact kF) (by assumption) rfl ?_)) | (refine op_load_id ?_; refine op_val rfl (by exact val_load1P2 rfl rfl rfl (by exact kM) (by assumption) rfl) ?_) | (refine op_call_id ?_; refine op_call rfl (c_markSealS q1 v1.msg.seals e0 (by exact kE) o1 (kk + 1 + 1 + 1 + 1 + 1 + 1 + 1) (by omega) (by omega)) rfl ?_; rintro _ _ ⟨x1, f1, k1, rfl, m1, p1, j1, b1, rfl⟩)) | refine nY ?_ | refine nR ?_ | refine WC_cond rfl (fun hc => ?_) (fun hc => ?_)))
    have hcl9 : putC cc (0 + ((k : Int)).toNat * 8) (eventC ⟨kk, kk + 1, kk + 1 + 1, ⟨kk + 1 + 1 + 1, kk + 1 + 1 + 1 + 1, kk + 1 + 1 + 1 + 1 + 1, kk + 1 + 1 + 1 + 1 + 1 + 1, x1⟩⟩ q1) = encEvent.row (zs.set k (⟨kk, kk + 1, kk + 1 + 1, ⟨kk + 1 + 1 + 1, kk + 1 + 1 + 1 + 1, kk + 1 + 1 + 1 + 1 + 1, kk + 1 + 1 + 1 + 1 + 1 + 1, x1⟩⟩, q1)) ++ rest := (put_row encEvent zs (⟨kk, kk + 1, kk + 1 + 1, ⟨kk + 1 + 1 + 1, kk + 1 + 1 + 1 + 1, kk + 1 + 1 + 1 + 1 + 1, kk + 1 + 1 + 1 + 1 + 1 + 1, x1⟩⟩, q1) rest cc (k := k) (sz := 8) rfl (by omega) (hcc ▸ hcl)).1
    exact loopQ_next ⟨mz - 1, _, _, by omega, by exact kQ, by (try simp only [List.append_assoc]); exact kL, k + 1, ds ++ [(⟨kk, kk + 1, kk + 1 + 1, ⟨kk + 1 + 1 + 1, kk + 1 + 1 + 1 + 1, kk + 1 + 1 + 1 + 1 + 1, kk + 1 + 1 + 1 + 1 + 1 + 1, x1⟩⟩, q1)], zs.set k (⟨kk, kk + 1, kk + 1 + 1, ⟨kk + 1 + 1 + 1, kk + 1 + 1 + 1 + 1, kk + 1 + 1 + 1 + 1 + 1, kk + 1 + 1 + 1 + 1 + 1 + 1, x1⟩⟩, q1), ca1 ++ (f1), ca3, k1, putC cc (0 + ((k : Int)).toNat * 8) (eventC ⟨kk, kk + 1, kk + 1 + 1, ⟨kk + 1 + 1 + 1, kk + 1 + 1 + 1 + 1, kk + 1 + 1 + 1 + 1 + 1, kk + 1 + 1 + 1 + 1 + 1 + 1, x1⟩⟩ q1), by omega, rfl, rfl, by exact ⟨hcl9, by rw [hzs, set_mid hdl], by simp [hdl], All.snoc ha1 p1, ha3, by omega, by omega⟩⟩
  · obtain ⟨hcl, hzs, hdl, ha1, ha2, hb1, hb2⟩ := hin
    have hk9 : k = xs.length := by omega
    subst hk9
    rw [List.drop_length] at ha2
    rw [List.drop_length, List.append_nil] at hzs
    obtain rfl : ca2 = [] := ha2
    subst hzs hcl
    have hfin := Row.mk (E := encEvent) (T := 49) (g := g) (cap := c) (rest := rest) (xs := zs) (by omega) (by rw [hdl]; exact h4) h5 (by rw [hdl]; exact hr.2)
    rw [hdl] at hfin
    (repeat' (first | refine nI ?_ | (refine nA ?_; intro _) | refine nY ?_ | refine nR ?_ | refine WC_cond rfl (fun hc => ?_) (fun hc => ?_)))
    refine ret_ret (by exact kR) ?_; exact ⟨(g, cellsO (encEvent.row zs ++ rest) 49) :: (ca1 ++ L0), by exact kP, zs, [(g, cellsO (encEvent.row zs ++ rest) 49)], ca1, kk, rfl, hfin, ha1, ⟨hb1, hb2⟩, rfl⟩
/-- A world is marked: it is one's own as before, and holds its marks. -/
theorem c_markWorld {L L0 : List Ent} (w : World) (q : WSl) (E : List Ent) (hL : L.Perm (E ++ L0)) (h : WOwn w q E) (k0 : Int) (hk : 0 ≤ k0 ∧ k0 ≤ 1) :
    Tri Tryz.prog 14 [worldV w q, I k0] L (fun v L' => ∃ w' E' k', v = I k' ∧ WOwn w' q E' ∧ worldV w' q = worldV w q ∧ HWorld k0 w' k' ∧ (k0 ≤ k' ∧ k' ≤ 1000000000000000) ∧ L' = E' ++ L0) := by
  refine Tri.perm ?_ hL
  obtain ⟨ps, ss, ms, ek, ec, ca, es, sa, el, la, rfl, hk', hpe, hpr, hpa, hse, hsr, hsa, hme, hmr, hma⟩ := h
  obtain ⟨sk, sc, sv, sm⟩ := q
  have n1 : w.kdc.cache.length ≤ lim := hk'.2
  have n2 : ps.length ≤ lim := hpr.2
  have n3 : ss.length ≤ lim := hsr.2
  have n4 : ms.length ≤ lim := hmr.2
  simp only [lim] at n1 n2 n3 n4
  simp only [wldE, List.append_assoc]
  refine Tri.of Tryz.func14 rfl rfl Tryz.ntmps14 rfl rfl ?_
  (repeat' (first | refine nI ?_ | (refine nA ?_; intro _) | (refine nW ?_; first | (refine op_call_id ?_; refine op_call rfl (c_markKdc w.kdc sk ek (by exact kE) hk' k0 (by omega) n1) rfl ?_; rintro _ _ ⟨x1, f1, k1, rfl, m1, p1, j1, b1, rfl⟩) | (refine op_call_id ?_; refine op_call rfl (c_markClientS sc ps ec ca (frontEE (by exact kE) (by exact kE)) hpr hpa k1 (by omega) n2) rfl ?_; rintro _ _ ⟨ps', ec', ca', k2, rfl, p2, a2, j2, b2, rfl⟩) | (refine op_call_id ?_; refine op_call rfl (c_markServS sv ss es sa (frontEE (by exact kE) (by exact kE)) hsr hsa k2 (by omega) n3) rfl ?_; rintro _ _ ⟨ss', es', sa', k3, rfl, p3, a3, j3, b3, rfl⟩) | (refine op_call_id ?_; refine op_call rfl (c_markMsgS sm ms el la (frontEE (by exact kE) (by exact kE)) hmr hma k3 (by omega) n4) rfl ?_; rintro _ _ ⟨ms', el', la', k4, rfl, p4, a4, j4, b4, rfl⟩)) | refine nY ?_ | refine nR ?_ | refine WC_cond rfl (fun hc => ?_) (fun hc => ?_)))
  refine ret_ret (by exact kR) ?_; exact ⟨f1 ++ (ec' ++ (ca' ++ (es' ++ (sa' ++ (el' ++ (la' ++ L0)))))), by exact kP, { w with kdc := { w.kdc with cache := x1 }, clients := ps'.map Prod.fst, servs := ss'.map Prod.fst, log := ms'.map Prod.fst }, wldE f1 ec' ca' es' sa' el' la', k4, rfl, ⟨ps', ss', ms', f1, ec', ca', es', sa', el', la', rfl, ⟨p1, rfl, p2, a2, rfl, p3, a3, rfl, p4, a4⟩⟩, rfl, ⟨k1, k2, k3, j1, HL.map _ j2, HL.map _ j3, HL.map _ j4⟩, by omega, by simp only [wldE, List.append_assoc]⟩
end Go.Proofs.YtoledfhjmdpihaaGreat
