/- Draws: what is read. -/
import Derived.Test.YtkdlkclanlkebaaGreatA9
import Derived.Test.YtkdlkclanlkebaaGreatA1
import Derived.Test.YtkdlkclanlkebaaGreatA6
set_option linter.unusedVariables false
set_option linter.unusedSectionVars false
set_option linter.unusedSimpArgs false
namespace Go.Proofs.YtkdlkclanlkebaaGreat
open Go Go.Proofs Go.Proofs.YtkdlkclanlkebaaGreat.VE
attribute [local irreducible] Val Op1 WO WR WA WC seqQ blockQ loopQ retQ
noncomputable def o59x7L43 : Array Oper := cops (cl (cr (cr (cr (cr (cr (codeOf Tryz.f59)))))))
noncomputable def r59x7L43 : Run := (.st 0 0 (.st 1 0 (.st 2 0 (.st 3 1 (.st 4 0 (.st 5 0 (.st 6 0 (.st 7 0 (.st 8 1 (.st 9 0 (.st 10 0 (.st 11 0 (.st 12 1 (.st 13 0 (.st 14 0 (.st 15 0 (.st 16 0 (.st 17 0 (.st 18 1 (.st 19 0 (.st 20 0 (.st 21 0 (.st 22 0 (.st 23 0 (.st 24 0 (.st 25 1 (.st 26 0 (.st 27 0 (.st 28 0 (.st 29 1 (.st 30 0 (.st 31 0 (.st 32 0 (.st 33 0 (.st 34 0 (.st 35 0 (.st 36 0 (.st 37 0 (.st 38 0 (.st 39 0 (.st 40 1 (.st 41 0 (.st 42 0 (.st 43 0 (.st 44 0 (.st 45 0 .done))))))))))))))))))))))))))))))))))))))))))))))
set_option maxHeartbeats 4000000
abbrev rdO (sb : Sl) (p : Int) : Obj := cellsO [sb.v, I p] 105
/-- A code that is read. -/
structure Code8 (L : List Ent) (sb : Sl) (bs : List Int) : Prop where
  at_ : SliceAt L encByte sb bs
  byte : ∀ x ∈ bs, 0 ≤ x ∧ x ≤ 255
  len : bs.length ≤ 2000
theorem Code8.mono {L M : List Ent} {sb : Sl} {bs : List Int} (h : Code8 L sb bs) (hs : ∀ e ∈ L, e ∈ M) : Code8 M sb bs := ⟨h.at_.mono hs, h.byte, h.len⟩
theorem c_l6Open {L : List Ent} (sb : Sl) (bs : List Int) (h : SliceAt L encByte sb bs) (hby : ∀ x ∈ bs, 0 ≤ x ∧ x ≤ 255) : Tri Tryz.prog 57 [sb.v] L (fun v L' => ∃ b sb' bs', v = .pointer (some ⟨b, 0, none⟩) ∧ Code8 L sb' bs' ∧ L' = (b, rdO sb' 0) :: L) := by
  obtain ⟨a, n, c⟩ := sb
  have hat := h
  obtain ⟨hn, hc, hbig, hrd⟩ := h
  dsimp only at hn hc
  subst hn
  simp only [big] at hbig
  by_cases h2 : 2000 < bs.length
  · have hl : (bs.take 2000).length ≤ 2000 := by rw [List.length_take]; omega
    have hcut : SliceAt L encByte ⟨a, 2000, c⟩ (bs.take 2000) := hat.take (by omega)
    refine Tri.of Tryz.func57 rfl rfl Tryz.ntmps57 rfl rfl ?_
    (repeat' (first | refine nI ?_ | (refine nA ?_; intro _) | refine nY ?_ | refine nR ?_ | refine WC_cond rfl (fun hc => ?_) (fun hc => ?_)))
    refine ret_ret (by exact kR) ?_; exact ⟨(_, rdO ⟨a, 2000, c⟩ 0) :: L, by exact kP, _, ⟨a, 2000, c⟩, bs.take 2000, rfl, ⟨hcut, fun x hx => hby x (List.mem_of_mem_take hx), hl⟩, rfl⟩
  · refine Tri.of Tryz.func57 rfl rfl Tryz.ntmps57 rfl rfl ?_
    (repeat' (first | refine nI ?_ | (refine nA ?_; intro _) | refine nY ?_ | refine nR ?_ | refine WC_cond rfl (fun hc => ?_) (fun hc => ?_)))
    refine ret_ret (by exact kR) ?_; exact ⟨(_, rdO ⟨a, bs.length, c⟩ 0) :: L, by exact kP, _, ⟨a, bs.length, c⟩, bs, rfl, ⟨hat, hby, by omega⟩, rfl⟩
theorem c_pick {L L1 : List Ent} (br : Nat) (sb : Sl) (bs : List Int) (p n : Int) (hL : L.Perm ((br, rdO sb p) :: L1)) (hb : Code8 L1 sb bs) (hp : 0 ≤ p ∧ p ≤ 1000000) : Tri Tryz.prog 59 [.pointer (some ⟨br, 0, none⟩), I n] L (fun v L' => ∃ x : Int, v = I x ∧ (0 ≤ x ∧ (x < n ∨ x = 0)) ∧ L' = (br, rdO sb (p + 1)) :: L1) := by
  refine Tri.perm ?_ hL
  obtain ⟨a, nn, c⟩ := sb
  obtain ⟨hat, hby, hlen⟩ := hb
  obtain ⟨hn', hc, hbig, hrd⟩ := hat
  dsimp only at hn' hc hrd
  subst hn'
  by_cases hn : n < 1
  · refine Tri.of Tryz.func59 rfl rfl Tryz.ntmps59 rfl rfl ?_
    (repeat' (first | refine nI ?_ | (refine nA ?_; intro _) | refine nY ?_ | refine WA_alt ?_ ?_ | refine nR ?_ | refine WC_drawL (id := 7) (ops := o59x7L43) r59x7L43 (by kernel_rfl) rfl ?_ | refine WC_cond rfl (fun hc => ?_) (fun hc => ?_)))
    refine ret_ret (by exact kR) ?_; exact ⟨(br, rdO ⟨a, bs.length, c⟩ (p + 1)) :: L1, by exact kP, 0, rfl, ⟨by omega, .inr rfl⟩, rfl⟩
  by_cases hz : bs.length = 0
  · have hz' : (bs.length : Int) = 0 := by omega
    refine Tri.of Tryz.func59 rfl rfl Tryz.ntmps59 rfl rfl ?_
    (repeat' (first | refine nI ?_ | (refine nA ?_; intro _) | refine nY ?_ | refine WA_alt ?_ ?_ | refine nR ?_ | refine WC_drawL (id := 7) (ops := o59x7L43) r59x7L43 (by kernel_rfl) rfl ?_ | refine WC_cond rfl (fun hc => ?_) (fun hc => ?_)))
    refine ret_ret (by exact kR) ?_; exact ⟨(br, rdO ⟨a, bs.length, c⟩ (p + 1)) :: L1, by exact kP, 0, rfl, ⟨by omega, .inr rfl⟩, rfl⟩
  obtain ⟨b', o', cs, T', fr, rfl, hmem, hrow⟩ := hrd (by omega)
  by_cases hlt : p < bs.length
  · obtain ⟨y, hy⟩ : ∃ y, bs[(p + 1 - 1).toNat]? = some y := ⟨bs[(p + 1 - 1).toNat]'(by omega), List.getElem?_eq_getElem _⟩
    have hrow' := hrow _ y hy
    have hyb := hby y (List.mem_of_getElem? hy)
    refine Tri.of Tryz.func59 rfl rfl Tryz.ntmps59 rfl rfl ?_
    (repeat' (first | refine nI ?_ | (refine nA ?_; intro _) | (refine nW ?_; first | refine op_val rfl (by first | exact val_byte rfl rfl rfl hyb.1 hyb.2 | (apply gv_bin; refine val_rem rfl rfl ?_ ?_ <;> (first | omega | (dsimp only; omega)))) ?_) | (refine WR_id ?_; refine WR_pure rfl rfl rfl (by first | exact val_byte rfl rfl rfl hyb.1 hyb.2 | (apply gv_bin; refine val_rem rfl rfl ?_ ?_ <;> (first | omega | (dsimp only; omega)))) ?_) | refine nY ?_ | refine WA_alt ?_ ?_ | refine nR ?_ | refine WC_drawL (id := 7) (ops := o59x7L43) r59x7L43 (by kernel_rfl) rfl ?_ | refine WC_cond rfl (fun hc => ?_) (fun hc => ?_)))
    refine ret_ret (by exact kR) ?_; exact ⟨(br, rdO ⟨some ⟨b', o', none⟩, bs.length, c⟩ (p + 1)) :: L1, by exact kP, y % n, rfl, ⟨Int.emod_nonneg _ (by omega), .inl (Int.emod_lt_of_pos _ (by omega))⟩, rfl⟩
  · have hl0 : (0 : Int) < (bs.length : Int) := by omega
    have hm1 : 0 ≤ (p + 1 - 1) % (bs.length : Int) := Int.emod_nonneg _ (by omega)
    have hm2 : (p + 1 - 1) % (bs.length : Int) < (bs.length : Int) := Int.emod_lt_of_pos _ hl0
    have hm3 : 0 ≤ ((p + 1 - 1) * 7 + 3) % (bs.length : Int) := Int.emod_nonneg _ (by omega)
    have hm4 : ((p + 1 - 1) * 7 + 3) % (bs.length : Int) < (bs.length : Int) := Int.emod_lt_of_pos _ hl0
    have hd1 : 0 ≤ (p + 1 - 1) / (bs.length : Int) := Int.ediv_nonneg (by omega) (by omega)
    have hd2 : (p + 1 - 1) / (bs.length : Int) ≤ p + 1 - 1 := Int.ediv_le_self _ (by omega)
    obtain ⟨y, hy⟩ : ∃ y, bs[((p + 1 - 1) % (bs.length : Int)).toNat]? = some y := ⟨bs[((p + 1 - 1) % (bs.length : Int)).toNat]'(by omega), List.getElem?_eq_getElem _⟩
    obtain ⟨z, hz⟩ : ∃ y, bs[(((p + 1 - 1) * 7 + 3) % (bs.length : Int)).toNat]? = some y := ⟨bs[(((p + 1 - 1) * 7 + 3) % (bs.length : Int)).toNat]'(by omega), List.getElem?_eq_getElem _⟩
    have hrow1 := hrow _ y hy
    have hrow2 := hrow _ z hz
    have hyb := hby y (List.mem_of_getElem? hy)
    have hzb := hby z (List.mem_of_getElem? hz)
    refine Tri.of Tryz.func59 rfl rfl Tryz.ntmps59 rfl rfl ?_
    (repeat' (first | refine nI ?_ | (refine nA ?_; intro _) | (refine nW ?_; first | refine op_val rfl (by first | exact val_byte rfl rfl rfl hyb.1 hyb.2 | exact val_byte rfl rfl rfl hzb.1 hzb.2 | (apply gv_bin; refine val_mul rfl rfl ?_ ?_ <;> (first | omega | (dsimp only; omega))) | (apply gv_bin; refine val_quo rfl rfl ?_ ?_ ?_ <;> (first | omega | (dsimp only; omega))) | exact val_xor rfl rfl | (apply gv_bin; refine val_rem rfl rfl ?_ ?_ <;> first | omega | exact (xorI_range (by first | omega | (dsimp only; omega)) (by first | omega | (dsimp only; omega))).1)) ?_) | (refine WR_id ?_; refine WR_pure rfl rfl rfl (by first | exact val_byte rfl rfl rfl hyb.1 hyb.2 | exact val_byte rfl rfl rfl hzb.1 hzb.2 | (apply gv_bin; refine val_mul rfl rfl ?_ ?_ <;> (first | omega | (dsimp only; omega))) | (apply gv_bin; refine val_quo rfl rfl ?_ ?_ ?_ <;> (first | omega | (dsimp only; omega))) | exact val_xor rfl rfl | (apply gv_bin; refine val_rem rfl rfl ?_ ?_ <;> first | omega | exact (xorI_range (by first | omega | (dsimp only; omega)) (by first | omega | (dsimp only; omega))).1)) ?_) | refine nY ?_ | refine WA_alt ?_ ?_ | refine nR ?_ | refine WC_drawL (id := 7) (ops := o59x7L43) r59x7L43 (by kernel_rfl) rfl ?_ | refine WC_cond rfl (fun hc => ?_) (fun hc => ?_)))
    refine ret_ret (by exact kR) ?_; exact ⟨(br, rdO ⟨some ⟨b', o', none⟩, bs.length, c⟩ (p + 1)) :: L1, by exact kP, _, rfl, ⟨Int.emod_nonneg _ (by omega), .inl (Int.emod_lt_of_pos _ (by omega))⟩, rfl⟩
theorem c_l71Key {L L1 : List Ent} (br : Nat) (sb : Sl) (bs : List Int) (p : Int) (hL : L.Perm ((br, rdO sb p) :: L1)) (hb : Code8 L1 sb bs) (hp : 0 ≤ p ∧ p ≤ 1000000) : Tri Tryz.prog 196 [.pointer (some ⟨br, 0, none⟩)] L (fun v L' => ∃ x : Int, v = I x ∧ (10 ≤ x ∧ x ≤ 16) ∧ L' = (br, rdO sb (p + 1)) :: L1) := by
  refine Tri.of Tryz.func196 rfl rfl Tryz.ntmps196 rfl rfl ?_
  (repeat' (first | refine nX ?_ | (refine nA ?_; intro _) | (refine nW ?_; first | (refine op_call_id ?_; refine op_call rfl (c_pick br sb bs p 6 (hL.trans (by exact kF)) (hb.mono (by exact kS)) hp) rfl ?_; rintro _ _ ⟨x, rfl, hx, rfl⟩)) | refine nY ?_ | refine nR ?_))
  refine ret_ret (by exact kR) ?_; exact ⟨(br, rdO sb (p + 1)) :: L1, by exact kP, 10 + x, rfl, by omega, rfl⟩
end Go.Proofs.YtkdlkclanlkebaaGreat
/- Draws: seals. -/
set_option linter.unusedVariables false
set_option linter.unusedSectionVars false
set_option linter.unusedSimpArgs false
namespace Go.Proofs.YtkdlkclanlkebaaGreat
open Go Go.Proofs Go.Proofs.YtkdlkclanlkebaaGreat.VE
attribute [local irreducible] Val Op1 WO WR WA WC seqQ blockQ loopQ retQ
set_option maxHeartbeats 4000000
theorem litInt (xs : List Int) {x n : Int} (h : 0 ≤ x ∧ (x < n ∨ x = 0)) (hn : n = xs.length) (h0 : 0 < xs.length) : (xs.map fun v => I v)[0 + x.toNat * 1]? = some (I (xs.getD x.toNat 0)) := by
  have h1 : x.toNat < xs.length := by omega
  have h2 : 0 + x.toNat * 1 = x.toNat := by omega
  rw [h2, List.getElem?_map, List.getElem?_eq_getElem h1, List.getD_eq_getElem?_getD, List.getElem?_eq_getElem h1]
  rfl
theorem sealV_mk (a1 a2 a3 a4 a5 a6 a7 : Int) : packR [.agg #[I a1, I a2, I a3, I a4, I a5, I a6, I a7]] = sealV ⟨a1, a2, a3, a4, a5, a6, a7⟩ := rfl
theorem c_l71Fine {L L1 : List Ent} (br : Nat) (sb : Sl) (bs : List Int) (p : Int) (hL : L.Perm ((br, rdO sb p) :: L1)) (hb : Code8 L1 sb bs) (hp : 0 ≤ p ∧ p ≤ 900000) : Tri Tryz.prog 175 [.pointer (some ⟨br, 0, none⟩)] L (fun v L' => ∃ (s : Seal) (p' : Int), v = sealV s ∧ (p ≤ p' ∧ p' ≤ p + 10) ∧ L' = (br, rdO sb p') :: L1) := by
  refine Tri.perm ?_ hL
  refine Tri.of Tryz.func175 rfl rfl Tryz.ntmps175 rfl rfl ?_
  (repeat' (first | refine nI ?_ | (refine nA ?_; intro _) | (refine nW ?_; first | (refine op_call_id ?_; refine op_call rfl (c_pick br sb bs _ _ (by exact kF) (hb.mono (by exact kS)) (by omega)) rfl ?_; rintro _ _ ⟨x, rfl, hx, rfl⟩) | (refine op_call_id ?_; refine op_call rfl (c_l71Key br sb bs _ (by exact kF) (hb.mono (by exact kS)) (by omega)) rfl ?_; rintro _ _ ⟨x, rfl, hx, rfl⟩)) | refine nY ?_ | refine nR ?_ | refine WC_cond rfl (fun hc => ?_) (fun hc => ?_)))
  all_goals (refine ret_ret (by exact kR) ?_; exact ⟨(br, rdO sb _) :: L1, by exact kP, _, _, sealV_mk _ _ _ _ _ _ _, by omega, rfl⟩)
theorem c_l71Seal {L L1 : List Ent} (br : Nat) (sb : Sl) (bs : List Int) (p : Int) (hL : L.Perm ((br, rdO sb p) :: L1)) (hb : Code8 L1 sb bs) (hp : 0 ≤ p ∧ p ≤ 900000) : Tri Tryz.prog 176 [.pointer (some ⟨br, 0, none⟩)] L (fun v L' => ∃ (s : Seal) (p' : Int), v = sealV s ∧ (p ≤ p' ∧ p' ≤ p + 20) ∧ L' = (br, rdO sb p') :: L1) := by
  refine Tri.perm ?_ hL
  refine Tri.of Tryz.func176 rfl rfl Tryz.ntmps176 rfl rfl ?_
  (repeat' (first | refine nI ?_ | (refine nA ?_; intro _) | (refine nW ?_; first | (refine op_load_id ?_; refine op_val rfl (by exact val_load1 rfl rfl rfl (by exact kM) (litInt [-1, 0, 3, 7, 61, 101] hx rfl (by decide))) ?_) | (refine op_call_id ?_; refine op_call rfl (c_l71Fine br sb bs _ (by exact kF) (hb.mono (by exact kS)) (by omega)) rfl ?_; rintro _ _ ⟨⟨s1, s2, s3, s4, s5, s6, s7⟩, p1, rfl, hp1, rfl⟩) | (refine op_call_id ?_; refine op_call rfl (c_pick br sb bs _ _ (by exact kF) (hb.mono (by exact kS)) (by omega)) rfl ?_; rintro _ _ ⟨x, rfl, hx, rfl⟩)) | refine nY ?_ | refine nR ?_ | refine WC_cond rfl (fun hc => ?_) (fun hc => ?_)))
  all_goals (refine ret_ret (by exact kR) ?_; exact ⟨(br, rdO sb _) :: L1, by exact kP, _, _, sealV_mk _ _ _ _ _ _ _, by omega, rfl⟩)
end Go.Proofs.YtkdlkclanlkebaaGreat
/- Draws: words. -/
set_option linter.unusedVariables false
set_option linter.unusedSectionVars false
set_option linter.unusedSimpArgs false
namespace Go.Proofs.YtkdlkclanlkebaaGreat
open Go Go.Proofs Go.Proofs.YtkdlkclanlkebaaGreat.VE
attribute [local irreducible] Val Op1 WO WR WA WC seqQ blockQ loopQ retQ
noncomputable def o119x20L45 : Array Oper := cops (cl (cl (cr (cl (cl (cr (cl (cr (cr (cr (cr (codeOf Tryz.f119))))))))))))
noncomputable def o119x31L45 : Array Oper := cops (cl (cr (cr (cr (cr (cr (cr (cr (cr (cr (cl (cr (cl (cr (cr (cr (cr (cr (codeOf Tryz.f119)))))))))))))))))))
noncomputable def r119x20L45 : Run := (.st 0 0 (.st 1 1 (.st 2 0 (.st 3 2 (.st 4 2 (.st 5 3 (.st 6 0 (.st 7 3 .done))))))))
noncomputable def r119x31L45 : Run := (.st 0 0 (.st 1 1 (.st 2 0 (.st 3 2 (.st 4 2 (.st 5 3 (.st 6 0 (.st 7 3 .done))))))))
set_option maxHeartbeats 4000000
theorem c_l71Msg {L L1 : List Ent} (br : Nat) (sb : Sl) (bs : List Int) (p : Int) (hL : L.Perm ((br, rdO sb p) :: L1)) (hb : Code8 L1 sb bs) (hp : 0 ≤ p ∧ p ≤ 800000) : Tri Tryz.prog 119 [.pointer (some ⟨br, 0, none⟩)] L (fun v L' => ∃ (m : Msg) (sm : Sl) (em : List Ent) (p' : Int), v = msgV m sm ∧ Row encSeal 51 sm m.seals em ∧ m.seals.length ≤ 3 ∧ (p ≤ p' ∧ p' ≤ p + 100) ∧ L' = em ++ ((br, rdO sb p') :: L1)) := by
  refine Tri.perm ?_ hL
  refine Tri.of Tryz.func119 rfl rfl Tryz.ntmps119 rfl rfl ?_
  (repeat' (first | refine nX ?_ | (refine nA ?_; intro _) | (refine nW ?_; first | (refine op_call_id ?_; refine op_call rfl (c_pick br sb bs _ _ (by exact kF) (hb.mono (by exact kS)) (by omega)) rfl ?_; rintro _ _ ⟨x, rfl, hx, rfl⟩)) | refine nY ?_ | refine WA_alt ?_ ?_ | refine WC_region ?_ | refine WC_blockN [0] rfl ?_ | refine WC_drawL (id := 20) (ops := o119x20L45) r119x20L45 (by kernel_rfl) rfl ?_ | refine WC_drawL (id := 31) (ops := o119x31L45) r119x31L45 (by kernel_rfl) rfl ?_))
  rename_i b2 b9 b3
  refine WC_cut (X := { y : Int × Int × Int × Int × Int × Int // (0 ≤ y.2.2.2.2.1 ∧ y.2.2.2.2.1 ≤ 2) ∧ p ≤ y.2.2.2.2.2 ∧ y.2.2.2.2.2 ≤ p + 5 })
    (fun y => [(0, .pointer (some ⟨br, 0, none⟩)), (2, .pointer (some ⟨b2, 0, none⟩)), (3, .pointer (some ⟨b3, 0, none⟩)), (4, I y.1.2.2.2.2.1)])
    (fun y => (br, rdO sb y.1.2.2.2.2.2) :: (b2, cellsO (msgC Msg.zero Sl.nil) 56) :: (b3, cellsO [I y.1.1, I y.1.2.1, I y.1.2.2.1, I y.1.2.2.2.1, .slice (some ⟨b9, 0, none⟩) 0 0] 56) :: L1) ?_ ?_
  · (repeat' (first | refine nI ?_ | (refine nA ?_; intro _) | (refine nW ?_; first | (refine op_call_id ?_; refine op_call rfl (c_pick br sb bs _ _ (by exact kF) (hb.mono (by exact kS)) (by omega)) rfl ?_; rintro _ _ ⟨x, rfl, hx, rfl⟩)) | refine nY ?_ | refine WA_alt ?_ ?_ | refine nR ?_ | refine WC_drawL (id := 20) (ops := o119x20L45) r119x20L45 (by kernel_rfl) rfl ?_ | refine WC_drawL (id := 31) (ops := o119x31L45) r119x31L45 (by kernel_rfl) rfl ?_ | refine WC_cond rfl (fun hc => ?_) (fun hc => ?_)))
    all_goals (refine ⟨rfl, ⟨(_, _, _, _, _, _), ?_⟩, by exact kQ, by exact kL⟩; dsimp only; omega)
  rintro ⟨⟨m1, m2, m3, m4, many, p1⟩, hmany, hp1⟩
  dsimp only at hmany hp1 ⊢
  (repeat' (first | refine nX ?_ | (refine nA ?_; intro _) | refine nY ?_ | refine WA_alt ?_ ?_ | refine nR ?_ | refine WC_drawL (id := 20) (ops := o119x20L45) r119x20L45 (by kernel_rfl) rfl ?_ | refine WC_drawL (id := 31) (ops := o119x31L45) r119x31L45 (by kernel_rfl) rfl ?_))
  have hlr : (List.range many.toNat).length = many.toNat := List.length_range
  refine WC_loop (fun mz Ez Mz => ∃ (k : Nat) (xs : List Seal) (a2 : Option Addr) (n2 c2 : Nat) (em : List Ent) (p2 : Int), k + mz = (List.range many.toNat).length ∧ Ez = [(0, .pointer (some ⟨br, 0, none⟩)), (2, .pointer (some ⟨b2, 0, none⟩)), (3, .pointer (some ⟨b3, 0, none⟩)), (4, I many), (5, I k)] ∧ Mz = (br, rdO sb p2) :: (b2, cellsO (msgC Msg.zero Sl.nil) 56) :: (b3, cellsO [I m1, I m2, I m3, I m4, .slice a2 n2 c2] 56) :: (em ++ L1) ∧ (Row encSeal 51 ⟨a2, n2, c2⟩ xs em ∧ xs.length = k ∧ p ≤ p2 ∧ p2 ≤ p + 5 + 10 * k)) (List.range many.toNat).length (by exact kQ) (by exact kL) ⟨0, [], some ⟨b9, 0, none⟩, 0, 0, [], p1, by omega, rfl, rfl, by exact ⟨Row.nil, rfl, by omega⟩⟩ ?_
  rintro mz Ez Mz ⟨k, xs, a2, n2, c2, em, p2, hk, rfl, rfl, hin⟩
  rcases Nat.lt_or_ge k (List.range many.toNat).length with hlt | hge
  · obtain ⟨hr, hxl, hp2⟩ := hin
    (repeat' (first | refine nI ?_ | (refine nA ?_; intro _) | (refine nW ?_; first | (refine op_call_id ?_; refine op_call rfl (c_l71Fine br sb bs _ (by exact kF) (hb.mono (by exact kS)) (by omega)) rfl ?_; rintro _ _ ⟨y, p3, rfl, hp3, rfl⟩) | (refine go_append ?_; refine op_appendRow (sl := ⟨_, _, _⟩) (sx := ⟨_, _, _⟩) rfl rfl rfl rfl rfl rfl rfl rfl rfl (hr) (by exact kE) (SliceAt.one (x := y) (by exact kM) rfl) (by exact kN) ?_; intro sl' es' hrow' hst')) | refine nY ?_ | refine WA_alt ?_ ?_ | refine nR ?_ | refine WC_draw (id := 20) (ops := o119x20L45) ([(b3, cellsO [I m1, I m2, I m3, I m4, .slice a2 n2 c2] 56)]) r119x20L45 (by kernel_rfl) rfl ?_ | refine WC_drawL (id := 31) (ops := o119x31L45) r119x31L45 (by kernel_rfl) rfl ?_ | refine WC_cond rfl (fun hc => ?_) (fun hc => ?_)))
    obtain ⟨a9, n9, c9⟩ := sl'
    exact loopQ_next ⟨mz - 1, _, _, by omega, by exact kQ, by exact kL, k + 1, xs ++ [y], a9, n9, c9, es', p3, by omega, rfl, rfl, by exact ⟨hrow', by simp [hxl], by omega⟩⟩
  obtain ⟨hr, hxl, hp2⟩ := hin
  (repeat' (first | refine nI ?_ | (refine nA ?_; intro _) | (refine nW ?_; first | (refine op_call_id ?_; refine op_call rfl (c_pick br sb bs _ _ (by exact kF) (hb.mono (by exact kS)) (by omega)) rfl ?_; rintro _ _ ⟨x, rfl, hx, rfl⟩)) | refine nY ?_ | refine WA_alt ?_ ?_ | refine WC_region ?_ | refine WC_blockN [3] rfl ?_ | refine WC_drawL (id := 20) (ops := o119x20L45) r119x20L45 (by kernel_rfl) rfl ?_ | refine WC_drawL (id := 31) (ops := o119x31L45) r119x31L45 (by kernel_rfl) rfl ?_ | refine WC_cond rfl (fun hc => ?_) (fun hc => ?_)))
  refine WC_cut (X := { y : Int × Int × Int × Int × Int × List Seal × Sl × List Ent // (p ≤ y.2.2.2.2.1 ∧ y.2.2.2.2.1 ≤ p + 80) ∧ Row encSeal 51 y.2.2.2.2.2.2.1 y.2.2.2.2.2.1 y.2.2.2.2.2.2.2 ∧ y.2.2.2.2.2.1.length ≤ 3 })
    (fun y => [(2, .pointer (some ⟨b2, 0, none⟩)), (3, .pointer (some ⟨b3, 0, none⟩))])
    (fun y => (br, rdO sb y.1.2.2.2.2.1) :: (b2, cellsO (msgC Msg.zero Sl.nil) 56) :: (b3, cellsO [I y.1.1, I y.1.2.1, I y.1.2.2.1, I y.1.2.2.2.1, y.1.2.2.2.2.2.2.1.v] 56) :: (y.1.2.2.2.2.2.2.2 ++ L1)) ?_ ?_
  · (repeat' (first | refine nI ?_ | (refine nA ?_; intro _) | (refine nW ?_; first | (refine op_load_id ?_; refine op_val rfl (by exact val_load1 rfl rfl rfl (by exact kM) (litInt [0, 5, 61] hx rfl (by decide))) ?_) | (refine op_call_id ?_; refine op_call rfl (c_pick br sb bs _ _ (by exact kF) (hb.mono (by exact kS)) (by omega)) rfl ?_; rintro _ _ ⟨x, rfl, hx, rfl⟩) | (refine op_call_id ?_; refine op_call rfl (c_l71Seal br sb bs _ (by exact kF) (hb.mono (by exact kS)) (by omega)) rfl ?_; rintro _ _ ⟨y, p3, rfl, hp3, rfl⟩) | (refine go_append ?_; refine op_appendRow (sl := ⟨_, _, _⟩) (sx := ⟨_, _, _⟩) rfl rfl rfl rfl rfl rfl rfl rfl rfl (hr) (by exact kE) (SliceAt.one (x := y) (by exact kM) rfl) (by exact kN) ?_; intro sl' es' hrow' hst')) | (refine WR_id ?_; refine WR_load rfl rfl rfl (by exact val_load1 rfl rfl rfl (by exact kM) (litInt [0, 5, 61] hx rfl (by decide))) (by exact kS) ?_) | refine nY ?_ | refine WA_alt ?_ ?_ | refine nR ?_ | refine WC_drawL (id := 20) (ops := o119x20L45) r119x20L45 (by kernel_rfl) rfl ?_ | refine WC_draw (id := 31) (ops := o119x31L45) ([(b3, cellsO [I m1, I m2, I m3, I m4, .slice a2 n2 c2] 56)]) r119x31L45 (by kernel_rfl) rfl ?_ | refine WC_cond rfl (fun hc => ?_) (fun hc => ?_)))
    all_goals first
      | (refine ⟨rfl, ⟨(_, _, _, _, _, xs, ⟨a2, n2, c2⟩, em), ?_⟩, by exact kQ, by exact kL⟩; exact ⟨by dsimp only; omega, hr, by dsimp only; omega⟩)
      | (refine ⟨rfl, ⟨(_, _, _, _, _, xs ++ [y], sl', es'), ?_⟩, by exact kQ, by exact kL⟩; exact ⟨by dsimp only; omega, hrow', by simp; omega⟩)
  rintro ⟨⟨k1, k2, k3, k4, p4, ys, sm, em4⟩, hp4, hr4, hl4⟩
  dsimp only at hp4 hr4 hl4 ⊢
  (repeat' (first | refine nX ?_ | (refine nA ?_; intro _) | refine nY ?_ | refine WA_alt ?_ ?_ | refine nR ?_ | refine WC_drawL (id := 20) (ops := o119x20L45) r119x20L45 (by kernel_rfl) rfl ?_ | refine WC_drawL (id := 31) (ops := o119x31L45) r119x31L45 (by kernel_rfl) rfl ?_))
  refine ret_ret (by exact kR) ?_; exact ⟨em4 ++ ((br, rdO sb p4) :: L1), by exact kP, ⟨k1, k2, k3, k4, ys⟩, sm, em4, p4, rfl, hr4, hl4, by omega, rfl⟩
end Go.Proofs.YtkdlkclanlkebaaGreat
/- Draws: words that are forged. -/
set_option linter.unusedVariables false
set_option linter.unusedSectionVars false
set_option linter.unusedSimpArgs false
namespace Go.Proofs.YtkdlkclanlkebaaGreat
open Go Go.Proofs Go.Proofs.YtkdlkclanlkebaaGreat.VE
attribute [local irreducible] Val Op1 WO WR WA WC seqQ blockQ loopQ retQ
noncomputable def o120x10L46 : Array Oper := cops (cl (cr (cl (cl (cl (cr (cl (cl (cr (cl (cr (cr (cr (cr (cr (codeOf Tryz.f120))))))))))))))))
noncomputable def o120x13L46 : Array Oper := cops (cl (cr (cl (cr (cr (cl (cl (cr (cl (cl (cr (cl (cr (cr (cr (cr (cr (codeOf Tryz.f120))))))))))))))))))
noncomputable def o120x17L46 : Array Oper := cops (cr (cr (cl (cr (cl (cr (cr (cl (cr (cr (cl (cl (cr (cl (cl (cr (cl (cr (cr (cr (cr (cr (codeOf Tryz.f120)))))))))))))))))))))))
noncomputable def o120x19L46 : Array Oper := cops (cl (cl (cr (cr (cr (cr (cl (cr (cr (cl (cl (cr (cl (cl (cr (cl (cr (cr (cr (cr (cr (codeOf Tryz.f120))))))))))))))))))))))
noncomputable def o120x5L46 : Array Oper := cops (cl (cr (cl (cr (cr (cr (cr (codeOf Tryz.f120))))))))
noncomputable def r120x10L46 : Run := (.st 0 0 (.st 1 1 (.st 2 0 (.st 3 0 (.st 4 0 (.st 5 0 (.st 6 0 (.st 7 2 (.st 8 0 (.st 9 1 (.st 10 0 (.st 11 3 .done))))))))))))
noncomputable def r120x13L46 : Run := (.st 0 0 (.st 1 1 (.st 2 0 (.st 3 0 (.st 5 0 (.st 9 0 (.st 12 0 (.st 13 1 (.st 14 0 (.alt (.st 4 2 (.st 6 2 (.st 7 0 (.alt (.st 8 2 (.st 10 2 (.st 11 0 (.st 15 2 (.st 16 0 (.st 17 0 (.st 18 0 (.st 19 3 .done)))))))) (.st 10 2 (.st 11 0 (.alt (.st 8 2 (.st 15 2 (.st 16 0 (.st 17 0 (.st 18 0 (.st 19 3 .done)))))) (.st 15 2 (.st 16 0 (.st 8 2 (.st 17 0 (.st 18 0 (.st 19 3 .done))))))))))))) (.st 6 2 (.alt (.st 4 2 (.st 7 0 (.alt (.st 8 2 (.st 10 2 (.st 11 0 (.st 15 2 (.st 16 0 (.st 17 0 (.st 18 0 (.st 19 3 .done)))))))) (.st 10 2 (.st 11 0 (.alt (.st 8 2 (.st 15 2 (.st 16 0 (.st 17 0 (.st 18 0 (.st 19 3 .done)))))) (.st 15 2 (.st 16 0 (.st 8 2 (.st 17 0 (.st 18 0 (.st 19 3 .done)))))))))))) (.st 10 2 (.st 11 0 (.alt (.st 4 2 (.st 7 0 (.alt (.st 8 2 (.st 15 2 (.st 16 0 (.st 17 0 (.st 18 0 (.st 19 3 .done)))))) (.st 15 2 (.st 16 0 (.st 8 2 (.st 17 0 (.st 18 0 (.st 19 3 .done))))))))) (.st 15 2 (.st 16 0 (.st 4 2 (.st 7 0 (.st 8 2 (.st 17 0 (.st 18 0 (.st 19 3 .done)))))))))))))))))))))))
noncomputable def r120x17L46 : Run := (.st 0 0 (.st 1 1 (.st 2 0 (.st 3 0 (.st 4 2 (.st 5 0 (.st 6 0 (.st 7 0 (.st 8 3 .done)))))))))
noncomputable def r120x19L46 : Run := (.st 0 0 (.st 1 1 (.st 2 0 (.st 3 0 (.st 4 2 (.st 5 0 (.st 6 0 (.st 7 0 (.st 8 3 .done)))))))))
noncomputable def r120x5L46 : Run := (.st 0 0 (.st 1 1 (.st 2 0 (.st 3 0 (.st 4 1 (.st 5 0 (.st 6 2 (.st 7 0 (.st 8 1 (.st 9 3 (.st 10 3 .done)))))))))))
set_option maxHeartbeats 8000000
theorem rowC_at {X : Type} {E : Enc X} {c : List Value} {o : Nat} {xs : List X} (h : RowC E c o xs) (d : X) {x n : Int} (hx : 0 ≤ x ∧ (x < n ∨ x = 0)) (hn : n = xs.length) (h0 : 0 < xs.length) : takeC c (o + x.toNat * E.sz) E.sz = some (E.cells (xs.getD x.toNat d)) := by
  have h1 : x.toNat < xs.length := by omega
  refine h x.toNat _ ?_
  rw [List.getElem?_eq_getElem h1, List.getD_eq_getElem?_getD, List.getElem?_eq_getElem h1]; rfl
theorem getD_in {X : Type} {xs : List X} (d : X) {x n : Int} (hx : 0 ≤ x ∧ (x < n ∨ x = 0)) (hn : n = xs.length) (h0 : 0 < xs.length) : xs.getD x.toNat d ∈ xs := by
  have h1 : x.toNat < xs.length := by omega
  rw [List.getD_eq_getElem?_getD, List.getElem?_eq_getElem h1]
  exact List.getElem_mem h1
theorem knowKeys_len (keys : List Int) (seals : List Seal) : (knowKeys keys seals).length ≤ 61 := by
  unfold knowKeys
  refine Nat.le_trans (List.length_filter_le _ _) ?_
  rw [List.length_map, List.length_range]; exact Nat.le_refl _
/-- Worlds out of which events are drawn: some are spoilt. -/
structure DOk (w : World) : Prop where
  now : -1 ≤ w.now ∧ w.now ≤ 101
  ll : w.log.length ≤ 81
  ms : ∀ m ∈ w.log, m.seals.length ≤ 3
theorem WOk.d {w : World} (h : WOk w) : DOk w := ⟨by have := h.now; omega, by have := h.ll; omega, fun m hm => by have := msgOk_len (h.ms m hm); omega⟩
theorem seals_len3 : ∀ (l : List Msg), (∀ m ∈ l, m.seals.length ≤ 3) → (l.flatMap Msg.seals).length ≤ 3 * l.length
  | [], _ => by simp
  | m :: r, h => by
    have h1 := seals_len3 r fun m' hm => h m' (List.mem_cons_of_mem _ hm)
    have h2 := h m List.mem_cons_self
    simp only [List.flatMap_cons, List.length_append, List.length_cons]; omega
section
variable {L1 : List Ent} (br : Nat) (sb : Sl) (bs : List Int) (hb : Code8 L1 sb bs) (w : World) (q : WSl) (ps : List (Client × CSl)) (ss : List (Serv × (Sl × Sl))) (ms : List (Msg × Sl)) (hw : DOk w) (hat : WldAt L1 w q ps ss ms)
include hb hw hat
theorem c_l72Forge {L : List Ent} (p : Int) (hL : L.Perm ((br, rdO sb p) :: L1)) (hp : 0 ≤ p ∧ p ≤ 700000) : Tri Tryz.prog 120 [.pointer (some ⟨br, 0, none⟩), worldV w q] L (fun v L' => ∃ (m : Msg) (sm : Sl) (em : List Ent) (p' : Int), v = msgV m sm ∧ Row encSeal 51 sm m.seals em ∧ m.seals.length ≤ 3 ∧ (p ≤ p' ∧ p' ≤ p + 300) ∧ L' = em ++ ((br, rdO sb p') :: L1)) := by
  refine Tri.perm ?_ hL
  have hsl : (w.log.flatMap Msg.seals).length ≤ 1000 := by
    have h1 := seals_len3 w.log hw.ms
    have h2 := hw.ll
    omega
  have hml := len_fst hat.me
  have hll := hw.ll
  have hnow := hw.now
  obtain ⟨kc, cs, ss', ⟨al, nl, cl⟩⟩ := q
  have hmr := hat.mr
  obtain ⟨hn0, hc0, _, hrd0⟩ := hmr
  dsimp only at hn0 hrd0
  subst hn0
  have hkl := knowKeys_len (own w) (worldSeals w)
  refine Tri.of Tryz.func120 rfl rfl Tryz.ntmps120 rfl rfl ?_
  (repeat' (first | refine nX ?_ | (refine nA ?_; intro _) | (refine nW ?_; first | (refine op_call_id ?_; refine op_call rfl (c_l21Seals w _ ms (hat.mr.mono (by exact kS)) hat.me (fun p hp => (hat.ma p hp).mono (by exact kS)) hsl) rfl ?_; rintro _ _ ⟨⟨as5, ns5, cs5⟩, es5, rfl, hrs, rfl⟩) | (refine op_call_id ?_; refine op_call rfl (c_l21Bad w _) rfl ?_; rintro _ _ ⟨⟨ao, no, co⟩, eo, rfl, hro, rfl⟩) | (refine op_call_id ?_; refine op_call rfl (c_sKnowKeys ⟨ao, no, co⟩ ⟨as5, ns5, cs5⟩ (own w) (worldSeals w) (hro.atL (by exact kS)) (hrs.atL (by exact kS))) rfl ?_; rintro _ _ ⟨⟨ak, nk, ck⟩, ek, rfl, hrk, rfl⟩) | (refine op_call_id ?_; refine op_call rfl (c_l71Msg br sb bs _ (by exact kF) (hb.mono (by exact kS)) (by omega)) rfl ?_; rintro _ _ ⟨m0, sm0, em0, p1, rfl, hr0, hl0, hp1, rfl⟩)) | refine nY ?_ | refine WA_alt ?_ ?_ | refine WC_regionN [4] rfl ?_ | refine WC_block ?_ | refine WC_drawL (id := 5) (ops := o120x5L46) r120x5L46 (by kernel_rfl) rfl ?_ | refine WC_drawL (id := 10) (ops := o120x10L46) r120x10L46 (by kernel_rfl) rfl ?_ | refine WC_drawL (id := 13) (ops := o120x13L46) r120x13L46 (by kernel_rfl) rfl ?_ | refine WC_drawL (id := 17) (ops := o120x17L46) r120x17L46 (by kernel_rfl) rfl ?_ | refine WC_drawL (id := 19) (ops := o120x19L46) r120x19L46 (by kernel_rfl) rfl ?_))
  rename_i b3 b4 b7
  have hns := hrs.n
  have hnk := hrk.n
  dsimp only at hns hnk
  subst hns hnk
  obtain ⟨_, hcs5, hbs5, hrd5⟩ := hrs.at
  obtain ⟨_, hck5, hbk5, hrd6⟩ := hrk.at
  dsimp only at hcs5 hrd5 hck5 hrd6
  have hslen : (worldSeals w).length ≤ 1000 := by
    have := addNew_len (w.log.flatMap Msg.seals) []
    unfold worldSeals; simp only [List.length_nil, Nat.zero_add] at this; omega
  refine WC_cut (X := { y : Bool × Int // (y.1 = true → 0 < ms.length) ∧ p ≤ y.2 ∧ y.2 ≤ p + 101 })
    (fun y => [(0, .pointer (some ⟨br, 0, none⟩)), (3, .pointer (some ⟨b3, 0, none⟩)), (4, .pointer (some ⟨b4, 0, none⟩)), (5, .slice as5 (worldSeals w).length cs5), (6, .slice ak (knowKeys (own w) (worldSeals w)).length ck), (7, .pointer (some ⟨b7, 0, none⟩)), (26, B y.1.1)])
    (fun y => (br, rdO sb y.1.2) :: (b3, cellsO (worldC w ⟨kc, cs, ss', ⟨al, ms.length, cl⟩⟩) 33) :: (b4, cellsO (msgC Msg.zero Sl.nil) 56) :: (b7, cellsO (msgC m0 sm0) 56) :: (em0 ++ (es5 ++ (ek ++ L1)))) ?_ ?_
  · by_cases h0 : 0 < ms.length
    · (repeat' (first | refine nI ?_ | (refine nA ?_; intro _) | (refine nW ?_; first | (refine op_call_id ?_; refine op_call rfl (c_pick br sb bs _ _ (by exact kF) (hb.mono (by exact kS)) (by omega)) rfl ?_; rintro _ _ ⟨x, rfl, hx, rfl⟩)) | refine nY ?_ | refine WA_alt ?_ ?_ | refine nR ?_ | refine WC_drawL (id := 5) (ops := o120x5L46) r120x5L46 (by kernel_rfl) rfl ?_ | refine WC_drawL (id := 10) (ops := o120x10L46) r120x10L46 (by kernel_rfl) rfl ?_ | refine WC_drawL (id := 13) (ops := o120x13L46) r120x13L46 (by kernel_rfl) rfl ?_ | refine WC_drawL (id := 17) (ops := o120x17L46) r120x17L46 (by kernel_rfl) rfl ?_ | refine WC_drawL (id := 19) (ops := o120x19L46) r120x19L46 (by kernel_rfl) rfl ?_))
      (refine ⟨rfl, ⟨(_, _), fun _ => h0, ?_⟩, by exact kQ, by exact kL⟩; dsimp only; omega)
    · (repeat' (first | refine nI ?_ | (refine nA ?_; intro _) | (refine nW ?_; first | (refine op_call_id ?_; refine op_call rfl (c_pick br sb bs _ _ (by exact kF) (hb.mono (by exact kS)) (by omega)) rfl ?_; rintro _ _ ⟨x, rfl, hx, rfl⟩)) | refine nY ?_ | refine WA_alt ?_ ?_ | refine nR ?_ | refine WC_drawL (id := 5) (ops := o120x5L46) r120x5L46 (by kernel_rfl) rfl ?_ | refine WC_drawL (id := 10) (ops := o120x10L46) r120x10L46 (by kernel_rfl) rfl ?_ | refine WC_drawL (id := 13) (ops := o120x13L46) r120x13L46 (by kernel_rfl) rfl ?_ | refine WC_drawL (id := 17) (ops := o120x17L46) r120x17L46 (by kernel_rfl) rfl ?_ | refine WC_drawL (id := 19) (ops := o120x19L46) r120x19L46 (by kernel_rfl) rfl ?_))
      (refine ⟨rfl, ⟨(false, _), fun h => (by cases h), ?_⟩, by exact kQ, by exact kL⟩; dsimp only; omega)
  rintro ⟨⟨tb, p2⟩, htb, hp2⟩
  dsimp only at htb hp2 ⊢
  (repeat' (first | refine nX ?_ | (refine nA ?_; intro _) | refine nY ?_ | refine WA_alt ?_ ?_ | refine nR ?_ | refine WC_drawL (id := 5) (ops := o120x5L46) r120x5L46 (by kernel_rfl) rfl ?_ | refine WC_drawL (id := 10) (ops := o120x10L46) r120x10L46 (by kernel_rfl) rfl ?_ | refine WC_drawL (id := 13) (ops := o120x13L46) r120x13L46 (by kernel_rfl) rfl ?_ | refine WC_drawL (id := 17) (ops := o120x17L46) r120x17L46 (by kernel_rfl) rfl ?_ | refine WC_drawL (id := 19) (ops := o120x19L46) r120x19L46 (by kernel_rfl) rfl ?_))
  refine WC_cut (X := { y : Msg × Sl × List Ent × Int // Row encSeal 51 y.2.1 y.1.seals y.2.2.1 ∧ y.1.seals.length ≤ 3 ∧ p ≤ y.2.2.2 ∧ y.2.2.2 ≤ p + 102 })
    (fun y => [(0, .pointer (some ⟨br, 0, none⟩)), (3, .pointer (some ⟨b3, 0, none⟩)), (4, .pointer (some ⟨b4, 0, none⟩)), (5, .slice as5 (worldSeals w).length cs5), (6, .slice ak (knowKeys (own w) (worldSeals w)).length ck), (7, .pointer (some ⟨b7, 0, none⟩))])
    (fun y => (br, rdO sb y.1.2.2.2) :: (b3, cellsO (worldC w ⟨kc, cs, ss', ⟨al, ms.length, cl⟩⟩) 33) :: (b4, cellsO (msgC Msg.zero Sl.nil) 56) :: (b7, cellsO (msgC y.1.1 y.1.2.1) 56) :: (y.1.2.2.1 ++ (es5 ++ (ek ++ L1)))) ?_ ?_
  · cases tb with
    | false =>
      (repeat' (first | refine nX ?_ | (refine nA ?_; intro _) | refine nY ?_ | refine WA_alt ?_ ?_ | refine nR ?_ | refine WC_drawL (id := 5) (ops := o120x5L46) r120x5L46 (by kernel_rfl) rfl ?_ | refine WC_drawL (id := 10) (ops := o120x10L46) r120x10L46 (by kernel_rfl) rfl ?_ | refine WC_drawL (id := 13) (ops := o120x13L46) r120x13L46 (by kernel_rfl) rfl ?_ | refine WC_drawL (id := 17) (ops := o120x17L46) r120x17L46 (by kernel_rfl) rfl ?_ | refine WC_drawL (id := 19) (ops := o120x19L46) r120x19L46 (by kernel_rfl) rfl ?_ | refine WC_cond rfl (fun hc => ?_) (fun hc => ?_)))
      exact ⟨rfl, ⟨(m0, sm0, em0, p2), hr0, hl0, by dsimp only; omega⟩, by exact kQ, by exact kL⟩
    | true =>
      have h0 := htb rfl
      obtain ⟨b', o', cc, T', fr, rfl, hmem, hrow⟩ := hrd0 h0
      (repeat' (first | refine nX ?_ | (refine nA ?_; intro _) | (refine nW ?_; first | (refine op_load_id ?_; refine op_val rfl (by exact val_loadN rfl rfl rfl (by exact kM) (rowC_at hrow (Msg.zero, Sl.nil) hx rfl h0)) ?_) | (refine op_call_id ?_; refine op_call rfl (c_pick br sb bs _ (ms.length : Int) (by exact kF) (hb.mono (by exact kS)) (by omega)) rfl ?_; rintro _ _ ⟨x, rfl, hx, rfl⟩) | (refine op_call_id ?_; refine op_call rfl (c_l21MsgCopy (ms.getD x.toNat (Msg.zero, Sl.nil)).1 (ms.getD x.toNat (Msg.zero, Sl.nil)).2 ((hat.ma _ (getD_in _ hx rfl h0)).mono (by exact kS)) (by have h8 := hw.ms _ (mem_fst hat.me (getD_in (Msg.zero, Sl.nil) hx rfl h0)); simp only [lim]; omega)) rfl ?_; rintro _ _ ⟨sm9, em9, rfl, hr9, rfl⟩)) | (refine WR_id ?_; refine WR_load rfl rfl rfl (by exact val_loadN rfl rfl rfl (by exact kM) (rowC_at hrow (Msg.zero, Sl.nil) hx rfl h0)) (by exact kS) ?_) | refine nY ?_ | refine WA_alt ?_ ?_ | refine nR ?_ | refine WC_draw (id := 5) (ops := o120x5L46) ([(b3, cellsO (worldC w ⟨kc, cs, ss', ⟨some ⟨b', o', none⟩, ms.length, cl⟩⟩) 33), (b', Obj.cells cc.toArray T' fr)]) r120x5L46 (by kernel_rfl) rfl ?_ | refine WC_drawL (id := 10) (ops := o120x10L46) r120x10L46 (by kernel_rfl) rfl ?_ | refine WC_drawL (id := 13) (ops := o120x13L46) r120x13L46 (by kernel_rfl) rfl ?_ | refine WC_drawL (id := 17) (ops := o120x17L46) r120x17L46 (by kernel_rfl) rfl ?_ | refine WC_drawL (id := 19) (ops := o120x19L46) r120x19L46 (by kernel_rfl) rfl ?_ | refine WC_cond rfl (fun hc => ?_) (fun hc => ?_)))
      (refine ⟨rfl, ⟨((ms.getD x.toNat (Msg.zero, Sl.nil)).1, sm9, em9, _), ?_⟩, by exact kQ, by exact kL⟩; have h8 := hw.ms _ (mem_fst hat.me (getD_in (Msg.zero, Sl.nil) hx rfl h0)); exact ⟨hr9, by dsimp only; omega, by dsimp only; omega⟩)
  rintro ⟨⟨m, ⟨a5, n5, c5⟩, em, p3⟩, hr5, hl5, hp3⟩
  dsimp only at hr5 hl5 hp3 ⊢
  have hn5 := hr5.n
  dsimp only at hn5
  subst hn5
  have hlr : (List.range m.seals.length).length = m.seals.length := List.length_range
  (repeat' (first | refine nX ?_ | (refine nA ?_; intro _) | refine nY ?_ | refine WA_alt ?_ ?_ | refine nR ?_ | refine WC_drawL (id := 5) (ops := o120x5L46) r120x5L46 (by kernel_rfl) rfl ?_ | refine WC_drawL (id := 10) (ops := o120x10L46) r120x10L46 (by kernel_rfl) rfl ?_ | refine WC_drawL (id := 13) (ops := o120x13L46) r120x13L46 (by kernel_rfl) rfl ?_ | refine WC_drawL (id := 17) (ops := o120x17L46) r120x17L46 (by kernel_rfl) rfl ?_ | refine WC_drawL (id := 19) (ops := o120x19L46) r120x19L46 (by kernel_rfl) rfl ?_))
  refine WC_loop (fun mz Ez Mz => ∃ (k : Nat) (xs : List Seal) (em' : List Ent) (p4 : Int), k + mz = (List.range m.seals.length).length ∧ Ez = [(0, .pointer (some ⟨br, 0, none⟩)), (3, .pointer (some ⟨b3, 0, none⟩)), (4, .pointer (some ⟨b4, 0, none⟩)), (5, .slice as5 (worldSeals w).length cs5), (6, .slice ak (knowKeys (own w) (worldSeals w)).length ck), (7, .pointer (some ⟨b7, 0, none⟩)), (8, I k)] ∧ Mz = (br, rdO sb p4) :: (b3, cellsO (worldC w ⟨kc, cs, ss', ⟨al, ms.length, cl⟩⟩) 33) :: (b4, cellsO (msgC Msg.zero Sl.nil) 56) :: (b7, cellsO (msgC m ⟨a5, m.seals.length, c5⟩) 56) :: (em' ++ (es5 ++ (ek ++ L1))) ∧ (Row encSeal 51 ⟨a5, m.seals.length, c5⟩ xs em' ∧ p ≤ p4 ∧ p4 ≤ p + 102 + 20 * k)) (List.range m.seals.length).length (by exact kQ) (by exact kL) ⟨0, m.seals, em, p3, by omega, rfl, rfl, by exact ⟨hr5, by omega⟩⟩ ?_
  rintro mz Ez Mz ⟨k, xs, em', p4, hk, rfl, rfl, hin⟩
  rcases Nat.lt_or_ge k (List.range m.seals.length).length with hlt | hge
  · obtain ⟨hrx, hp4⟩ := hin
    have hxl : m.seals.length = xs.length := hrx.n
    obtain ⟨y, hy⟩ : ∃ y, xs[k]? = some y := ⟨xs[k]'(by omega), List.getElem?_eq_getElem _⟩
    obtain ⟨g, gcap, c, hsl9, hgc, rfl, hback⟩ := hrx.open hy
    have e1 : a5 = some ⟨g, 0, none⟩ := congrArg Sl.a hsl9
    subst e1
    have hgc' : 0 + k * 7 + 7 ≤ c.length := hgc
    (repeat' (first | refine nI ?_ | (refine nA ?_; intro _) | refine nY ?_ | refine WA_alt ?_ ?_ | refine WC_regionN [9] rfl ?_ | refine WC_block ?_ | refine WC_drawL (id := 5) (ops := o120x5L46) r120x5L46 (by kernel_rfl) rfl ?_ | refine WC_drawL (id := 10) (ops := o120x10L46) r120x10L46 (by kernel_rfl) rfl ?_ | refine WC_drawL (id := 13) (ops := o120x13L46) r120x13L46 (by kernel_rfl) rfl ?_ | refine WC_drawL (id := 17) (ops := o120x17L46) r120x17L46 (by kernel_rfl) rfl ?_ | refine WC_drawL (id := 19) (ops := o120x19L46) r120x19L46 (by kernel_rfl) rfl ?_ | refine WC_cond rfl (fun hc => ?_) (fun hc => ?_)))
    refine WC_cut (X := { y : Bool × Int // (y.1 = true → 0 < (worldSeals w).length) ∧ p ≤ y.2 ∧ y.2 ≤ p + 102 + 20 * k + 1 })
      (fun y => [(0, .pointer (some ⟨br, 0, none⟩)), (3, .pointer (some ⟨b3, 0, none⟩)), (4, .pointer (some ⟨b4, 0, none⟩)), (5, .slice as5 (worldSeals w).length cs5), (6, .slice ak (knowKeys (own w) (worldSeals w)).length ck), (7, .pointer (some ⟨b7, 0, none⟩)), (8, I k), (51, B y.1.1)])
      (fun z => (br, rdO sb z.1.2) :: (b3, cellsO (worldC w ⟨kc, cs, ss', ⟨al, ms.length, cl⟩⟩) 33) :: (b4, cellsO (msgC Msg.zero Sl.nil) 56) :: (b7, cellsO (msgC m ⟨some ⟨g, 0, none⟩, m.seals.length, c5⟩) 56) :: (g, cellsO (putC c (0 + k * 7) (sealC y)) 51) :: (es5 ++ (ek ++ L1))) ?_ ?_
    · by_cases h0 : 0 < (worldSeals w).length
      · (repeat' (first | refine nI ?_ | (refine nA ?_; intro _) | (refine nW ?_; first | (refine op_call_id ?_; refine op_call rfl (c_pick br sb bs _ _ (by exact kF) (hb.mono (by exact kS)) (by omega)) rfl ?_; rintro _ _ ⟨x, rfl, hx, rfl⟩)) | refine nY ?_ | refine WA_alt ?_ ?_ | refine nR ?_ | refine WC_drawL (id := 5) (ops := o120x5L46) r120x5L46 (by kernel_rfl) rfl ?_ | refine WC_drawL (id := 10) (ops := o120x10L46) r120x10L46 (by kernel_rfl) rfl ?_ | refine WC_drawL (id := 13) (ops := o120x13L46) r120x13L46 (by kernel_rfl) rfl ?_ | refine WC_drawL (id := 17) (ops := o120x17L46) r120x17L46 (by kernel_rfl) rfl ?_ | refine WC_drawL (id := 19) (ops := o120x19L46) r120x19L46 (by kernel_rfl) rfl ?_))
        (refine ⟨rfl, ⟨(_, _), fun _ => h0, ?_⟩, by exact kQ, by exact kL⟩; dsimp only; omega)
      · (repeat' (first | refine nI ?_ | (refine nA ?_; intro _) | (refine nW ?_; first | (refine op_call_id ?_; refine op_call rfl (c_pick br sb bs _ _ (by exact kF) (hb.mono (by exact kS)) (by omega)) rfl ?_; rintro _ _ ⟨x, rfl, hx, rfl⟩)) | refine nY ?_ | refine WA_alt ?_ ?_ | refine nR ?_ | refine WC_drawL (id := 5) (ops := o120x5L46) r120x5L46 (by kernel_rfl) rfl ?_ | refine WC_drawL (id := 10) (ops := o120x10L46) r120x10L46 (by kernel_rfl) rfl ?_ | refine WC_drawL (id := 13) (ops := o120x13L46) r120x13L46 (by kernel_rfl) rfl ?_ | refine WC_drawL (id := 17) (ops := o120x17L46) r120x17L46 (by kernel_rfl) rfl ?_ | refine WC_drawL (id := 19) (ops := o120x19L46) r120x19L46 (by kernel_rfl) rfl ?_))
        (refine ⟨rfl, ⟨(false, _), fun h => (by cases h), ?_⟩, by exact kQ, by exact kL⟩; dsimp only; omega)
    rintro ⟨⟨tb1, p5⟩, htb1, hp5⟩
    dsimp only at htb1 hp5 ⊢
    (repeat' (first | refine nX ?_ | (refine nA ?_; intro _) | refine nY ?_ | refine WA_alt ?_ ?_ | refine nR ?_ | refine WC_drawL (id := 5) (ops := o120x5L46) r120x5L46 (by kernel_rfl) rfl ?_ | refine WC_drawL (id := 10) (ops := o120x10L46) r120x10L46 (by kernel_rfl) rfl ?_ | refine WC_drawL (id := 13) (ops := o120x13L46) r120x13L46 (by kernel_rfl) rfl ?_ | refine WC_drawL (id := 17) (ops := o120x17L46) r120x17L46 (by kernel_rfl) rfl ?_ | refine WC_drawL (id := 19) (ops := o120x19L46) r120x19L46 (by kernel_rfl) rfl ?_))
    refine WC_cut (X := { y : Seal × Int // p ≤ y.2 ∧ y.2 ≤ p + 102 + 20 * k + 2 })
      (fun y => [(0, .pointer (some ⟨br, 0, none⟩)), (3, .pointer (some ⟨b3, 0, none⟩)), (4, .pointer (some ⟨b4, 0, none⟩)), (5, .slice as5 (worldSeals w).length cs5), (6, .slice ak (knowKeys (own w) (worldSeals w)).length ck), (7, .pointer (some ⟨b7, 0, none⟩)), (8, I k)])
      (fun z => (br, rdO sb z.1.2) :: (b3, cellsO (worldC w ⟨kc, cs, ss', ⟨al, ms.length, cl⟩⟩) 33) :: (b4, cellsO (msgC Msg.zero Sl.nil) 56) :: (b7, cellsO (msgC m ⟨some ⟨g, 0, none⟩, m.seals.length, c5⟩) 56) :: (g, cellsO (putC c (0 + k * 7) (sealC z.1.1)) 51) :: (es5 ++ (ek ++ L1))) ?_ ?_
    · cases tb1 with
      | false =>
        (repeat' (first | refine nX ?_ | (refine nA ?_; intro _) | refine nY ?_ | refine WA_alt ?_ ?_ | refine nR ?_ | refine WC_drawL (id := 5) (ops := o120x5L46) r120x5L46 (by kernel_rfl) rfl ?_ | refine WC_drawL (id := 10) (ops := o120x10L46) r120x10L46 (by kernel_rfl) rfl ?_ | refine WC_drawL (id := 13) (ops := o120x13L46) r120x13L46 (by kernel_rfl) rfl ?_ | refine WC_drawL (id := 17) (ops := o120x17L46) r120x17L46 (by kernel_rfl) rfl ?_ | refine WC_drawL (id := 19) (ops := o120x19L46) r120x19L46 (by kernel_rfl) rfl ?_ | refine WC_cond rfl (fun hc => ?_) (fun hc => ?_)))
        exact ⟨rfl, ⟨(y, p5), by dsimp only; omega⟩, by exact kQ, by exact kL⟩
      | true =>
        have h0 := htb1 rfl
        obtain ⟨b', o', cc, T', fr, rfl, hmem, hrow⟩ := hrd5 h0
        (repeat' (first | refine nX ?_ | (refine nA ?_; intro _) | (refine nW ?_; first | (refine op_store_id ?_; (refine op_storePut (cs := sealC y) rfl rfl rfl rfl rfl rfl (by exact kF) hgc' ?_)) | (refine op_load_id ?_; refine op_val rfl (by exact val_loadN rfl rfl rfl (by exact kM) (rowC_at hrow Seal.zero hx rfl h0)) ?_) | (refine op_call_id ?_; refine op_call rfl (c_pick br sb bs _ ((worldSeals w).length : Int) (by exact kF) (hb.mono (by exact kS)) (by omega)) rfl ?_; rintro _ _ ⟨x, rfl, hx, rfl⟩)) | (refine WR_id ?_; refine WR_load rfl rfl rfl (by exact val_loadN rfl rfl rfl (by exact kM) (rowC_at hrow Seal.zero hx rfl h0)) (by exact kS) ?_) | refine nY ?_ | refine WA_alt ?_ ?_ | refine nR ?_ | refine WC_drawL (id := 5) (ops := o120x5L46) r120x5L46 (by kernel_rfl) rfl ?_ | refine WC_draw (id := 10) (ops := o120x10L46) ([(b7, cellsO (msgC m ⟨some ⟨g, 0, none⟩, m.seals.length, c5⟩) 56), (b', Obj.cells cc.toArray T' fr)]) r120x10L46 (by kernel_rfl) rfl ?_ | refine WC_drawL (id := 13) (ops := o120x13L46) r120x13L46 (by kernel_rfl) rfl ?_ | refine WC_drawL (id := 17) (ops := o120x17L46) r120x17L46 (by kernel_rfl) rfl ?_ | refine WC_drawL (id := 19) (ops := o120x19L46) r120x19L46 (by kernel_rfl) rfl ?_ | refine WC_cond rfl (fun hc => ?_) (fun hc => ?_)))
        (refine ⟨rfl, ⟨(_, _), ?_⟩, by exact kQ, by exact kL⟩; dsimp only; omega)
    rintro ⟨⟨⟨u1, u2, u3, u4, u5, u6, u7⟩, p6⟩, hp6⟩
    dsimp only at hp6 ⊢
    (repeat' (first | refine nX ?_ | (refine nA ?_; intro _) | refine nY ?_ | refine WA_alt ?_ ?_ | refine WC_regionN [11] rfl ?_ | refine WC_block ?_ | refine WC_drawL (id := 5) (ops := o120x5L46) r120x5L46 (by kernel_rfl) rfl ?_ | refine WC_drawL (id := 10) (ops := o120x10L46) r120x10L46 (by kernel_rfl) rfl ?_ | refine WC_drawL (id := 13) (ops := o120x13L46) r120x13L46 (by kernel_rfl) rfl ?_ | refine WC_drawL (id := 17) (ops := o120x17L46) r120x17L46 (by kernel_rfl) rfl ?_ | refine WC_drawL (id := 19) (ops := o120x19L46) r120x19L46 (by kernel_rfl) rfl ?_))
    refine WC_cut (X := { y : Bool × Int // (y.1 = true → 0 < (knowKeys (own w) (worldSeals w)).length) ∧ p ≤ y.2 ∧ y.2 ≤ p + 102 + 20 * k + 3 })
      (fun y => [(0, .pointer (some ⟨br, 0, none⟩)), (3, .pointer (some ⟨b3, 0, none⟩)), (4, .pointer (some ⟨b4, 0, none⟩)), (5, .slice as5 (worldSeals w).length cs5), (6, .slice ak (knowKeys (own w) (worldSeals w)).length ck), (7, .pointer (some ⟨b7, 0, none⟩)), (8, I k), (70, B y.1.1)])
      (fun z => (br, rdO sb z.1.2) :: (b3, cellsO (worldC w ⟨kc, cs, ss', ⟨al, ms.length, cl⟩⟩) 33) :: (b4, cellsO (msgC Msg.zero Sl.nil) 56) :: (b7, cellsO (msgC m ⟨some ⟨g, 0, none⟩, m.seals.length, c5⟩) 56) :: (g, cellsO (putC c (0 + k * 7) (sealC ⟨u1, u2, u3, u4, u5, u6, u7⟩)) 51) :: (es5 ++ (ek ++ L1))) ?_ ?_
    · by_cases h0 : 0 < (knowKeys (own w) (worldSeals w)).length
      · (repeat' (first | refine nI ?_ | (refine nA ?_; intro _) | (refine nW ?_; first | (refine op_call_id ?_; refine op_call rfl (c_pick br sb bs _ _ (by exact kF) (hb.mono (by exact kS)) (by omega)) rfl ?_; rintro _ _ ⟨x, rfl, hx, rfl⟩)) | refine nY ?_ | refine WA_alt ?_ ?_ | refine nR ?_ | refine WC_drawL (id := 5) (ops := o120x5L46) r120x5L46 (by kernel_rfl) rfl ?_ | refine WC_drawL (id := 10) (ops := o120x10L46) r120x10L46 (by kernel_rfl) rfl ?_ | refine WC_drawL (id := 13) (ops := o120x13L46) r120x13L46 (by kernel_rfl) rfl ?_ | refine WC_drawL (id := 17) (ops := o120x17L46) r120x17L46 (by kernel_rfl) rfl ?_ | refine WC_drawL (id := 19) (ops := o120x19L46) r120x19L46 (by kernel_rfl) rfl ?_))
        (refine ⟨rfl, ⟨(_, _), fun _ => h0, ?_⟩, by exact kQ, by exact kL⟩; dsimp only; omega)
      · (repeat' (first | refine nI ?_ | (refine nA ?_; intro _) | (refine nW ?_; first | (refine op_call_id ?_; refine op_call rfl (c_pick br sb bs _ _ (by exact kF) (hb.mono (by exact kS)) (by omega)) rfl ?_; rintro _ _ ⟨x, rfl, hx, rfl⟩)) | refine nY ?_ | refine WA_alt ?_ ?_ | refine nR ?_ | refine WC_drawL (id := 5) (ops := o120x5L46) r120x5L46 (by kernel_rfl) rfl ?_ | refine WC_drawL (id := 10) (ops := o120x10L46) r120x10L46 (by kernel_rfl) rfl ?_ | refine WC_drawL (id := 13) (ops := o120x13L46) r120x13L46 (by kernel_rfl) rfl ?_ | refine WC_drawL (id := 17) (ops := o120x17L46) r120x17L46 (by kernel_rfl) rfl ?_ | refine WC_drawL (id := 19) (ops := o120x19L46) r120x19L46 (by kernel_rfl) rfl ?_))
        (refine ⟨rfl, ⟨(false, _), fun h => (by cases h), ?_⟩, by exact kQ, by exact kL⟩; dsimp only; omega)
    rintro ⟨⟨tb2, p7⟩, htb2, hp7⟩
    dsimp only at htb2 hp7 ⊢
    (repeat' (first | refine nX ?_ | (refine nA ?_; intro _) | refine nY ?_ | refine WA_alt ?_ ?_ | refine nR ?_ | refine WC_drawL (id := 5) (ops := o120x5L46) r120x5L46 (by kernel_rfl) rfl ?_ | refine WC_drawL (id := 10) (ops := o120x10L46) r120x10L46 (by kernel_rfl) rfl ?_ | refine WC_drawL (id := 13) (ops := o120x13L46) r120x13L46 (by kernel_rfl) rfl ?_ | refine WC_drawL (id := 17) (ops := o120x17L46) r120x17L46 (by kernel_rfl) rfl ?_ | refine WC_drawL (id := 19) (ops := o120x19L46) r120x19L46 (by kernel_rfl) rfl ?_))
    refine WC_cutB (X := { y : Seal × Int // p ≤ y.2 ∧ y.2 ≤ p + 102 + 20 * k + 12 })
      (fun y => [(0, .pointer (some ⟨br, 0, none⟩)), (3, .pointer (some ⟨b3, 0, none⟩)), (4, .pointer (some ⟨b4, 0, none⟩)), (5, .slice as5 (worldSeals w).length cs5), (6, .slice ak (knowKeys (own w) (worldSeals w)).length ck), (7, .pointer (some ⟨b7, 0, none⟩)), (8, I k)])
      (fun z => (br, rdO sb z.1.2) :: (b3, cellsO (worldC w ⟨kc, cs, ss', ⟨al, ms.length, cl⟩⟩) 33) :: (b4, cellsO (msgC Msg.zero Sl.nil) 56) :: (b7, cellsO (msgC m ⟨some ⟨g, 0, none⟩, m.seals.length, c5⟩) 56) :: (g, cellsO (putC c (0 + k * 7) (sealC z.1.1)) 51) :: (es5 ++ (ek ++ L1))) ?_ ?_
    · cases tb2 with
      | false =>
        (repeat' (first | refine nX ?_ | (refine nA ?_; intro _) | refine nY ?_ | refine WA_alt ?_ ?_ | refine nR ?_ | refine WC_drawL (id := 5) (ops := o120x5L46) r120x5L46 (by kernel_rfl) rfl ?_ | refine WC_drawL (id := 10) (ops := o120x10L46) r120x10L46 (by kernel_rfl) rfl ?_ | refine WC_drawL (id := 13) (ops := o120x13L46) r120x13L46 (by kernel_rfl) rfl ?_ | refine WC_drawL (id := 17) (ops := o120x17L46) r120x17L46 (by kernel_rfl) rfl ?_ | refine WC_drawL (id := 19) (ops := o120x19L46) r120x19L46 (by kernel_rfl) rfl ?_ | refine WC_cond rfl (fun hc => ?_) (fun hc => ?_)))
        exact ⟨rfl, ⟨(⟨u1, u2, u3, u4, u5, u6, u7⟩, p7), by dsimp only; omega⟩, by exact kQ, by exact kL⟩
      | true =>
        have h0 := htb2 rfl
        obtain ⟨b', o', cc, T', fr, rfl, hmem, hrow⟩ := hrd6 h0
        (repeat' (first | refine nX ?_ | (refine nA ?_; intro _) | (refine nW ?_; first | (refine op_load_id ?_; refine op_val rfl (by exact val_load1R0 rfl rfl rfl (by exact kM) (rowC_at hrow 0 hx rfl h0) rfl) ?_) | (refine op_call_id ?_; refine op_call rfl (c_pick br sb bs _ _ (by exact kF) (hb.mono (by exact kS)) (by omega)) rfl ?_; rintro _ _ ⟨x, rfl, hx, rfl⟩)) | (refine WR_id ?_; refine WR_load rfl rfl rfl (by exact val_load1R0 rfl rfl rfl (by exact kM) (rowC_at hrow 0 hx rfl h0) rfl) (by exact kS) ?_) | refine nY ?_ | refine WA_alt ?_ ?_ | refine nR ?_ | refine WC_drawL (id := 5) (ops := o120x5L46) r120x5L46 (by kernel_rfl) rfl ?_ | refine WC_drawL (id := 10) (ops := o120x10L46) r120x10L46 (by kernel_rfl) rfl ?_ | refine WC_drawL (id := 17) (ops := o120x17L46) r120x17L46 (by kernel_rfl) rfl ?_ | refine WC_drawL (id := 19) (ops := o120x19L46) r120x19L46 (by kernel_rfl) rfl ?_ | refine WC_cond rfl (fun hc => ?_) (fun hc => ?_)))
        refine WC_cut (X := { y : Seal × Int × Int // p ≤ y.2.1 ∧ y.2.1 ≤ p + 102 + 20 * k + 8 })
          (fun z => [(0, .pointer (some ⟨br, 0, none⟩)), (3, .pointer (some ⟨b3, 0, none⟩)), (4, .pointer (some ⟨b4, 0, none⟩)), (5, .slice as5 (worldSeals w).length cs5), (6, .slice (some ⟨b', o', none⟩) (knowKeys (own w) (worldSeals w)).length ck), (7, .pointer (some ⟨b7, 0, none⟩)), (8, I k), (9, I z.1.2.2)])
          (fun z => (br, rdO sb z.1.2.1) :: (b3, cellsO (worldC w ⟨kc, cs, ss', ⟨al, ms.length, cl⟩⟩) 33) :: (b4, cellsO (msgC Msg.zero Sl.nil) 56) :: (b7, cellsO (msgC m ⟨some ⟨g, 0, none⟩, m.seals.length, c5⟩) 56) :: (g, cellsO (putC c (0 + k * 7) (sealC z.1.1)) 51) :: (es5 ++ (ek ++ L1))) ?_ ?_
        · (repeat' (first | refine nX ?_ | (refine nA ?_; intro _) | (refine nW ?_; first | (refine op_store_id ?_; (refine op_storePut (cs := sealC ⟨u1, u2, u3, u4, u5, u6, u7⟩) rfl rfl rfl rfl rfl rfl (by exact kF) hgc' ?_)) | (refine op_load_id ?_; refine op_val rfl (by exact val_load1 rfl rfl rfl (by exact kM) (litInt [3, 4, 2] (n := 3) (by assumption) rfl (by decide))) ?_) | (refine op_call_id ?_; refine op_call rfl (c_pick br sb bs _ _ (by exact kF) (hb.mono (by exact kS)) (by omega)) rfl ?_; rintro _ _ ⟨x, rfl, hx, rfl⟩)) | (refine WR_id ?_; refine WR_load rfl rfl rfl (by exact val_load1 rfl rfl rfl (by exact kM) (litInt [3, 4, 2] (n := 3) (by assumption) rfl (by decide))) (by exact kS) ?_) | refine nY ?_ | refine WA_alt ?_ ?_ | refine nR ?_ | refine WC_drawL (id := 5) (ops := o120x5L46) r120x5L46 (by kernel_rfl) rfl ?_ | refine WC_drawL (id := 10) (ops := o120x10L46) r120x10L46 (by kernel_rfl) rfl ?_ | refine WC_draw (id := 13) (ops := o120x13L46) ([(b7, cellsO (msgC m ⟨some ⟨g, 0, none⟩, m.seals.length, c5⟩) 56), (b3, cellsO (worldC w ⟨kc, cs, ss', ⟨al, ms.length, cl⟩⟩) 33)]) r120x13L46 (by kernel_rfl) rfl ?_ | refine WC_drawL (id := 17) (ops := o120x17L46) r120x17L46 (by kernel_rfl) rfl ?_ | refine WC_drawL (id := 19) (ops := o120x19L46) r120x19L46 (by kernel_rfl) rfl ?_))
          all_goals (refine ⟨rfl, ⟨(⟨_, _, _, _, _, _, _⟩, _, _), ?_⟩, by exact kQ, by exact kL⟩; dsimp only; omega)
        rintro ⟨⟨⟨v1, v2, v3, v4, v5, v6, v7⟩, p9, key⟩, hp9⟩
        dsimp only at hp9 ⊢
        (repeat' (first | refine nX ?_ | (refine nA ?_; intro _) | (refine nW ?_; first | (refine op_call_id ?_; refine op_call rfl (c_pick br sb bs _ _ (by exact kF) (hb.mono (by exact kS)) (by omega)) rfl ?_; rintro _ _ ⟨x, rfl, hx, rfl⟩)) | refine nY ?_ | refine WA_alt ?_ ?_ | refine nR ?_ | refine WC_drawL (id := 5) (ops := o120x5L46) r120x5L46 (by kernel_rfl) rfl ?_ | refine WC_drawL (id := 10) (ops := o120x10L46) r120x10L46 (by kernel_rfl) rfl ?_ | refine WC_drawL (id := 13) (ops := o120x13L46) r120x13L46 (by kernel_rfl) rfl ?_ | refine WC_draw (id := 17) (ops := o120x17L46) ([(b7, cellsO (msgC m ⟨some ⟨g, 0, none⟩, m.seals.length, c5⟩) 56)]) r120x17L46 (by kernel_rfl) rfl ?_ | refine WC_draw (id := 19) (ops := o120x19L46) ([(b7, cellsO (msgC m ⟨some ⟨g, 0, none⟩, m.seals.length, c5⟩) 56)]) r120x19L46 (by kernel_rfl) rfl ?_ | refine WC_cond rfl (fun hc => ?_) (fun hc => ?_)))
        all_goals (refine ⟨rfl, ?_⟩; (try simp only [Int.toNat_natCast]); refine ⟨⟨(⟨_, _, _, _, _, _, _⟩, _), ?_⟩, by exact kQ, by exact kL⟩; dsimp only; omega)
    rintro ⟨⟨y2, p8⟩, hp8⟩
    dsimp only at hp8 ⊢
    (repeat' (first | refine nX ?_ | (refine nA ?_; intro _) | refine nY ?_ | refine WA_alt ?_ ?_ | refine nR ?_ | refine WC_drawL (id := 5) (ops := o120x5L46) r120x5L46 (by kernel_rfl) rfl ?_ | refine WC_drawL (id := 10) (ops := o120x10L46) r120x10L46 (by kernel_rfl) rfl ?_ | refine WC_drawL (id := 13) (ops := o120x13L46) r120x13L46 (by kernel_rfl) rfl ?_ | refine WC_drawL (id := 17) (ops := o120x17L46) r120x17L46 (by kernel_rfl) rfl ?_ | refine WC_drawL (id := 19) (ops := o120x19L46) r120x19L46 (by kernel_rfl) rfl ?_))
    exact loopQ_next ⟨mz - 1, _, _, by omega, by exact kQ, by exact kL, k + 1, xs.set k y2, [(g, cellsO (putC c (0 + k * 7) (sealC y2)) 51)], p8, by omega, rfl, rfl, by exact ⟨hback y2, by omega⟩⟩
  obtain ⟨hrx, hp4⟩ := hin
  have hxl : m.seals.length = xs.length := hrx.n
  (repeat' (first | refine nI ?_ | (refine nA ?_; intro _) | (refine nW ?_; first | (refine op_call_id ?_; refine op_call rfl (c_pick br sb bs _ _ (by exact kF) (hb.mono (by exact kS)) (by omega)) rfl ?_; rintro _ _ ⟨x, rfl, hx, rfl⟩)) | refine nY ?_ | refine WA_alt ?_ ?_ | refine WC_region ?_ | refine WC_blockN [2] rfl ?_ | refine WC_drawL (id := 5) (ops := o120x5L46) r120x5L46 (by kernel_rfl) rfl ?_ | refine WC_drawL (id := 10) (ops := o120x10L46) r120x10L46 (by kernel_rfl) rfl ?_ | refine WC_drawL (id := 13) (ops := o120x13L46) r120x13L46 (by kernel_rfl) rfl ?_ | refine WC_drawL (id := 17) (ops := o120x17L46) r120x17L46 (by kernel_rfl) rfl ?_ | refine WC_drawL (id := 19) (ops := o120x19L46) r120x19L46 (by kernel_rfl) rfl ?_ | refine WC_cond rfl (fun hc => ?_) (fun hc => ?_)))
  refine WC_cut (X := { y : Int × Int × Int // p ≤ y.2.2 ∧ y.2.2 ≤ p + 200 })
    (fun z => [(4, .pointer (some ⟨b4, 0, none⟩)), (7, .pointer (some ⟨b7, 0, none⟩))])
    (fun z => (br, rdO sb z.1.2.2) :: (b4, cellsO (msgC Msg.zero Sl.nil) 56) :: (b7, cellsO [I m.kind, I z.1.1, I z.1.2.1, I m.nonce, .slice a5 m.seals.length c5] 56) :: (em' ++ L1)) ?_ ?_
  · (repeat' (first | refine nX ?_ | (refine nA ?_; intro _) | (refine nW ?_; first | (refine op_call_id ?_; refine op_call rfl (c_pick br sb bs _ _ (by exact kF) (hb.mono (by exact kS)) (by omega)) rfl ?_; rintro _ _ ⟨x, rfl, hx, rfl⟩)) | refine nY ?_ | refine WA_alt ?_ ?_ | refine nR ?_ | refine WC_drawL (id := 5) (ops := o120x5L46) r120x5L46 (by kernel_rfl) rfl ?_ | refine WC_drawL (id := 10) (ops := o120x10L46) r120x10L46 (by kernel_rfl) rfl ?_ | refine WC_drawL (id := 13) (ops := o120x13L46) r120x13L46 (by kernel_rfl) rfl ?_ | refine WC_drawL (id := 17) (ops := o120x17L46) r120x17L46 (by kernel_rfl) rfl ?_ | refine WC_drawL (id := 19) (ops := o120x19L46) r120x19L46 (by kernel_rfl) rfl ?_ | refine WC_cond rfl (fun hc => ?_) (fun hc => ?_)))
    all_goals (refine ⟨rfl, ⟨(_, _, _), ?_⟩, by exact kQ, by exact kL⟩; dsimp only; omega)
  rintro ⟨⟨z1, z2, p9⟩, hp9⟩
  dsimp only at hp9 ⊢
  (repeat' (first | refine nX ?_ | (refine nA ?_; intro _) | refine nY ?_ | refine WA_alt ?_ ?_ | refine nR ?_ | refine WC_drawL (id := 5) (ops := o120x5L46) r120x5L46 (by kernel_rfl) rfl ?_ | refine WC_drawL (id := 10) (ops := o120x10L46) r120x10L46 (by kernel_rfl) rfl ?_ | refine WC_drawL (id := 13) (ops := o120x13L46) r120x13L46 (by kernel_rfl) rfl ?_ | refine WC_drawL (id := 17) (ops := o120x17L46) r120x17L46 (by kernel_rfl) rfl ?_ | refine WC_drawL (id := 19) (ops := o120x19L46) r120x19L46 (by kernel_rfl) rfl ?_))
  refine ret_ret (by exact kR) ?_; exact ⟨em' ++ ((br, rdO sb p9) :: L1), by exact kP, ⟨m.kind, z1, z2, m.nonce, xs⟩, ⟨a5, m.seals.length, c5⟩, em', p9, rfl, hrx, by dsimp only; omega, by omega, rfl⟩
end
end Go.Proofs.YtkdlkclanlkebaaGreat
/- Draws: words by the bad user. -/
set_option linter.unusedVariables false
set_option linter.unusedSectionVars false
set_option linter.unusedSimpArgs false
namespace Go.Proofs.YtkdlkclanlkebaaGreat
open Go Go.Proofs Go.Proofs.YtkdlkclanlkebaaGreat.VE
attribute [local irreducible] Val Op1 WO WR WA WC seqQ blockQ loopQ retQ
noncomputable def o121x11L47 : Array Oper := cops (cl (cl (cl (cr (cl (cl (cr (cr (cr (cr (cl (cl (cr (cl (cl (cr (cl (cr (cr (codeOf Tryz.f121))))))))))))))))))))
noncomputable def o121x15L47 : Array Oper := cops (cl (cr (cr (cl (cr (cl (cl (cr (cl (cl (cr (cr (cr (cr (cl (cl (cr (cl (cl (cr (cl (cr (cr (codeOf Tryz.f121))))))))))))))))))))))))
noncomputable def o121x17L47 : Array Oper := cops (cl (cl (cr (cl (cr (cr (cr (cl (cr (cl (cl (cr (cl (cl (cr (cr (cr (cr (cl (cl (cr (cl (cl (cr (cl (cr (cr (codeOf Tryz.f121))))))))))))))))))))))))))))
noncomputable def o121x18L47 : Array Oper := cops (cl (cr (cr (cr (cr (cl (cr (cl (cl (cr (cl (cl (cr (cr (cr (cr (cl (cl (cr (cl (cl (cr (cl (cr (cr (codeOf Tryz.f121))))))))))))))))))))))))))
noncomputable def o121x1L47 : Array Oper := cops (cl (cr (codeOf Tryz.f121)))
noncomputable def o121x21L47 : Array Oper := cops (cl (cr (cr (cr (cr (codeOf Tryz.f121))))))
noncomputable def r121x11L47 : Run := (.st 0 0 (.st 1 0 (.st 2 0 (.st 3 0 (.st 4 1 (.st 5 0 (.st 6 0 (.st 7 0 (.st 8 0 (.st 9 0 (.st 10 0 (.st 11 1 (.st 12 0 (.st 13 1 (.st 14 0 (.st 15 0 .done))))))))))))))))
noncomputable def r121x15L47 : Run := (.st 0 0 (.st 1 0 (.st 2 1 (.st 3 0 (.st 4 1 (.st 5 0 (.st 9 0 (.alt (.st 6 2 (.st 7 0 (.st 8 0 (.alt (.st 10 2 (.st 11 0 (.alt (.st 12 3 (.st 13 3 (.st 14 3 .done))) (.st 13 2 (.st 12 3 (.st 14 3 .done)))))) (.st 13 2 (.st 10 2 (.st 11 0 (.st 12 3 (.st 14 3 .done))))))))) (.st 13 2 (.st 6 2 (.st 7 0 (.st 8 0 (.st 10 2 (.st 11 0 (.st 12 3 (.st 14 3 .done))))))))))))))))
noncomputable def r121x17L47 : Run := (.st 0 0 (.st 3 0 (.st 6 0 (.st 7 0 (.st 8 0 (.st 9 1 (.st 10 1 (.alt (.st 1 2 (.st 2 0 (.alt (.st 4 2 (.st 5 0 (.st 11 3 (.st 12 0 (.st 13 3 .done))))) (.st 11 3 (.st 4 3 (.st 5 0 (.st 12 0 (.st 13 3 .done)))))))) (.st 11 3 (.st 1 3 (.st 2 0 (.st 4 3 (.st 5 0 (.st 12 0 (.st 13 3 .done)))))))))))))))
noncomputable def r121x18L47 : Run := (.st 0 0 (.st 1 1 (.st 2 0 (.st 3 0 (.st 4 0 (.st 5 1 (.st 6 1 (.st 7 2 (.st 8 0 (.st 9 3 .done))))))))))
noncomputable def r121x1L47 : Run := (.st 0 1 (.st 2 1 (.st 1 2 (.st 3 3 (.st 4 3 (.st 5 0 .done))))))
noncomputable def r121x21L47 : Run := (.st 0 0 (.st 1 1 (.st 2 0 (.alt (.st 3 2 (.st 4 0 (.st 5 2 (.st 6 0 (.st 7 3 .done))))) (.st 5 2 (.st 3 2 (.st 4 0 (.st 6 0 (.st 7 3 .done)))))))))
set_option maxHeartbeats 8000000
theorem knowRead_len (keys : List Int) (seals : List Seal) : (knowRead keys seals).length ≤ seals.length := List.length_filter_le _ _
theorem c_l72ForgeP {L L1 : List Ent} (br : Nat) (sb : Sl) (bs : List Int) (p : Int) (w : World) (q : WSl) (ps : List (Client × CSl)) (ss : List (Serv × (Sl × Sl))) (ms : List (Msg × Sl)) (hL : L.Perm ((br, rdO sb p) :: L1)) (hb : Code8 L1 sb bs) (hw : DOk w) (hat : WldAt L1 w q ps ss ms) (hp : 0 ≤ p ∧ p ≤ 700000) : Tri Tryz.prog 120 [.pointer (some ⟨br, 0, none⟩), worldV w q] L (fun v L' => ∃ (m : Msg) (sm : Sl) (em : List Ent) (p' : Int), v = msgV m sm ∧ Row encSeal 51 sm m.seals em ∧ m.seals.length ≤ 3 ∧ (p ≤ p' ∧ p' ≤ p + 300) ∧ L' = em ++ ((br, rdO sb p') :: L1)) := c_l72Forge br sb bs hb w q ps ss ms hw hat p hL hp
section
variable {L1 : List Ent} (br : Nat) (sb : Sl) (bs : List Int) (hb : Code8 L1 sb bs) (w : World) (q : WSl) (ps : List (Client × CSl)) (ss : List (Serv × (Sl × Sl))) (ms : List (Msg × Sl)) (hw : DOk w) (hat : WldAt L1 w q ps ss ms)
include hb hw hat
theorem c_l72Bad {L : List Ent} (p : Int) (hL : L.Perm ((br, rdO sb p) :: L1)) (hp : 0 ≤ p ∧ p ≤ 600000) : Tri Tryz.prog 121 [.pointer (some ⟨br, 0, none⟩), worldV w q] L (fun v L' => ∃ (m : Msg) (sm : Sl) (em : List Ent) (p' : Int), v = msgV m sm ∧ Row encSeal 51 sm m.seals em ∧ m.seals.length ≤ 3 ∧ (p ≤ p' ∧ p' ≤ p + 2000) ∧ L' = em ++ ((br, rdO sb p') :: L1)) := by
  refine Tri.perm ?_ hL
  have hsl : (w.log.flatMap Msg.seals).length ≤ 1000 := by
    have h1 := seals_len3 w.log hw.ms
    have h2 := hw.ll
    omega
  have hslen : (worldSeals w).length ≤ 1000 := by
    have := addNew_len (w.log.flatMap Msg.seals) []
    unfold worldSeals; simp only [List.length_nil, Nat.zero_add] at this; omega
  have hnow := hw.now
  have hrl := knowRead_len (own w) (worldSeals w)
  refine Tri.of Tryz.func121 rfl rfl Tryz.ntmps121 rfl rfl ?_
  (repeat' (first | refine nX ?_ | (refine nA ?_; intro _) | refine nY ?_ | refine WA_alt ?_ ?_ | refine nR ?_ | refine WC_drawL (id := 11) (ops := o121x11L47) r121x11L47 (by kernel_rfl) rfl ?_ | refine WC_drawL (id := 15) (ops := o121x15L47) r121x15L47 (by kernel_rfl) rfl ?_ | refine WC_drawL (id := 17) (ops := o121x17L47) r121x17L47 (by kernel_rfl) rfl ?_ | refine WC_drawL (id := 18) (ops := o121x18L47) r121x18L47 (by kernel_rfl) rfl ?_ | refine WC_drawL (id := 21) (ops := o121x21L47) r121x21L47 (by kernel_rfl) rfl ?_))
  rename_i b3 b4
  (repeat' (first | refine nX ?_ | (refine nA ?_; intro _) | (refine nW ?_; first | (refine op_call_id ?_; refine op_call rfl (c_l21Seals w _ ms (hat.mr.mono (by exact kS)) hat.me (fun p hp => (hat.ma p hp).mono (by exact kS)) hsl) rfl ?_; rintro _ _ ⟨⟨as5, ns5, cs5⟩, es5, rfl, hrs, rfl⟩) | (refine op_call_id ?_; refine op_call rfl (c_l21Bad w _) rfl ?_; rintro _ _ ⟨⟨ao, no, co⟩, eo, rfl, hro, rfl⟩) | (refine op_call_id ?_; refine op_call rfl (c_sKnowRead ⟨ao, no, co⟩ ⟨as5, ns5, cs5⟩ (own w) (worldSeals w) (hro.atL (by exact kS)) (hrs.atL (by exact kS)) hslen) rfl ?_; rintro _ _ ⟨⟨ak, nk, ck⟩, er, rfl, hrk, rfl⟩)) | refine nY ?_ | refine WA_alt ?_ ?_ | refine WC_regionN [2] rfl ?_ | refine WC_block ?_ | refine WC_draw (id := 1) (ops := o121x1L47) ([(b3, cellsO (worldC w q) 33)]) r121x1L47 (by kernel_rfl) rfl ?_ | refine WC_drawL (id := 11) (ops := o121x11L47) r121x11L47 (by kernel_rfl) rfl ?_ | refine WC_drawL (id := 15) (ops := o121x15L47) r121x15L47 (by kernel_rfl) rfl ?_ | refine WC_drawL (id := 17) (ops := o121x17L47) r121x17L47 (by kernel_rfl) rfl ?_ | refine WC_drawL (id := 18) (ops := o121x18L47) r121x18L47 (by kernel_rfl) rfl ?_ | refine WC_drawL (id := 21) (ops := o121x21L47) r121x21L47 (by kernel_rfl) rfl ?_))
  have hnk := hrk.n
  dsimp only at hnk
  subst hnk
  obtain ⟨_, hck5, hbk5, hrd6⟩ := hrk.at
  dsimp only at hck5 hrd6
  (repeat' (first | refine nX ?_ | (refine nA ?_; intro _) | refine nY ?_ | refine WA_alt ?_ ?_ | refine nR ?_ | refine WC_drawL (id := 1) (ops := o121x1L47) r121x1L47 (by kernel_rfl) rfl ?_ | refine WC_drawL (id := 11) (ops := o121x11L47) r121x11L47 (by kernel_rfl) rfl ?_ | refine WC_drawL (id := 15) (ops := o121x15L47) r121x15L47 (by kernel_rfl) rfl ?_ | refine WC_drawL (id := 17) (ops := o121x17L47) r121x17L47 (by kernel_rfl) rfl ?_ | refine WC_drawL (id := 18) (ops := o121x18L47) r121x18L47 (by kernel_rfl) rfl ?_ | refine WC_drawL (id := 21) (ops := o121x21L47) r121x21L47 (by kernel_rfl) rfl ?_))
  refine WC_loop (fun mz Ez Mz => ∃ (k : Nat) (p2 xd : Int), k + mz = (knowRead (own w) (worldSeals w)).length ∧ Ez = [(0, .pointer (some ⟨br, 0, none⟩)), (3, .pointer (some ⟨b3, 0, none⟩)), (4, .pointer (some ⟨b4, 0, none⟩)), (5, .slice ak (knowRead (own w) (worldSeals w)).length ck), (6, I xd)] ∧ Mz = (br, rdO sb p2) :: (b3, cellsO (worldC w q) 33) :: (b4, cellsO (msgC Msg.zero Sl.nil) 56) :: (er ++ L1) ∧ (xd + k + 1 = ((knowRead (own w) (worldSeals w)).length : Int) ∧ p ≤ p2 ∧ p2 ≤ p + k)) (knowRead (own w) (worldSeals w)).length (by exact kQ) (by exact kL) ⟨0, p, ((knowRead (own w) (worldSeals w)).length : Int) - 1, by omega, rfl, rfl, by omega⟩ ?_
  rintro mz Ez Mz ⟨k, p2, xd, hk, rfl, rfl, hin⟩
  rcases Nat.lt_or_ge k (knowRead (own w) (worldSeals w)).length with hlt | hge
  · obtain ⟨ko, rfl⟩ : ∃ ko, ko = k := ⟨k, rfl⟩
    obtain ⟨mo, rfl⟩ : ∃ mo, mo = mz := ⟨mz, rfl⟩
    obtain ⟨b', o', cc, T', fr, rfl, hmem, hrow⟩ := hrd6 (by omega)
    obtain ⟨y, hyrow⟩ : ∃ y, takeC cc (o' + xd.toNat * encSeal.sz) encSeal.sz = some (encSeal.cells y) := ⟨_, rowC_at hrow Seal.zero (x := xd) (n := ((knowRead (own w) (worldSeals w)).length : Int)) ⟨by omega, .inl (by omega)⟩ rfl (by omega)⟩
    by_cases hk2 : y.kind = 2
    rotate_left
    · (repeat' (first | refine nI ?_ | (refine nA ?_; intro _) | refine nY ?_ | refine WA_alt ?_ ?_ | refine nR ?_ | refine WC_drawL (id := 1) (ops := o121x1L47) r121x1L47 (by kernel_rfl) rfl ?_ | refine WC_drawL (id := 11) (ops := o121x11L47) r121x11L47 (by kernel_rfl) rfl ?_ | refine WC_drawL (id := 15) (ops := o121x15L47) r121x15L47 (by kernel_rfl) rfl ?_ | refine WC_drawL (id := 17) (ops := o121x17L47) r121x17L47 (by kernel_rfl) rfl ?_ | refine WC_drawL (id := 18) (ops := o121x18L47) r121x18L47 (by kernel_rfl) rfl ?_ | refine WC_drawL (id := 21) (ops := o121x21L47) r121x21L47 (by kernel_rfl) rfl ?_ | refine WC_cond rfl (fun hc => ?_) (fun hc => ?_)))
      exact loopQ_next ⟨mo - 1, _, _, by omega, by exact kQ, by exact kL, ko + 1, p2, xd - 1, by omega, rfl, rfl, by omega⟩
    · (repeat' (first | refine nI ?_ | (refine nA ?_; intro _) | (refine nW ?_; first | (refine op_call_id ?_; refine op_call rfl (c_pick br sb bs _ _ (by exact kF) (hb.mono (by exact kS)) (by omega)) rfl ?_; rintro _ _ ⟨x, rfl, hx, rfl⟩) | (refine op_call_id ?_; refine op_call rfl (c_l21Seals w _ ms (hat.mr.mono (by exact kS)) hat.me (fun p hp => (hat.ma p hp).mono (by exact kS)) hsl) rfl ?_; rintro _ _ ⟨⟨aa, na, ca⟩, ea, rfl, hra, rfl⟩)) | refine nY ?_ | refine WA_alt ?_ ?_ | refine nR ?_ | refine WC_drawL (id := 1) (ops := o121x1L47) r121x1L47 (by kernel_rfl) rfl ?_ | refine WC_drawL (id := 11) (ops := o121x11L47) r121x11L47 (by kernel_rfl) rfl ?_ | refine WC_drawL (id := 15) (ops := o121x15L47) r121x15L47 (by kernel_rfl) rfl ?_ | refine WC_drawL (id := 17) (ops := o121x17L47) r121x17L47 (by kernel_rfl) rfl ?_ | refine WC_drawL (id := 18) (ops := o121x18L47) r121x18L47 (by kernel_rfl) rfl ?_ | refine WC_drawL (id := 21) (ops := o121x21L47) r121x21L47 (by kernel_rfl) rfl ?_ | refine WC_cond rfl (fun hc => ?_) (fun hc => ?_)))
      · exact loopQ_next ⟨mo - 1, _, _, by omega, by exact kQ, by exact kL, ko + 1, p2 + 1, xd - 1, by omega, rfl, rfl, by omega⟩
      · rename_i b7
        have hna := hra.n
        dsimp only at hna
        subst hna
        obtain ⟨_, hca, hba, hrda⟩ := hra.at
        dsimp only at hca hrda
        refine WC_loop (fun mz Ez Mz => ∃ k : Nat, k + mz = (worldSeals w).length ∧ Ez = [(0, .pointer (some ⟨br, 0, none⟩)), (3, .pointer (some ⟨b3, 0, none⟩)), (4, .pointer (some ⟨b4, 0, none⟩)), (5, .slice (some ⟨b', o', none⟩) (knowRead (own w) (worldSeals w)).length ck), (6, I xd), (7, .pointer (some ⟨b7, 0, none⟩)), (8, .slice aa (worldSeals w).length ca), (9, I k)] ∧ Mz = (br, rdO sb (p2 + 1)) :: (b3, cellsO (worldC w q) 33) :: (b4, cellsO (msgC Msg.zero Sl.nil) 56) :: (b7, cellsO (sealC y) 51) :: (ea ++ (er ++ L1)) ∧ (True)) (worldSeals w).length (by exact kQ) (by exact kL) ⟨0, by omega, rfl, rfl, by trivial⟩ ?_
        rintro mz Ez Mz ⟨k, hk, rfl, rfl, hin⟩
        rcases Nat.lt_or_ge k (worldSeals w).length with hlt | hge
        · obtain ⟨y5, hy5⟩ : ∃ y, (worldSeals w)[k]? = some y := ⟨(worldSeals w)[k]'(by omega), by simp [hlt]⟩; obtain ⟨b'5, o5, cs5, T5, fr5, rfl, hm5, hrow5⟩ := hrda (by omega); have hrow'5 := hrow5 k y5 hy5; have htk5 := take_next hy5
          by_cases z1 : y5.kind = 1
          rotate_left
          · (repeat' (first | refine nI ?_ | (refine nA ?_; intro _) | refine nY ?_ | refine WA_alt ?_ ?_ | refine nR ?_ | refine WC_drawL (id := 1) (ops := o121x1L47) r121x1L47 (by kernel_rfl) rfl ?_ | refine WC_draw (id := 11) (ops := o121x11L47) ([(b'5, Obj.cells cs5.toArray T5 fr5), (b7, cellsO (sealC y) 51)]) r121x11L47 (by kernel_rfl) rfl ?_ | refine WC_drawL (id := 15) (ops := o121x15L47) r121x15L47 (by kernel_rfl) rfl ?_ | refine WC_drawL (id := 17) (ops := o121x17L47) r121x17L47 (by kernel_rfl) rfl ?_ | refine WC_drawL (id := 18) (ops := o121x18L47) r121x18L47 (by kernel_rfl) rfl ?_ | refine WC_drawL (id := 21) (ops := o121x21L47) r121x21L47 (by kernel_rfl) rfl ?_ | refine WC_cond rfl (fun hc => ?_) (fun hc => ?_)))
            exact loopQ_next ⟨mz - 1, _, _, by omega, by exact kQ, by exact kL, k + 1, by omega, rfl, rfl, by trivial⟩
          by_cases z2 : y5.c = y.b
          rotate_left
          · (repeat' (first | refine nI ?_ | (refine nA ?_; intro _) | refine nY ?_ | refine WA_alt ?_ ?_ | refine nR ?_ | refine WC_drawL (id := 1) (ops := o121x1L47) r121x1L47 (by kernel_rfl) rfl ?_ | refine WC_draw (id := 11) (ops := o121x11L47) ([(b'5, Obj.cells cs5.toArray T5 fr5), (b7, cellsO (sealC y) 51)]) r121x11L47 (by kernel_rfl) rfl ?_ | refine WC_drawL (id := 15) (ops := o121x15L47) r121x15L47 (by kernel_rfl) rfl ?_ | refine WC_drawL (id := 17) (ops := o121x17L47) r121x17L47 (by kernel_rfl) rfl ?_ | refine WC_drawL (id := 18) (ops := o121x18L47) r121x18L47 (by kernel_rfl) rfl ?_ | refine WC_drawL (id := 21) (ops := o121x21L47) r121x21L47 (by kernel_rfl) rfl ?_ | refine WC_cond rfl (fun hc => ?_) (fun hc => ?_)))
            exact loopQ_next ⟨mz - 1, _, _, by omega, by exact kQ, by exact kL, k + 1, by omega, rfl, rfl, by trivial⟩
          (repeat' (first | refine nI ?_ | (refine nA ?_; intro _) | (refine nW ?_; first | (refine op_call_id ?_; refine op_call rfl (c_pick br sb bs _ _ (by exact kF) (hb.mono (by exact kS)) (by omega)) rfl ?_; rintro _ _ ⟨x, rfl, hx, rfl⟩)) | refine nY ?_ | refine WA_alt ?_ ?_ | refine nR ?_ | refine WC_drawL (id := 1) (ops := o121x1L47) r121x1L47 (by kernel_rfl) rfl ?_ | refine WC_draw (id := 11) (ops := o121x11L47) ([(b'5, Obj.cells cs5.toArray T5 fr5), (b7, cellsO (sealC y) 51)]) r121x11L47 (by kernel_rfl) rfl ?_ | refine WC_drawL (id := 15) (ops := o121x15L47) r121x15L47 (by kernel_rfl) rfl ?_ | refine WC_drawL (id := 17) (ops := o121x17L47) r121x17L47 (by kernel_rfl) rfl ?_ | refine WC_drawL (id := 18) (ops := o121x18L47) r121x18L47 (by kernel_rfl) rfl ?_ | refine WC_drawL (id := 21) (ops := o121x21L47) r121x21L47 (by kernel_rfl) rfl ?_))
          refine WC_cut (X := { z : Int × Int // p ≤ z.2 ∧ z.2 ≤ p + ko + 3 })
            (fun z => [(0, .pointer (some ⟨br, 0, none⟩)), (3, .pointer (some ⟨b3, 0, none⟩)), (4, .pointer (some ⟨b4, 0, none⟩)), (7, .pointer (some ⟨b7, 0, none⟩)), (8, .slice (some ⟨b'5, o5, none⟩) (worldSeals w).length ca), (9, I k), (10, I z.1.1)])
            (fun z => (br, rdO sb z.1.2) :: (b3, cellsO (worldC w q) 33) :: (b4, cellsO (msgC Msg.zero Sl.nil) 56) :: (b7, cellsO (sealC y) 51) :: (ea ++ (er ++ L1))) ?_ ?_
          · (repeat' (first | refine nX ?_ | (refine nA ?_; intro _) | (refine nW ?_; first | (refine op_call_id ?_; refine op_call rfl (c_pick br sb bs _ _ (by exact kF) (hb.mono (by exact kS)) (by omega)) rfl ?_; rintro _ _ ⟨x, rfl, hx, rfl⟩)) | refine nY ?_ | refine WA_alt ?_ ?_ | refine nR ?_ | refine WC_drawL (id := 1) (ops := o121x1L47) r121x1L47 (by kernel_rfl) rfl ?_ | refine WC_drawL (id := 11) (ops := o121x11L47) r121x11L47 (by kernel_rfl) rfl ?_ | refine WC_drawL (id := 15) (ops := o121x15L47) r121x15L47 (by kernel_rfl) rfl ?_ | refine WC_drawL (id := 17) (ops := o121x17L47) r121x17L47 (by kernel_rfl) rfl ?_ | refine WC_drawL (id := 18) (ops := o121x18L47) r121x18L47 (by kernel_rfl) rfl ?_ | refine WC_drawL (id := 21) (ops := o121x21L47) r121x21L47 (by kernel_rfl) rfl ?_ | refine WC_cond rfl (fun hc => ?_) (fun hc => ?_)))
            all_goals (refine ⟨rfl, ⟨(_, _), ?_⟩, by exact kQ, by exact kL⟩; dsimp only; omega)
          rintro ⟨⟨who, p5⟩, hp5⟩
          dsimp only at hp5 ⊢
          (repeat' (first | refine nX ?_ | (refine nA ?_; intro _) | refine nY ?_ | refine WA_alt ?_ ?_ | refine nR ?_ | refine WC_drawL (id := 1) (ops := o121x1L47) r121x1L47 (by kernel_rfl) rfl ?_ | refine WC_drawL (id := 11) (ops := o121x11L47) r121x11L47 (by kernel_rfl) rfl ?_ | refine WC_drawL (id := 17) (ops := o121x17L47) r121x17L47 (by kernel_rfl) rfl ?_ | refine WC_drawL (id := 18) (ops := o121x18L47) r121x18L47 (by kernel_rfl) rfl ?_ | refine WC_drawL (id := 21) (ops := o121x21L47) r121x21L47 (by kernel_rfl) rfl ?_))
          refine WC_cut (X := { z : Nat × Seal × Int // p ≤ z.2.2 ∧ z.2.2 ≤ p + ko + 5 })
            (fun z => [(0, .pointer (some ⟨br, 0, none⟩)), (4, .pointer (some ⟨b4, 0, none⟩)), (7, .pointer (some ⟨b7, 0, none⟩)), (8, .slice (some ⟨b'5, o5, none⟩) (worldSeals w).length ca), (9, I k), (11, .pointer (some ⟨z.1.1, 0, none⟩))])
            (fun z => (br, rdO sb z.1.2.2) :: (z.1.1, cellsO (sealC z.1.2.1) 51) :: (b4, cellsO (msgC Msg.zero Sl.nil) 56) :: (b7, cellsO (sealC y) 51) :: (ea ++ (er ++ L1))) ?_ ?_
          · (repeat' (first | refine nX ?_ | (refine nA ?_; intro _) | (refine nW ?_; first | (refine op_call_id ?_; refine op_ro rfl rfl (by exact c_l12Auth _ _ _ _) ?_) | (refine op_call_id ?_; refine op_call rfl (c_pick br sb bs _ _ (by exact kF) (hb.mono (by exact kS)) (by omega)) rfl ?_; rintro _ _ ⟨x, rfl, hx, rfl⟩)) | refine nY ?_ | refine WA_alt ?_ ?_ | refine nR ?_ | refine WC_drawL (id := 1) (ops := o121x1L47) r121x1L47 (by kernel_rfl) rfl ?_ | refine WC_drawL (id := 11) (ops := o121x11L47) r121x11L47 (by kernel_rfl) rfl ?_ | refine WC_draw (id := 15) (ops := o121x15L47) ([(b7, cellsO (sealC y) 51), (b3, cellsO (worldC w q) 33)]) r121x15L47 (by kernel_rfl) rfl ?_ | refine WC_drawL (id := 17) (ops := o121x17L47) r121x17L47 (by kernel_rfl) rfl ?_ | refine WC_drawL (id := 18) (ops := o121x18L47) r121x18L47 (by kernel_rfl) rfl ?_ | refine WC_drawL (id := 21) (ops := o121x21L47) r121x21L47 (by kernel_rfl) rfl ?_))
            all_goals (refine ⟨rfl, ⟨(_, ⟨_, _, _, _, _, _, _⟩, _), ?_⟩, by exact kQ, by exact kL⟩; dsimp only; omega)
          rintro ⟨⟨b11, au, p6⟩, hp6⟩
          dsimp only at hp6 ⊢
          (repeat' (first | refine nX ?_ | (refine nA ?_; intro _) | (refine nW ?_; first | (refine op_call_id ?_; refine op_call rfl (c_pick br sb bs _ _ (by exact kF) (hb.mono (by exact kS)) (by omega)) rfl ?_; rintro _ _ ⟨x, rfl, hx, rfl⟩)) | refine nY ?_ | refine WA_alt ?_ ?_ | refine nR ?_ | refine WC_drawL (id := 1) (ops := o121x1L47) r121x1L47 (by kernel_rfl) rfl ?_ | refine WC_drawL (id := 11) (ops := o121x11L47) r121x11L47 (by kernel_rfl) rfl ?_ | refine WC_drawL (id := 15) (ops := o121x15L47) r121x15L47 (by kernel_rfl) rfl ?_ | refine WC_draw (id := 17) (ops := o121x17L47) ([(b'5, Obj.cells cs5.toArray T5 fr5), (b11, cellsO (sealC au) 51)]) r121x17L47 (by kernel_rfl) rfl ?_ | refine WC_draw (id := 18) (ops := o121x18L47) ([(b7, cellsO (sealC y) 51), (b'5, Obj.cells cs5.toArray T5 fr5), (b11, cellsO (sealC au) 51)]) r121x18L47 (by kernel_rfl) rfl ?_ | refine WC_drawL (id := 21) (ops := o121x21L47) r121x21L47 (by kernel_rfl) rfl ?_ | refine WC_cond rfl (fun hc => ?_) (fun hc => ?_)))
          all_goals (refine ret_ret (by exact kR) ?_; exact ⟨[(_, cellsO (sealC y5 ++ sealC au) 51)] ++ ((br, rdO sb _) :: L1), by exact kP, ⟨_, _, _, _, [y5, au]⟩, ⟨some ⟨_, 0, none⟩, 2, 2⟩, [(_, cellsO (sealC y5 ++ sealC au) 51)], _, rfl, Row.lit (xs := [y5, au]) rfl (by simp [lim]), by simp, by omega, rfl⟩)
        · (repeat' (first | refine nI ?_ | (refine nA ?_; intro _) | refine nY ?_ | refine WA_alt ?_ ?_ | refine nR ?_ | refine WC_drawL (id := 1) (ops := o121x1L47) r121x1L47 (by kernel_rfl) rfl ?_ | refine WC_drawL (id := 11) (ops := o121x11L47) r121x11L47 (by kernel_rfl) rfl ?_ | refine WC_drawL (id := 15) (ops := o121x15L47) r121x15L47 (by kernel_rfl) rfl ?_ | refine WC_drawL (id := 17) (ops := o121x17L47) r121x17L47 (by kernel_rfl) rfl ?_ | refine WC_drawL (id := 18) (ops := o121x18L47) r121x18L47 (by kernel_rfl) rfl ?_ | refine WC_drawL (id := 21) (ops := o121x21L47) r121x21L47 (by kernel_rfl) rfl ?_ | refine WC_cond rfl (fun hc => ?_) (fun hc => ?_)))
          exact loopQ_next ⟨mo - 1, _, _, by omega, by exact kQ, by exact kL, ko + 1, p2 + 1, xd - 1, by omega, rfl, rfl, by omega⟩
  by_cases hb0 : w.bad = 0
  · (repeat' (first | refine nI ?_ | (refine nA ?_; intro _) | (refine nW ?_; first | (refine op_call_id ?_; refine op_call rfl (c_l72ForgeP br sb bs _ w q ps ss ms (by exact kF) (hb.mono (by exact kS)) hw (hat.mono (by exact kS)) (by omega)) rfl ?_; rintro _ _ ⟨m, sm, em, p3, rfl, hr3, hl3, hp3, rfl⟩)) | refine nY ?_ | refine WA_alt ?_ ?_ | refine nR ?_ | refine WC_drawL (id := 1) (ops := o121x1L47) r121x1L47 (by kernel_rfl) rfl ?_ | refine WC_drawL (id := 11) (ops := o121x11L47) r121x11L47 (by kernel_rfl) rfl ?_ | refine WC_drawL (id := 15) (ops := o121x15L47) r121x15L47 (by kernel_rfl) rfl ?_ | refine WC_drawL (id := 17) (ops := o121x17L47) r121x17L47 (by kernel_rfl) rfl ?_ | refine WC_drawL (id := 18) (ops := o121x18L47) r121x18L47 (by kernel_rfl) rfl ?_ | refine WC_drawL (id := 21) (ops := o121x21L47) r121x21L47 (by kernel_rfl) rfl ?_ | refine WC_cond rfl (fun hc => ?_) (fun hc => ?_)))
    refine ret_ret (by exact kR) ?_; exact ⟨em ++ ((br, rdO sb p3) :: L1), by exact kP, m, sm, em, p3, rfl, hr3, hl3, by omega, rfl⟩
  · (repeat' (first | refine nI ?_ | (refine nA ?_; intro _) | (refine nW ?_; first | (refine op_call_id ?_; refine op_call rfl (c_pick br sb bs _ _ (by exact kF) (hb.mono (by exact kS)) (by omega)) rfl ?_; rintro _ _ ⟨x, rfl, hx, rfl⟩)) | refine nY ?_ | refine WA_alt ?_ ?_ | refine nR ?_ | refine WC_drawL (id := 1) (ops := o121x1L47) r121x1L47 (by kernel_rfl) rfl ?_ | refine WC_drawL (id := 11) (ops := o121x11L47) r121x11L47 (by kernel_rfl) rfl ?_ | refine WC_drawL (id := 15) (ops := o121x15L47) r121x15L47 (by kernel_rfl) rfl ?_ | refine WC_drawL (id := 17) (ops := o121x17L47) r121x17L47 (by kernel_rfl) rfl ?_ | refine WC_drawL (id := 18) (ops := o121x18L47) r121x18L47 (by kernel_rfl) rfl ?_ | refine WC_draw (id := 21) (ops := o121x21L47) ([(b3, cellsO (worldC w q) 33)]) r121x21L47 (by kernel_rfl) rfl ?_ | refine WC_cond rfl (fun hc => ?_) (fun hc => ?_)))
    all_goals (refine ret_ret (by exact kR) ?_; exact ⟨(br, rdO sb _) :: L1, by exact kP, ⟨1, w.bad, 0, _, []⟩, ⟨_, 0, 0⟩, [], _, rfl, Row.nil, by simp, by omega, rfl⟩)
end
end Go.Proofs.YtkdlkclanlkebaaGreat
/- The laws: two that read alike are the same. -/
set_option linter.unusedVariables false
set_option linter.unusedSectionVars false
set_option linter.unusedSimpArgs false
namespace Go.Proofs.YtkdlkclanlkebaaGreat
open Go Go.Proofs Go.Proofs.YtkdlkclanlkebaaGreat.VE
attribute [local irreducible] Val Op1 WO WR WA WC seqQ blockQ loopQ retQ
noncomputable def o33x11L48 : Array Oper := cops (cl (cl (cl (cr (cl (cl (cr (cl (cr (cr (cr (codeOf Tryz.f33))))))))))))
noncomputable def o33x16L48 : Array Oper := cops (cl (cl (cl (cr (cl (cl (cr (cl (cr (cr (cr (cr (codeOf Tryz.f33)))))))))))))
noncomputable def o33x6L48 : Array Oper := cops (cl (cl (cl (cr (cl (cl (cr (cl (cr (cr (codeOf Tryz.f33)))))))))))
noncomputable def o41x11L48 : Array Oper := cops (cl (cl (cl (cr (cl (cl (cr (cl (cr (cr (cr (codeOf Tryz.f41))))))))))))
noncomputable def o41x6L48 : Array Oper := cops (cl (cl (cl (cr (cl (cl (cr (cl (cr (cr (codeOf Tryz.f41)))))))))))
noncomputable def r33x11L48 : Run := (.st 0 0 (.st 1 1 (.st 2 0 (.st 3 0 (.st 4 1 (.st 5 0 (.st 6 1 (.st 7 0 (.st 8 0 (.st 9 1 (.st 10 3 (.st 11 0 .done))))))))))))
noncomputable def r33x16L48 : Run := (.st 0 0 (.st 1 1 (.st 2 0 (.st 3 0 (.st 4 1 (.st 5 0 (.st 6 1 (.st 7 0 (.st 8 0 (.st 9 1 (.st 10 3 (.st 11 0 .done))))))))))))
noncomputable def r33x6L48 : Run := (.st 0 0 (.st 1 1 (.st 2 0 (.st 3 0 (.st 4 1 (.st 5 0 (.st 6 1 (.st 7 0 (.st 8 0 (.st 9 1 (.st 10 3 (.st 11 0 .done))))))))))))
noncomputable def r41x11L48 : Run := (.st 0 0 (.st 1 1 (.st 2 0 (.st 3 0 (.st 4 1 (.st 5 0 (.st 6 1 (.st 7 0 (.st 8 0 (.st 9 1 (.st 10 0 .done)))))))))))
noncomputable def r41x6L48 : Run := (.st 0 0 (.st 1 1 (.st 2 0 (.st 3 0 (.st 4 1 (.st 5 0 (.st 6 1 (.st 7 0 (.st 8 0 (.st 9 1 (.st 10 0 .done)))))))))))
set_option maxHeartbeats 4000000
theorem c_lbClientT {L : List Ent} (cl : Client) (s1 s2 : CSl) (h1 : CliAt L (cl, s1)) (h2 : CliAt L (cl, s2)) : RO Tryz.prog 41 [clientV cl s1, clientV cl s2] L (B true) := by
  obtain ⟨⟨a1, n1, c1⟩, ⟨a2, n2, c2⟩, x3, x4⟩ := s1
  obtain ⟨⟨d1, m1, e1⟩, ⟨d2, m2, e2⟩, y3, y4⟩ := s2
  obtain ⟨w1, cr1, st1, mt1⟩ := h1
  obtain ⟨w2, cr2, st2, mt2⟩ := h2
  dsimp only at w1 cr1 st1 mt1 w2 cr2 st2 mt2
  obtain ⟨hn1, hc1, hb1, hat1⟩ := w1
  obtain ⟨hn2, hc2, hb2, hat2⟩ := w2
  obtain ⟨hn3, hc3, hb3, hat3⟩ := cr1
  obtain ⟨hn4, hc4, hb4, hat4⟩ := cr2
  dsimp only at hn1 hn2 hn3 hn4 hat1 hat2 hat3 hat4
  subst hn1 hn2 hn3 hn4
  simp only [big] at hb1 hb3
  refine Tri.of Tryz.func41 rfl rfl Tryz.ntmps41 rfl rfl ?_
  (repeat' (first | refine nI ?_ | (refine nA ?_; intro _) | refine nY ?_ | refine WA_alt ?_ ?_ | refine nR ?_ | refine WC_drawL (id := 6) (ops := o41x6L48) r41x6L48 (by kernel_rfl) rfl ?_ | refine WC_drawL (id := 11) (ops := o41x11L48) r41x11L48 (by kernel_rfl) rfl ?_ | refine WC_cond rfl (fun hc => ?_) (fun hc => ?_)))
  rename_i bx bz
  refine WC_loop (fun mz Ez Mz => ∃ k : Nat, k + mz = (cl.wants).length ∧ Ez = [(2, .pointer (some ⟨bx, 0, none⟩)), (3, .pointer (some ⟨bz, 0, none⟩)), (5, I k)] ∧ Mz = (bx, cellsO (clientC cl ⟨⟨a1, cl.wants.length, c1⟩, ⟨a2, cl.creds.length, c2⟩, x3, x4⟩) 49) :: (bz, cellsO (clientC cl ⟨⟨d1, cl.wants.length, e1⟩, ⟨d2, cl.creds.length, e2⟩, y3, y4⟩) 49) :: L ∧ (True)) (cl.wants).length (by exact kQ) (by exact kL) ⟨0, by omega, rfl, rfl, by trivial⟩ ?_
  rintro mz Ez Mz ⟨k, hk, rfl, rfl, hin⟩
  rcases Nat.lt_or_ge k (cl.wants).length with hlt | hge
  · obtain ⟨y1, hy1⟩ : ∃ y, (cl.wants)[k]? = some y := ⟨(cl.wants)[k]'(by omega), by simp [hlt]⟩; obtain ⟨b'1, o1, cs1, T1, fr1, rfl, hm1, hrow1⟩ := hat1 (by omega); have hrow'1 := hrow1 k y1 hy1; have htk1 := take_next hy1
    obtain ⟨y2, hy2⟩ : ∃ y, (cl.wants)[k]? = some y := ⟨(cl.wants)[k]'(by omega), by simp [hlt]⟩; obtain ⟨b'2, o2, cs2, T2, fr2, rfl, hm2, hrow2⟩ := hat2 (by omega); have hrow'2 := hrow2 k y2 hy2; have htk2 := take_next hy2
    have he : y2 = y1 := by rw [hy1] at hy2; exact (Option.some.inj hy2).symm
    subst he
    (repeat' (first | refine nI ?_ | (refine nA ?_; intro _) | (refine nW ?_; first | refine op_val rfl (by exact val_neq_agg rfl rfl (eqT_want _ _)) ?_) | (refine WR_id ?_; refine WR_pure rfl rfl rfl (by exact val_neq_agg rfl rfl (eqT_want _ _)) ?_) | refine nY ?_ | refine WA_alt ?_ ?_ | refine nR ?_ | refine WC_drawL (id := 6) (ops := o41x6L48) r41x6L48 (by kernel_rfl) rfl ?_ | refine WC_drawL (id := 11) (ops := o41x11L48) r41x11L48 (by kernel_rfl) rfl ?_ | refine WC_cond rfl (fun hc => ?_) (fun hc => ?_)))
    · exfalso; simp at hc
    · exact loopQ_next ⟨mz - 1, _, _, by omega, by exact kQ, by exact kL, k + 1, by omega, rfl, rfl, by trivial⟩
  (repeat' (first | refine nI ?_ | (refine nA ?_; intro _) | refine nY ?_ | refine WA_alt ?_ ?_ | refine nR ?_ | refine WC_drawL (id := 6) (ops := o41x6L48) r41x6L48 (by kernel_rfl) rfl ?_ | refine WC_drawL (id := 11) (ops := o41x11L48) r41x11L48 (by kernel_rfl) rfl ?_ | refine WC_cond rfl (fun hc => ?_) (fun hc => ?_)))
  clear hk hge
  refine WC_loop (fun mz Ez Mz => ∃ k : Nat, k + mz = (cl.creds).length ∧ Ez = [(2, .pointer (some ⟨bx, 0, none⟩)), (3, .pointer (some ⟨bz, 0, none⟩)), (6, I k)] ∧ Mz = (bx, cellsO (clientC cl ⟨⟨a1, cl.wants.length, c1⟩, ⟨a2, cl.creds.length, c2⟩, x3, x4⟩) 49) :: (bz, cellsO (clientC cl ⟨⟨d1, cl.wants.length, e1⟩, ⟨d2, cl.creds.length, e2⟩, y3, y4⟩) 49) :: L ∧ (True)) (cl.creds).length (by exact kQ) (by exact kL) ⟨0, by omega, rfl, rfl, by trivial⟩ ?_
  rintro mz Ez Mz ⟨k, hk, rfl, rfl, hin⟩
  rcases Nat.lt_or_ge k (cl.creds).length with hlt | hge
  · obtain ⟨y1, hy1⟩ : ∃ y, (cl.creds)[k]? = some y := ⟨(cl.creds)[k]'(by omega), by simp [hlt]⟩; obtain ⟨b'1, o1, cs1, T1, fr1, rfl, hm1, hrow1⟩ := hat3 (by omega); have hrow'1 := hrow1 k y1 hy1; have htk1 := take_next hy1
    obtain ⟨y2, hy2⟩ : ∃ y, (cl.creds)[k]? = some y := ⟨(cl.creds)[k]'(by omega), by simp [hlt]⟩; obtain ⟨b'2, o2, cs2, T2, fr2, rfl, hm2, hrow2⟩ := hat4 (by omega); have hrow'2 := hrow2 k y2 hy2; have htk2 := take_next hy2
    have he : y2 = y1 := by rw [hy1] at hy2; exact (Option.some.inj hy2).symm
    subst he
    (repeat' (first | refine nI ?_ | (refine nA ?_; intro _) | (refine nW ?_; first | refine op_val rfl (by exact val_neq_agg rfl rfl (eqT_cred _ _)) ?_) | (refine WR_id ?_; refine WR_pure rfl rfl rfl (by exact val_neq_agg rfl rfl (eqT_cred _ _)) ?_) | refine nY ?_ | refine WA_alt ?_ ?_ | refine nR ?_ | refine WC_drawL (id := 6) (ops := o41x6L48) r41x6L48 (by kernel_rfl) rfl ?_ | refine WC_drawL (id := 11) (ops := o41x11L48) r41x11L48 (by kernel_rfl) rfl ?_ | refine WC_cond rfl (fun hc => ?_) (fun hc => ?_)))
    · exfalso; simp at hc
    · exact loopQ_next ⟨mz - 1, _, _, by omega, by exact kQ, by exact kL, k + 1, by omega, rfl, rfl, by trivial⟩
  (repeat' (first | refine nI ?_ | (refine nA ?_; intro _) | (refine nW ?_; first | (refine op_call_id ?_; refine op_ro rfl rfl (by first | exact (c_laws.lbCalls x3 y3 cl.sent cl.sent (st1.mono (by exact kS)) (st2.mono (by exact kS))).eq (congrArg B (decide_eq_true rfl)) | exact (c_laws.lbCalls x4 y4 cl.met cl.met (mt1.mono (by exact kS)) (mt2.mono (by exact kS))).eq (congrArg B (decide_eq_true rfl))) ?_)) | refine nY ?_ | refine WA_alt ?_ ?_ | refine nR ?_ | refine WC_drawL (id := 6) (ops := o41x6L48) r41x6L48 (by kernel_rfl) rfl ?_ | refine WC_drawL (id := 11) (ops := o41x11L48) r41x11L48 (by kernel_rfl) rfl ?_ | refine WC_cond rfl (fun hc => ?_) (fun hc => ?_)))
  refine ro_ret (by exact kR) (by exact kL) ?_; rfl
theorem c_lbServT {L : List Ent} (s : Serv) (c1 t1 c2 t2 : Sl) (h1 : SrvAt L (s, c1, t1)) (h2 : SrvAt L (s, c2, t2)) : RO Tryz.prog 42 [servV s c1 t1, servV s c2 t2] L (B true) := by
  refine Tri.of Tryz.func42 rfl rfl Tryz.ntmps42 rfl rfl ?_
  (repeat' (first | refine nI ?_ | (refine nA ?_; intro _) | (refine nW ?_; first | (refine op_call_id ?_; refine op_ro rfl rfl (by first | exact (c_laws.lbSeals c1 c2 s.cache s.cache (h1.c.mono (by exact kS)) (h2.c.mono (by exact kS))).eq (congrArg B (decide_eq_true rfl)) | exact (c_laws.lbCalls t1 t2 s.took s.took (h1.t.mono (by exact kS)) (h2.t.mono (by exact kS))).eq (congrArg B (decide_eq_true rfl))) ?_)) | refine nY ?_ | refine nR ?_ | refine WC_cond rfl (fun hc => ?_) (fun hc => ?_)))
  refine ro_ret (by exact kR) (by exact kL) ?_; rfl
theorem fst_same {X Y : Type} {ps qs : List (X × Y)} {xs : List X} (h1 : ps.map Prod.fst = xs) (h2 : qs.map Prod.fst = xs) {k : Nat} {p r : X × Y} (hp : ps[k]? = some p) (hr : qs[k]? = some r) : r.1 = p.1 := by
  have e1 : xs[k]? = some p.1 := by rw [← h1, List.getElem?_map, hp]; rfl
  have e2 : xs[k]? = some r.1 := by rw [← h2, List.getElem?_map, hr]; rfl
  rw [e1] at e2
  exact (Option.some.inj e2).symm
theorem c_lbWorldT {L : List Ent} (w : World) (q1 q2 : WSl) (ps1 ps2 : List (Client × CSl)) (ss1 ss2 : List (Serv × (Sl × Sl))) (ms1 ms2 : List (Msg × Sl)) (h1 : WldAt L w q1 ps1 ss1 ms1) (h2 : WldAt L w q2 ps2 ss2 ms2) : RO Tryz.prog 33 [worldV w q1, worldV w q2] L (B true) := by
  obtain ⟨k1, ⟨a1, n1, c1⟩, ⟨a2, n2, c2⟩, ⟨a3, n3, c3⟩⟩ := q1
  obtain ⟨k2, ⟨d1, m1, e1⟩, ⟨d2, m2, e2⟩, ⟨d3, m3, e3⟩⟩ := q2
  obtain ⟨hk1, hpe1, hpr1, hpa1, hse1, hsr1, hsa1, hme1, hmr1, hma1⟩ := h1
  obtain ⟨hk2, hpe2, hpr2, hpa2, hse2, hsr2, hsa2, hme2, hmr2, hma2⟩ := h2
  dsimp only at hk1 hpr1 hsr1 hmr1 hk2 hpr2 hsr2 hmr2
  have l1 := len_fst hpe1
  have l2 := len_fst hpe2
  have l3 := len_fst hse1
  have l4 := len_fst hse2
  have l5 := len_fst hme1
  have l6 := len_fst hme2
  obtain ⟨hn1, hc1, hb1, hat1⟩ := hpr1
  obtain ⟨hn2, hc2, hb2, hat2⟩ := hpr2
  obtain ⟨hn3, hc3, hb3, hat3⟩ := hsr1
  obtain ⟨hn4, hc4, hb4, hat4⟩ := hsr2
  obtain ⟨hn5, hc5, hb5, hat5⟩ := hmr1
  obtain ⟨hn6, hc6, hb6, hat6⟩ := hmr2
  dsimp only at hn1 hn2 hn3 hn4 hn5 hn6 hat1 hat2 hat3 hat4 hat5 hat6
  subst hn1 hn2 hn3 hn4 hn5 hn6
  simp only [big] at hb1 hb3 hb5
  have l7 : ps2.length = ps1.length := by omega
  have l8 : ss2.length = ss1.length := by omega
  have l9 : ms2.length = ms1.length := by omega
  rw [l7, l8, l9]
  refine Tri.of Tryz.func33 rfl rfl Tryz.ntmps33 rfl rfl ?_
  (repeat' (first | refine nI ?_ | (refine nA ?_; intro _) | (refine nW ?_; first | (refine op_call_id ?_; refine op_ro rfl rfl (by exact (c_lbKdc w.kdc w.kdc k1 k2 (hk1.mono (by exact kS)) (hk2.mono (by exact kS))).eq (congrArg B (decide_eq_true rfl))) ?_)) | refine nY ?_ | refine WA_alt ?_ ?_ | refine nR ?_ | refine WC_drawL (id := 6) (ops := o33x6L48) r33x6L48 (by kernel_rfl) rfl ?_ | refine WC_drawL (id := 11) (ops := o33x11L48) r33x11L48 (by kernel_rfl) rfl ?_ | refine WC_drawL (id := 16) (ops := o33x16L48) r33x16L48 (by kernel_rfl) rfl ?_ | refine WC_cond rfl (fun hc => ?_) (fun hc => ?_)))
  rename_i bx bz
  refine WC_loop (fun mz Ez Mz => ∃ k : Nat, k + mz = (ps1).length ∧ Ez = [(2, .pointer (some ⟨bx, 0, none⟩)), (3, .pointer (some ⟨bz, 0, none⟩)), (5, I k)] ∧ Mz = (bx, cellsO (worldC w ⟨k1, ⟨a1, ps1.length, c1⟩, ⟨a2, ss1.length, c2⟩, ⟨a3, ms1.length, c3⟩⟩) 33) :: (bz, cellsO (worldC w ⟨k2, ⟨d1, ps1.length, e1⟩, ⟨d2, ss1.length, e2⟩, ⟨d3, ms1.length, e3⟩⟩) 33) :: L ∧ (True)) (ps1).length (by exact kQ) (by exact kL) ⟨0, by omega, rfl, rfl, by trivial⟩ ?_
  rintro mz Ez Mz ⟨k, hk, rfl, rfl, hin⟩
  rcases Nat.lt_or_ge k (ps1).length with hlt | hge
  · obtain ⟨y1, hy1⟩ : ∃ y, (ps1)[k]? = some y := ⟨(ps1)[k]'(by omega), by simp [hlt]⟩; obtain ⟨b'1, o1, cs1, T1, fr1, rfl, hm1, hrow1⟩ := hat1 (by omega); have hrow'1 := hrow1 k y1 hy1; have htk1 := take_next hy1
    obtain ⟨y2, hy2⟩ : ∃ y, ps2[k]? = some y := ⟨ps2[k]'(by omega), List.getElem?_eq_getElem _⟩
    obtain ⟨b'2, o2, cs2, T2, fr2, rfl, hm2, hrow2⟩ := hat2 (by omega)
    have hrow'2 := hrow2 k y2 hy2
    have he := fst_same hpe1 hpe2 hy1 hy2
    have hca1 := hpa1 _ (List.mem_of_getElem? hy1)
    have hca2 := hpa2 _ (List.mem_of_getElem? hy2)
    obtain ⟨u, s1⟩ := y1
    obtain ⟨u2, s2⟩ := y2
    dsimp only at he
    subst he
    (repeat' (first | refine nI ?_ | (refine nA ?_; intro _) | (refine nW ?_; first | (refine op_call_id ?_; refine op_ro rfl rfl (by exact c_lbClientT u2 s1 s2 (hca1.mono (by exact kS)) (hca2.mono (by exact kS))) ?_)) | refine nY ?_ | refine WA_alt ?_ ?_ | refine nR ?_ | refine WC_drawL (id := 6) (ops := o33x6L48) r33x6L48 (by kernel_rfl) rfl ?_ | refine WC_drawL (id := 11) (ops := o33x11L48) r33x11L48 (by kernel_rfl) rfl ?_ | refine WC_drawL (id := 16) (ops := o33x16L48) r33x16L48 (by kernel_rfl) rfl ?_ | refine WC_cond rfl (fun hc => ?_) (fun hc => ?_)))
    exact loopQ_next ⟨mz - 1, _, _, by omega, by exact kQ, by exact kL, k + 1, by omega, rfl, rfl, by trivial⟩
  (repeat' (first | refine nI ?_ | (refine nA ?_; intro _) | refine nY ?_ | refine WA_alt ?_ ?_ | refine nR ?_ | refine WC_drawL (id := 6) (ops := o33x6L48) r33x6L48 (by kernel_rfl) rfl ?_ | refine WC_drawL (id := 11) (ops := o33x11L48) r33x11L48 (by kernel_rfl) rfl ?_ | refine WC_drawL (id := 16) (ops := o33x16L48) r33x16L48 (by kernel_rfl) rfl ?_ | refine WC_cond rfl (fun hc => ?_) (fun hc => ?_)))
  clear hk hge
  refine WC_loop (fun mz Ez Mz => ∃ k : Nat, k + mz = (ss1).length ∧ Ez = [(2, .pointer (some ⟨bx, 0, none⟩)), (3, .pointer (some ⟨bz, 0, none⟩)), (6, I k)] ∧ Mz = (bx, cellsO (worldC w ⟨k1, ⟨a1, ps1.length, c1⟩, ⟨a2, ss1.length, c2⟩, ⟨a3, ms1.length, c3⟩⟩) 33) :: (bz, cellsO (worldC w ⟨k2, ⟨d1, ps1.length, e1⟩, ⟨d2, ss1.length, e2⟩, ⟨d3, ms1.length, e3⟩⟩) 33) :: L ∧ (True)) (ss1).length (by exact kQ) (by exact kL) ⟨0, by omega, rfl, rfl, by trivial⟩ ?_
  rintro mz Ez Mz ⟨k, hk, rfl, rfl, hin⟩
  rcases Nat.lt_or_ge k (ss1).length with hlt | hge
  · obtain ⟨y1, hy1⟩ : ∃ y, (ss1)[k]? = some y := ⟨(ss1)[k]'(by omega), by simp [hlt]⟩; obtain ⟨b'1, o1, cs1, T1, fr1, rfl, hm1, hrow1⟩ := hat3 (by omega); have hrow'1 := hrow1 k y1 hy1; have htk1 := take_next hy1
    obtain ⟨y2, hy2⟩ : ∃ y, ss2[k]? = some y := ⟨ss2[k]'(by omega), List.getElem?_eq_getElem _⟩
    obtain ⟨b'2, o2, cs2, T2, fr2, rfl, hm2, hrow2⟩ := hat4 (by omega)
    have hrow'2 := hrow2 k y2 hy2
    have he := fst_same hse1 hse2 hy1 hy2
    have hca1 := hsa1 _ (List.mem_of_getElem? hy1)
    have hca2 := hsa2 _ (List.mem_of_getElem? hy2)
    obtain ⟨u, s1, t1⟩ := y1
    obtain ⟨u2, s2, t2⟩ := y2
    dsimp only at he
    subst he
    (repeat' (first | refine nI ?_ | (refine nA ?_; intro _) | (refine nW ?_; first | (refine op_call_id ?_; refine op_ro rfl rfl (by exact c_lbServT u2 s1 t1 s2 t2 (hca1.mono (by exact kS)) (hca2.mono (by exact kS))) ?_)) | refine nY ?_ | refine WA_alt ?_ ?_ | refine nR ?_ | refine WC_drawL (id := 6) (ops := o33x6L48) r33x6L48 (by kernel_rfl) rfl ?_ | refine WC_drawL (id := 11) (ops := o33x11L48) r33x11L48 (by kernel_rfl) rfl ?_ | refine WC_drawL (id := 16) (ops := o33x16L48) r33x16L48 (by kernel_rfl) rfl ?_ | refine WC_cond rfl (fun hc => ?_) (fun hc => ?_)))
    exact loopQ_next ⟨mz - 1, _, _, by omega, by exact kQ, by exact kL, k + 1, by omega, rfl, rfl, by trivial⟩
  (repeat' (first | refine nI ?_ | (refine nA ?_; intro _) | refine nY ?_ | refine WA_alt ?_ ?_ | refine nR ?_ | refine WC_drawL (id := 6) (ops := o33x6L48) r33x6L48 (by kernel_rfl) rfl ?_ | refine WC_drawL (id := 11) (ops := o33x11L48) r33x11L48 (by kernel_rfl) rfl ?_ | refine WC_drawL (id := 16) (ops := o33x16L48) r33x16L48 (by kernel_rfl) rfl ?_ | refine WC_cond rfl (fun hc => ?_) (fun hc => ?_)))
  clear hk hge
  refine WC_loop (fun mz Ez Mz => ∃ k : Nat, k + mz = (ms1).length ∧ Ez = [(2, .pointer (some ⟨bx, 0, none⟩)), (3, .pointer (some ⟨bz, 0, none⟩)), (7, I k)] ∧ Mz = (bx, cellsO (worldC w ⟨k1, ⟨a1, ps1.length, c1⟩, ⟨a2, ss1.length, c2⟩, ⟨a3, ms1.length, c3⟩⟩) 33) :: (bz, cellsO (worldC w ⟨k2, ⟨d1, ps1.length, e1⟩, ⟨d2, ss1.length, e2⟩, ⟨d3, ms1.length, e3⟩⟩) 33) :: L ∧ (True)) (ms1).length (by exact kQ) (by exact kL) ⟨0, by omega, rfl, rfl, by trivial⟩ ?_
  rintro mz Ez Mz ⟨k, hk, rfl, rfl, hin⟩
  rcases Nat.lt_or_ge k (ms1).length with hlt | hge
  · obtain ⟨y1, hy1⟩ : ∃ y, (ms1)[k]? = some y := ⟨(ms1)[k]'(by omega), by simp [hlt]⟩; obtain ⟨b'1, o1, cs1, T1, fr1, rfl, hm1, hrow1⟩ := hat5 (by omega); have hrow'1 := hrow1 k y1 hy1; have htk1 := take_next hy1
    obtain ⟨y2, hy2⟩ : ∃ y, ms2[k]? = some y := ⟨ms2[k]'(by omega), List.getElem?_eq_getElem _⟩
    obtain ⟨b'2, o2, cs2, T2, fr2, rfl, hm2, hrow2⟩ := hat6 (by omega)
    have hrow'2 := hrow2 k y2 hy2
    have he := fst_same hme1 hme2 hy1 hy2
    have hca1 := hma1 _ (List.mem_of_getElem? hy1)
    have hca2 := hma2 _ (List.mem_of_getElem? hy2)
    obtain ⟨u, s1⟩ := y1
    obtain ⟨u2, s2⟩ := y2
    dsimp only at he
    subst he
    (repeat' (first | refine nI ?_ | (refine nA ?_; intro _) | (refine nW ?_; first | (refine op_call_id ?_; refine op_ro rfl rfl (by exact (c_lbMsg u2 u2 s1 s2 (hca1.mono (by exact kS)) (hca2.mono (by exact kS))).eq (congrArg B (decide_eq_true rfl))) ?_)) | refine nY ?_ | refine WA_alt ?_ ?_ | refine nR ?_ | refine WC_drawL (id := 6) (ops := o33x6L48) r33x6L48 (by kernel_rfl) rfl ?_ | refine WC_drawL (id := 11) (ops := o33x11L48) r33x11L48 (by kernel_rfl) rfl ?_ | refine WC_drawL (id := 16) (ops := o33x16L48) r33x16L48 (by kernel_rfl) rfl ?_ | refine WC_cond rfl (fun hc => ?_) (fun hc => ?_)))
    exact loopQ_next ⟨mz - 1, _, _, by omega, by exact kQ, by exact kL, k + 1, by omega, rfl, rfl, by trivial⟩
  (repeat' (first | refine nI ?_ | (refine nA ?_; intro _) | refine nY ?_ | refine WA_alt ?_ ?_ | refine nR ?_ | refine WC_drawL (id := 6) (ops := o33x6L48) r33x6L48 (by kernel_rfl) rfl ?_ | refine WC_drawL (id := 11) (ops := o33x11L48) r33x11L48 (by kernel_rfl) rfl ?_ | refine WC_drawL (id := 16) (ops := o33x16L48) r33x16L48 (by kernel_rfl) rfl ?_ | refine WC_cond rfl (fun hc => ?_) (fun hc => ?_)))
  refine ro_ret (by exact kR) (by exact kL) ?_; rfl
end Go.Proofs.YtkdlkclanlkebaaGreat
