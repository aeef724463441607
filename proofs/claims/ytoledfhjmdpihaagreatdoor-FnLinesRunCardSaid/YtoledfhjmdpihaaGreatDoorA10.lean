/- Draws: what is read. -/
import Derived.Below
import Derived.Test.YtoledfhjmdpihaaGreatDoorA9
import Derived.Test.YtoledfhjmdpihaaGreatDoorA1
import Derived.Test.YtoledfhjmdpihaaGreatDoorA2
set_option linter.unusedVariables false
set_option linter.unusedSectionVars false
set_option linter.unusedSimpArgs false
namespace Go.Proofs.YtoledfhjmdpihaaGreatDoor
open Go Go.Proofs Go.Proofs.YtoledfhjmdpihaaGreatDoor.VE
attribute [local irreducible] Val Op1 WO WR WA WC seqQ blockQ loopQ retQ
noncomputable def o29x7L43 : Array Oper := cops (cl (cr (cr (cr (cr (cr (codeOf Tryz.f29)))))))
noncomputable def r29x7L43 : Run := (.st 0 0 (.st 1 0 (.st 2 0 (.st 3 1 (.st 4 0 (.st 5 0 (.st 6 0 (.st 7 0 (.st 8 1 (.st 9 0 (.st 10 0 (.st 11 0 (.st 12 1 (.st 13 0 (.st 14 0 (.st 15 0 (.st 16 0 (.st 17 0 (.st 18 1 (.st 19 0 (.st 20 0 (.st 21 0 (.st 22 0 (.st 23 0 (.st 24 0 (.st 25 1 (.st 26 0 (.st 27 0 (.st 28 0 (.st 29 1 (.st 30 0 (.st 31 0 (.st 32 0 (.st 33 0 (.st 34 0 (.st 35 0 (.st 36 0 (.st 37 0 (.st 38 0 (.st 39 0 (.st 40 1 (.st 41 0 (.st 42 0 (.st 43 0 (.st 44 0 (.st 45 0 .done))))))))))))))))))))))))))))))))))))))))))))))
set_option maxHeartbeats 4000000
abbrev rdO (sb : Sl) (p : Int) : Obj := cellsO [sb.v, I p] 103
/-- A code that is read. -/
structure Code8 (L : List Ent) (sb : Sl) (bs : List Int) : Prop where
  at_ : SliceAt L encByte sb bs
  byte : ∀ x ∈ bs, 0 ≤ x ∧ x ≤ 255
  len : bs.length ≤ 2000
theorem Code8.mono {L M : List Ent} {sb : Sl} {bs : List Int} (h : Code8 L sb bs) (hs : ∀ e ∈ L, e ∈ M) : Code8 M sb bs := ⟨h.at_.mono hs, h.byte, h.len⟩
theorem c_l6Open {L : List Ent} (sb : Sl) (bs : List Int) (h : SliceAt L encByte sb bs) (hby : ∀ x ∈ bs, 0 ≤ x ∧ x ≤ 255) : Tri Tryz.prog 28 [sb.v] L (fun v L' => ∃ b sb' bs', v = .pointer (some ⟨b, 0, none⟩) ∧ Code8 L sb' bs' ∧ L' = (b, rdO sb' 0) :: L) := by
  obtain ⟨a, n, c⟩ := sb
  have hat := h
  obtain ⟨hn, hc, hbig, hrd⟩ := h
  dsimp only at hn hc
  subst hn
  simp only [big] at hbig
  by_cases h2 : 2000 < bs.length
  · have hl : (bs.take 2000).length ≤ 2000 := by rw [List.length_take]; omega
    have hcut : SliceAt L encByte ⟨a, 2000, c⟩ (bs.take 2000) := hat.take (by omega)
    refine Tri.of Tryz.func28 rfl rfl Tryz.ntmps28 rfl rfl ?_
    (repeat' (first | refine nI ?_ | (refine nA ?_; intro _) | refine nY ?_ | refine nR ?_ | refine WC_cond rfl (fun hc => ?_) (fun hc => ?_)))
    refine ret_ret (by exact kR) ?_; exact ⟨(_, rdO ⟨a, 2000, c⟩ 0) :: L, by exact kP, _, ⟨a, 2000, c⟩, bs.take 2000, rfl, ⟨hcut, fun x hx => hby x (List.mem_of_mem_take hx), hl⟩, rfl⟩
  · refine Tri.of Tryz.func28 rfl rfl Tryz.ntmps28 rfl rfl ?_
    (repeat' (first | refine nI ?_ | (refine nA ?_; intro _) | refine nY ?_ | refine nR ?_ | refine WC_cond rfl (fun hc => ?_) (fun hc => ?_)))
    refine ret_ret (by exact kR) ?_; exact ⟨(_, rdO ⟨a, bs.length, c⟩ 0) :: L, by exact kP, _, ⟨a, bs.length, c⟩, bs, rfl, ⟨hat, hby, by omega⟩, rfl⟩
theorem c_pick {L L1 : List Ent} (br : Nat) (sb : Sl) (bs : List Int) (p n : Int) (hL : L.Perm ((br, rdO sb p) :: L1)) (hb : Code8 L1 sb bs) (hp : 0 ≤ p ∧ p ≤ 1000000) : Tri Tryz.prog 29 [.pointer (some ⟨br, 0, none⟩), I n] L (fun v L' => ∃ x : Int, v = I x ∧ (0 ≤ x ∧ (x < n ∨ x = 0)) ∧ L' = (br, rdO sb (p + 1)) :: L1) := by
  refine Tri.perm ?_ hL
  obtain ⟨a, nn, c⟩ := sb
  obtain ⟨hat, hby, hlen⟩ := hb
  obtain ⟨hn', hc, hbig, hrd⟩ := hat
  dsimp only at hn' hc hrd
  subst hn'
  by_cases hn : n < 1
  · refine Tri.of Tryz.func29 rfl rfl Tryz.ntmps29 rfl rfl ?_
    (repeat' (first | refine nI ?_ | (refine nA ?_; intro _) | refine nY ?_ | refine WA_alt ?_ ?_ | refine nR ?_ | refine WC_drawL (id := 7) (ops := o29x7L43) r29x7L43 (by kernel_rfl) rfl ?_ | refine WC_cond rfl (fun hc => ?_) (fun hc => ?_)))
    refine ret_ret (by exact kR) ?_; exact ⟨(br, rdO ⟨a, bs.length, c⟩ (p + 1)) :: L1, by exact kP, 0, rfl, ⟨by omega, .inr rfl⟩, rfl⟩
  by_cases hz : bs.length = 0
  · have hz' : (bs.length : Int) = 0 := by omega
    refine Tri.of Tryz.func29 rfl rfl Tryz.ntmps29 rfl rfl ?_
    (repeat' (first | refine nI ?_ | (refine nA ?_; intro _) | refine nY ?_ | refine WA_alt ?_ ?_ | refine nR ?_ | refine WC_drawL (id := 7) (ops := o29x7L43) r29x7L43 (by kernel_rfl) rfl ?_ | refine WC_cond rfl (fun hc => ?_) (fun hc => ?_)))
    refine ret_ret (by exact kR) ?_; exact ⟨(br, rdO ⟨a, bs.length, c⟩ (p + 1)) :: L1, by exact kP, 0, rfl, ⟨by omega, .inr rfl⟩, rfl⟩
  obtain ⟨b', o', cs, T', fr, rfl, hmem, hrow⟩ := hrd (by omega)
  by_cases hlt : p < bs.length
  · obtain ⟨y, hy⟩ : ∃ y, bs[(p + 1 - 1).toNat]? = some y := ⟨bs[(p + 1 - 1).toNat]'(by omega), List.getElem?_eq_getElem _⟩
    have hrow' := hrow _ y hy
    have hyb := hby y (List.mem_of_getElem? hy)
    refine Tri.of Tryz.func29 rfl rfl Tryz.ntmps29 rfl rfl ?_
    (repeat' (first | refine nI ?_ | (refine nA ?_; intro _) | (refine nW ?_; first | refine op_val rfl (by first | exact val_byte rfl rfl rfl hyb.1 hyb.2 | (apply gv_bin; refine val_rem rfl rfl ?_ ?_ <;> (first | omega | (dsimp only; omega)))) ?_) | (refine WR_id ?_; refine WR_pure rfl rfl rfl (by first | exact val_byte rfl rfl rfl hyb.1 hyb.2 | (apply gv_bin; refine val_rem rfl rfl ?_ ?_ <;> (first | omega | (dsimp only; omega)))) ?_) | refine nY ?_ | refine WA_alt ?_ ?_ | refine nR ?_ | refine WC_drawL (id := 7) (ops := o29x7L43) r29x7L43 (by kernel_rfl) rfl ?_ | refine WC_cond rfl (fun hc => ?_) (fun hc => ?_)))
    refine ret_ret (by exact kR) ?_; exact ⟨(br, rdO ⟨some ⟨b', o', none⟩, bs.length, c⟩ (p + 1)) :: L1, by exact kP, y % n, rfl, ⟨Int.emod_nonneg _ (by omega), .inl (Int.emod_lt_of_pos _ (by omega))⟩, rfl⟩
  · have hl0 : (0 : Int) < (bs.length : Int) := by omega
    have hm1 : 0 ≤ (p + 1 - 1) % (bs.length : Int) := Int.emod_nonneg _ (by omega)
    have hm2 : (p + 1 - 1) % (bs.length : Int) < (bs.length : Int) := Int.emod_lt_of_pos _ hl0
    have hm3 : 0 ≤ ((p + 1 - 1) * 7 + 3) % (bs.length : Int) := Int.emod_nonneg _ (by omega)
    have hm4 : ((p + 1 - 1) * 7 + 3) % (bs.length : Int) < (bs.length : Int) := Int.emod_lt_of_pos _ hl0
    have hd1 : 0 ≤ (p + 1 - 1) / (bs.length : Int) := Int.ediv_nonneg (by omega) (by omega)
    have hd2 : (p + 1 - 1) / (bs.length : Int) ≤ p + 1 - 1 := Int.ediv_le_self _ (by omega)
    obtain ⟨y, hy⟩ : ∃ y, bs[((p + 1 - 1) % (bs.length : Int)).toNat]? = some y := ⟨bs[((p + 1 - 1) % (bs.length : Int)).toNat]'(by omega), List.getElem?_eq_getElem _⟩
    obtain ⟨z, hz⟩ : ∃ y, bs[(((p + 1 - 1) * 7 + 3) % (bs.length : Int)).toNat]? = some y := ⟨bs[(((p + 1 - 1) * 7 + 3) % (bs.length : Int)).toNat]'(by omega), List.getElem?_eq_getElem _⟩
    have hrow1 := hrow _ y hy
    have hrow2 := hrow _ z hz
    have hyb := hby y (List.mem_of_getElem? hy)
    have hzb := hby z (List.mem_of_getElem? hz)
    refine Tri.of Tryz.func29 rfl rfl Tryz.ntmps29 rfl rfl ?_
    (repeat' (first | refine nI ?_ | (refine nA ?_; intro _) | (refine nW ?_; first | refine op_val rfl (by first | exact val_byte rfl rfl rfl hyb.1 hyb.2 | exact val_byte rfl rfl rfl hzb.1 hzb.2 | (apply gv_bin; refine val_mul rfl rfl ?_ ?_ <;> (first | omega | (dsimp only; omega))) | (apply gv_bin; refine val_quo rfl rfl ?_ ?_ ?_ <;> (first | omega | (dsimp only; omega))) | exact val_xor rfl rfl | (apply gv_bin; refine val_rem rfl rfl ?_ ?_ <;> first | omega | exact (xorI_range (by first | omega | (dsimp only; omega)) (by first | omega | (dsimp only; omega))).1)) ?_) | (refine WR_id ?_; refine WR_pure rfl rfl rfl (by first | exact val_byte rfl rfl rfl hyb.1 hyb.2 | exact val_byte rfl rfl rfl hzb.1 hzb.2 | (apply gv_bin; refine val_mul rfl rfl ?_ ?_ <;> (first | omega | (dsimp only; omega))) | (apply gv_bin; refine val_quo rfl rfl ?_ ?_ ?_ <;> (first | omega | (dsimp only; omega))) | exact val_xor rfl rfl | (apply gv_bin; refine val_rem rfl rfl ?_ ?_ <;> first | omega | exact (xorI_range (by first | omega | (dsimp only; omega)) (by first | omega | (dsimp only; omega))).1)) ?_) | refine nY ?_ | refine WA_alt ?_ ?_ | refine nR ?_ | refine WC_drawL (id := 7) (ops := o29x7L43) r29x7L43 (by kernel_rfl) rfl ?_ | refine WC_cond rfl (fun hc => ?_) (fun hc => ?_)))
    refine ret_ret (by exact kR) ?_; exact ⟨(br, rdO ⟨some ⟨b', o', none⟩, bs.length, c⟩ (p + 1)) :: L1, by exact kP, _, rfl, ⟨Int.emod_nonneg _ (by omega), .inl (Int.emod_lt_of_pos _ (by omega))⟩, rfl⟩
end Go.Proofs.YtoledfhjmdpihaaGreatDoor
/- From what holds of a list of blocks to what the statements say of a call. -/
set_option linter.unusedVariables false
set_option linter.unusedSimpArgs false
namespace Go.Proofs.YtoledfhjmdpihaaGreatDoor
open Go Go.Proofs Go.Proofs.YtoledfhjmdpihaaGreatDoor.VE

/-- All blocks of a memory. -/
def heapL (w : Go.World) : List Ent := (List.range w.heap.size).map (fun k => (k, w.heap.getD k (.cells #[] 0 (0, 0))))
theorem heapL_mem {w : Go.World} {k : Nat} {o : Obj} : (k, o) ∈ heapL w ↔ w.heap[k]? = some o := by
  unfold heapL
  rw [List.mem_map]
  constructor
  · rintro ⟨j, hj, he⟩
    have hj' := List.mem_range.1 hj
    obtain ⟨rfl, rfl⟩ := Prod.mk.inj he
    rw [Array.getD_eq_getD_getElem?, Array.getElem?_eq_getElem hj']; rfl
  · intro h
    obtain ⟨hlt, he⟩ := Array.getElem?_eq_some_iff.1 h
    refine ⟨k, List.mem_range.2 hlt, ?_⟩
    rw [Array.getD_eq_getD_getElem?, h]; rfl
theorem heapL_sat (w : Go.World) : Sat w (heapL w) w := by
  refine ⟨rfl, rfl, rfl, Nat.le_refl _, ?_, fun e he => heapL_mem.1 he⟩
  have h : (heapL w).map Prod.fst = List.range w.heap.size := by
    unfold heapL; rw [List.map_map]; exact List.map_id' _
  rw [h]; exact List.nodup_range
theorem below_of {w w' : Go.World} (h : Sat w (heapL w) w') : Go.RowKit.Below w.heap.size w w' := by
  refine ⟨h.os, h.tape, h.output, h.size, fun k hk => ?_⟩
  have h1 : w.heap[k]? = some w.heap[k] := Array.getElem?_eq_getElem hk
  rw [h1]
  exact h.has (k, w.heap[k]) (heapL_mem.2 h1)
theorem walk_of {P : Program} {f : FuncId} {args : List Value} {w : Go.World} (h : RO P f args (heapL w) (B true)) : Calls P f args.toArray w fun e w' => e = .returned (.bool true) ∧ Go.RowKit.Below w.heap.size w w' :=
  (h.calls w w (heapL_sat w)).mono fun _ _ ⟨_, _, he, hs, hv, hl⟩ => ⟨by rw [he, hv], below_of (hl ▸ hs)⟩
/-- Bytes that came in. -/
structure BytesIn (L : List Ent) (a : Option Addr) (n c : Nat) (bs : List Int) : Prop where
  top : n ≤ 9223372036854775807
  at_ : n ≤ 1048576 → SliceAt L encByte ⟨a, n, c⟩ bs
  byte : ∀ x ∈ bs, 0 ≤ x ∧ x ≤ 255
theorem bytes_at {w : Go.World} {a : Option Addr} {len cap : Nat} {zs : List Int} (h : (a = none ∧ len = 0 ∧ cap = 0 ∧ zs = []) ∨
    ∃ x, a = some x ∧ len ≤ cap ∧ cap ≤ maxLen ∧ zs.length = cap ∧ (∀ i, i < zs.length → w.cell? (x.add i) = some (.int .u8 (zs.getD i 0))) ∧ ∀ n ∈ zs, (Lit.int .u8 n).wf = true) :
    BytesIn (heapL w) a len cap (zs.take len) := by
  rcases h with ⟨rfl, rfl, rfl, rfl⟩ | ⟨⟨b, o, sp⟩, rfl, hl, hm, hz, hcell, hwz⟩
  · exact ⟨by omega, fun _ => SliceAt.nil, fun x hx => by simp at hx⟩
  · simp only [maxLen] at hm
    refine ⟨by omega, fun hlen => ?_, fun x hx => ?_⟩
    · have htl : (zs.take len).length = len := by rw [List.length_take]; omega
      refine ⟨htl.symm, by rw [htl]; exact hl, by rw [htl]; simp only [big]; omega, fun hp => ?_⟩
      rw [htl] at hp
      have h0 := hcell 0 (by omega)
      have hadd0 : Addr.add ⟨b, o, sp⟩ 0 = ⟨b, o, sp⟩ := rfl
      rw [hadd0] at h0
      have hsp : sp = none := by
        unfold Go.World.cell? at h0
        split at h0
        · cases sp with
          | none => rfl
          | some s => simp at h0
        · cases h0
      subst hsp
      have hadd : ∀ i, Addr.add ⟨b, o, none⟩ i = ⟨b, o + i, none⟩ := fun i => by
        unfold Addr.add; split
        · next hi => subst hi; rfl
        · rfl
      cases hb : w.heap[b]? with
      | none => unfold Go.World.cell? at h0; rw [hb] at h0; cases h0
      | some ob =>
        cases ob with
        | cells arr T fr =>
          refine ⟨b, o, arr.toList, T, fr, rfl, heapL_mem.2 (by rw [hb]), fun k x hk => ?_⟩
          have hk2 : k < len := by have := (List.getElem?_eq_some_iff.1 hk).1; omega
          have hx : x = zs.getD k 0 := by
            rw [List.getElem?_take_of_lt hk2] at hk
            rw [List.getD_eq_getElem?_getD, hk]; rfl
          have hc := hcell k (by omega)
          rw [hadd] at hc
          unfold Go.World.cell? at hc
          rw [hb] at hc
          replace hc : arr[o + k]? = some (.int .u8 (zs.getD k 0)) := by simpa using hc
          obtain ⟨hlt, he⟩ := Array.getElem?_eq_some_iff.1 hc
          have he1 : encByte.sz = 1 := rfl
          have he2 : encByte.cells x = [.int .u8 x] := rfl
          rw [he1, he2, Nat.mul_one]
          unfold takeC
          rw [if_pos (by simp only [Array.length_toList]; omega)]
          have hd : arr.toList.drop (o + k) = arr.toList[o + k]'(by simpa using hlt) :: arr.toList.drop (o + k + 1) := List.drop_eq_getElem_cons (by simpa using hlt)
          rw [hd, List.take_succ_cons, List.take_zero, hx, ← he]; rfl
        | _ => unfold Go.World.cell? at h0; rw [hb] at h0; cases h0
    · have := hwz x (List.mem_of_mem_take hx)
      simp only [Lit.wf, Bool.and_eq_true, decide_eq_true_eq] at this
      exact this
end Go.Proofs.YtoledfhjmdpihaaGreatDoor
