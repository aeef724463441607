/- From what holds of a list of blocks to what the statements say of a call. -/
import Derived.Below
import Derived.Test.YtoledfhjmdpihaaGreatA2
set_option linter.unusedVariables false
set_option linter.unusedSimpArgs false
namespace Go.Proofs.YtoledfhjmdpihaaGreat
open Go Go.Proofs Go.Proofs.YtoledfhjmdpihaaGreat.VE

/-- All blocks of a memory. -/
def heapL (w : Go.World) : List Ent := (List.range w.heap.size).map (fun k => (k, w.heap.getD k (.cells #[] 0 (0, 0))))
theorem heapL_mem {w : Go.World} {k : Nat} {o : Obj} : (k, o) ∈ heapL w ↔ w.heap[k]? = some o := by
  unfold heapL
  rw [List.mem_map]
  constructor
  · rintro ⟨j, hj, he⟩
    have hj' := List.mem_range.1 hj
    obtain ⟨rfl, rfl⟩ := Prod.mk.inj he
    rw [Array.getD_eq_getD_getElem?, Array.getElem?_eq_getElem hj']; rfl
  · intro h
    obtain ⟨hlt, he⟩ := Array.getElem?_eq_some_iff.1 h
    refine ⟨k, List.mem_range.2 hlt, ?_⟩
    rw [Array.getD_eq_getD_getElem?, h]; rfl
theorem heapL_sat (w : Go.World) : Sat w (heapL w) w := by
  refine ⟨rfl, rfl, rfl, Nat.le_refl _, ?_, fun e he => heapL_mem.1 he⟩
  have h : (heapL w).map Prod.fst = List.range w.heap.size := by
    unfold heapL; rw [List.map_map]; exact List.map_id' _
  rw [h]; exact List.nodup_range
theorem below_of {w w' : Go.World} (h : Sat w (heapL w) w') : Go.RowKit.Below w.heap.size w w' := by
  refine ⟨h.os, h.tape, h.output, h.size, fun k hk => ?_⟩
  have h1 : w.heap[k]? = some w.heap[k] := Array.getElem?_eq_getElem hk
  rw [h1]
  exact h.has (k, w.heap[k]) (heapL_mem.2 h1)
theorem walk_of {P : Program} {f : FuncId} {args : List Value} {w : Go.World} (h : RO P f args (heapL w) (B true)) : Calls P f args.toArray w fun e w' => e = .returned (.bool true) ∧ Go.RowKit.Below w.heap.size w w' :=
  (h.calls w w (heapL_sat w)).mono fun _ _ ⟨_, _, he, hs, hv, hl⟩ => ⟨by rw [he, hv], below_of (hl ▸ hs)⟩
/-- Bytes that came in. -/
structure BytesIn (L : List Ent) (a : Option Addr) (n c : Nat) (bs : List Int) : Prop where
  top : n ≤ 9223372036854775807
  at_ : n ≤ 1048576 → SliceAt L encByte ⟨a, n, c⟩ bs
  byte : ∀ x ∈ bs, 0 ≤ x ∧ x ≤ 255
theorem bytes_at {w : Go.World} {a : Option Addr} {len cap : Nat} {zs : List Int} (h : (a = none ∧ len = 0 ∧ cap = 0 ∧ zs = []) ∨
    ∃ x, a = some x ∧ len ≤ cap ∧ cap ≤ maxLen ∧ zs.length = cap ∧ (∀ i, i < zs.length → w.cell? (x.add i) = some (.int .u8 (zs.getD i 0))) ∧ ∀ n ∈ zs, (Lit.int .u8 n).wf = true) :
    BytesIn (heapL w) a len cap (zs.take len) := by
  rcases h with ⟨rfl, rfl, rfl, rfl⟩ | ⟨⟨b, o, sp⟩, rfl, hl, hm, hz, hcell, hwz⟩
  · exact ⟨by omega, fun _ => SliceAt.nil, fun x hx => by simp at hx⟩
  · simp only [maxLen] at hm
    refine ⟨by omega, fun hlen => ?_, fun x hx => ?_⟩
    · have htl : (zs.take len).length = len := by rw [List.length_take]; omega
      refine ⟨htl.symm, by rw [htl]; exact hl, by rw [htl]; simp only [big]; omega, fun hp => ?_⟩
      rw [htl] at hp
      have h0 := hcell 0 (by omega)
      have hadd0 : Addr.add ⟨b, o, sp⟩ 0 = ⟨b, o, sp⟩ := rfl
      rw [hadd0] at h0
      have hsp : sp = none := by
        unfold Go.World.cell? at h0
        split at h0
        · cases sp with
          | none => rfl
          | some s => simp at h0
        · cases h0
      subst hsp
      have hadd : ∀ i, Addr.add ⟨b, o, none⟩ i = ⟨b, o + i, none⟩ := fun i => by
        unfold Addr.add; split
        · next hi => subst hi; rfl
        · rfl
      cases hb : w.heap[b]? with
      | none => unfold Go.World.cell? at h0; rw [hb] at h0; cases h0
      | some ob =>
        cases ob with
        | cells arr T fr =>
          refine ⟨b, o, arr.toList, T, fr, rfl, heapL_mem.2 (by rw [hb]), fun k x hk => ?_⟩
          have hk2 : k < len := by have := (List.getElem?_eq_some_iff.1 hk).1; omega
          have hx : x = zs.getD k 0 := by
            rw [List.getElem?_take_of_lt hk2] at hk
            rw [List.getD_eq_getElem?_getD, hk]; rfl
          have hc := hcell k (by omega)
          rw [hadd] at hc
          unfold Go.World.cell? at hc
          rw [hb] at hc
          replace hc : arr[o + k]? = some (.int .u8 (zs.getD k 0)) := by simpa using hc
          obtain ⟨hlt, he⟩ := Array.getElem?_eq_some_iff.1 hc
          have he1 : encByte.sz = 1 := rfl
          have he2 : encByte.cells x = [.int .u8 x] := rfl
          rw [he1, he2, Nat.mul_one]
          unfold takeC
          rw [if_pos (by simp only [Array.length_toList]; omega)]
          have hd : arr.toList.drop (o + k) = arr.toList[o + k]'(by simpa using hlt) :: arr.toList.drop (o + k + 1) := List.drop_eq_getElem_cons (by simpa using hlt)
          rw [hd, List.take_succ_cons, List.take_zero, hx, ← he]; rfl
        | _ => unfold Go.World.cell? at h0; rw [hb] at h0; cases h0
    · have := hwz x (List.mem_of_mem_take hx)
      simp only [Lit.wf, Bool.and_eq_true, decide_eq_true_eq] at this
      exact this
end Go.Proofs.YtoledfhjmdpihaaGreat
