/- The library's functions on texts, as the walks want them: numbers in decimals, texts joined, split and cut, a builder of a text. -/
import Derived.Lib.AppendIntMem
import Derived.Lib.SmallJoins
import Derived.Test.YtoledfhjmdpihaaGreatDoorX1
import Derived.Test.YtoledfhjmdpihaaGreatDoorA21
import Derived.Test.YtoledfhjmdpihaaGreatDoorA22
import Derived.Test.YtoledfhjmdpihaaGreatDoorA2
set_option linter.unusedVariables false
set_option linter.unusedSectionVars false
set_option linter.unusedSimpArgs false
namespace Go.Proofs.YtoledfhjmdpihaaGreatDoor
open Go Go.Proofs Go.Proofs.YtoledfhjmdpihaaGreatDoor.VE
attribute [local irreducible] Val Op1 WO WR WA WC seqQ blockQ loopQ retQ
set_option maxHeartbeats 4000000
/-- What the walks are told of package-level variables of the library: one holds some number, one the powers of ten. -/
structure Glob (L : List Ent) : Prop where
  max : ∃ m, GlobQ (fun w => w.cell? ⟨Tryz.lays145_ren.g 1, 0, none⟩ = some (.int .i64 m)) L
  tab : GlobQ (fun w => Lib.TabIs Tryz.prog w "internal/strconv.uint64pow10" .u64 Lib.pow10Tab) L
theorem Glob.mono {L M : List Ent} (h : Glob L) (hs : ∀ e ∈ L, e ∈ M) : Glob M :=
  ⟨let ⟨m, hm⟩ := h.max; ⟨m, hm.mono hs⟩, h.tab.mono hs⟩
theorem c_itoa {L : List Ent} (n : Int) (h0 : 0 ≤ n) (h1 : n ≤ 9223372036854775807) (hG : Glob L) : RO Tryz.prog 36 [I n] L (St (dec n)) :=
  RO.lib (enters_of Tryz.func36 rfl rfl) fun g w hs => by
    rw [dec_itoa h0 h1]
    refine (Tryz.strconv_Itoa n (by omega) h1 w (hG.tab.sat hs)).mono ?_
    rintro e w' ⟨rfl, k, os, rfl⟩
    exact ⟨rfl, Go.Lib.below_grow _ w (Nat.le_refl _) k os⟩
theorem c_join {L : List Ent} (s : Sl) (ws : List Str) (sep : Str) (h : SliceAt L encTx s ws) (hl : (Lib.join ws sep).length ≤ big) : RO Tryz.prog 94 [s.v, St sep] L (St (Lib.join ws sep)) :=
  RO.lib (enters_of Tryz.func94 rfl rfl) fun g w hs => by
    obtain ⟨a, n, c⟩ := s
    have hn : n = ws.length := h.1
    subst hn
    by_cases hp : 0 < ws.length
    · obtain ⟨b, o, cx, T, fr, ha, hm, hr⟩ := h.2.2.2 hp
      replace ha : a = _ := ha
      subst ha
      have hws : (ws.map (fun w => (⟨w.toArray⟩ : ByteArray))).map (·.data.toList) = ws := by
        rw [List.map_map]
        conv => rhs; rw [← List.map_id ws]
        apply List.map_congr_left
        intro x _; rfl
      have hj := Tryz.strings_Join b o c (ws.map (fun w => (⟨w.toArray⟩ : ByteArray))) ⟨sep.toArray⟩ w (fun j x hx => by
        rw [List.getElem?_map] at hx
        obtain ⟨y, hy, rfl⟩ := Option.map_eq_some_iff.1 hx
        have h2 := takeC_get (k := 0) (hr j y hy) (v := St y) rfl
        have h3 : encTx.sz = 1 := rfl
        have h4 := hs.Has.cell hm (o + j * encTx.sz + 0)
        rw [h3] at h2 h4
        simp only [Nat.mul_one, Nat.add_zero] at h2 h4
        rw [h4]; simpa using h2) (hs.lt hm) (by rw [List.length_map]; exact h.2.2.1) (by rw [List.length_map]; exact h.2.1) (by rw [hws]; exact hl)
      rw [hws, List.length_map] at hj
      exact hj
    · have h0 : ws = [] := List.eq_nil_of_length_eq_zero (by omega)
      subst h0
      refine (Tryz.strings_Join_none a c ⟨sep.toArray⟩ w).mono ?_
      rintro e w' ⟨rfl, rfl⟩
      exact ⟨rfl, RowKit.Below.refl _ _⟩
theorem c_cutHit {L : List Ent} (a : UInt8) (u r : Str) (ha : a ∉ u) (hl : (u ++ a :: r).length < 4294967281) (hG : Glob L) : RO Tryz.prog 33 [St (u ++ a :: r), St [a]] L (.tuple [St u, St r, B true].toArray) :=
  RO.lib (enters_of Tryz.func33 rfl rfl) fun g w hs => by
    obtain ⟨m, hm⟩ := hG.max
    have hc : Lib.cut (u ++ a :: r) [a] = (u, r, true) := by
      unfold Lib.cut
      rw [index_one_app r ha, if_pos (by omega)]
      simp
    refine (Tryz.strings_Cut ⟨(u ++ a :: r).toArray⟩ ⟨#[a]⟩ m w (by simpa [ByteArray.size] using hl) (hm.sat hs)).mono ?_
    rintro e w' ⟨rfl, n, rfl⟩
    rw [show (⟨(u ++ a :: r).toArray⟩ : ByteArray).data.toList = u ++ a :: r from rfl, show (⟨#[a]⟩ : ByteArray).data.toList = [a] from rfl, hc]
    exact ⟨rfl, ⟨rfl, rfl, rfl, Nat.le_refl _, fun _ _ => rfl⟩⟩
theorem c_cutMiss {L : List Ent} (a : UInt8) (u : Str) (ha : a ∉ u) (hl : u.length < 4294967281) (hG : Glob L) : RO Tryz.prog 33 [St u, St [a]] L (.tuple [St u, St [], B false].toArray) :=
  RO.lib (enters_of Tryz.func33 rfl rfl) fun g w hs => by
    obtain ⟨m, hm⟩ := hG.max
    have hc : Lib.cut u [a] = (u, [], false) := by
      unfold Lib.cut
      rw [index_one_none ha, if_neg (by omega)]
    refine (Tryz.strings_Cut ⟨u.toArray⟩ ⟨#[a]⟩ m w (by simpa [ByteArray.size] using hl) (hm.sat hs)).mono ?_
    rintro e w' ⟨rfl, n, rfl⟩
    rw [show (⟨u.toArray⟩ : ByteArray).data.toList = u from rfl, show (⟨#[a]⟩ : ByteArray).data.toList = [a] from rfl, hc]
    exact ⟨rfl, ⟨rfl, rfl, rfl, Nat.le_refl _, fun _ _ => rfl⟩⟩
theorem c_split {L : List Ent} (a : UInt8) (s : Str) (hl : s.length < 4294967281) (hG : Glob L) : Tri Tryz.prog 19 [St s, St [a]] L (fun v L' => ∃ b, v = .slice (some ⟨b, 0, none⟩) (cutAt a s).length (cutAt a s).length ∧ L' = (b, cellsO ((cutAt a s).map St) 9) :: L) :=
  ⟨enters_of Tryz.func19 rfl rfl, fun g w hs => by
    obtain ⟨m, hm⟩ := hG.max
    refine (Tryz.strings_Split ⟨s.toArray⟩ ⟨#[a]⟩ m w (by simpa [ByteArray.size] using hl) (hm.sat hs) (Nat.le_refl 1)).mono ?_
    rintro e w' ⟨rfl, rfl⟩
    rw [splitB_cut, countB_cut, List.map_map]
    exact ⟨_, _, rfl, hs.new _, _, rfl, rfl⟩⟩
theorem c_copyCheck {L : List Ent} (b : Nat) (p u : Value) (hp : p = .pointer none ∨ p = .pointer (some ⟨b, 0, none⟩)) : Tri Tryz.prog 64 [.pointer (some ⟨b, 0, none⟩)] ((b, cellsO [p, u] 67) :: L) (fun v L' => v = .tuple #[] ∧ L' = (b, cellsO [.pointer (some ⟨b, 0, none⟩), u] 67) :: L) :=
  ⟨enters_of Tryz.func64 rfl rfl, fun g w hs => by
    have hh : w.heap[b]? = some (cellsO [p, u] 67) := hs.has (b, cellsO [p, u] 67) List.mem_cons_self
    rcases hp with rfl | rfl
    · refine (Any.Builder_copyCheck_fresh { Tryz.lays156 with } Tryz.Builder_Extra_156.toX72 b w (by simp [Go.World.cell?, hh]) (by simp [Go.World.shape?, hh]; rfl) (by simp [Go.World.frozen?, hh])).mono ?_
      rintro e w' ⟨rfl, rfl⟩
      refine ⟨_, _, rfl, hs.set (o' := cellsO [.pointer (some ⟨b, 0, none⟩), u] 67) rfl rfl rfl ?_ ?_ ?_, rfl, rfl⟩
      · simp [Go.World.setCell]
      · unfold Go.World.setCell
        simp only [Array.getElem?_modify, if_true, hh, Option.map_some]
        rfl
      · intro k hk
        unfold Go.World.setCell
        simp only [Array.getElem?_modify]
        rw [if_neg (Ne.symm hk)]
    · refine (Any.Builder_copyCheck_used { Tryz.lays156 with } Tryz.Builder_Extra_156.toX72 b w (by simp [Go.World.cell?, hh])).mono ?_
      rintro e w' ⟨rfl, rfl⟩
      exact ⟨_, _, rfl, hs, rfl, rfl⟩⟩
end Go.Proofs.YtoledfhjmdpihaaGreatDoor
/- Numbers in decimals; texts of seals. -/
set_option linter.unusedVariables false
set_option linter.unusedSectionVars false
set_option linter.unusedSimpArgs false
namespace Go.Proofs.YtoledfhjmdpihaaGreatDoor
open Go Go.Proofs Go.Proofs.YtoledfhjmdpihaaGreatDoor.VE
attribute [local irreducible] Val Op1 WO WR WA WC seqQ blockQ loopQ retQ
noncomputable def o40x7T1 : Array Oper := cops (cl (cr (cr (cr (cr (codeOf Tryz.f40))))))
noncomputable def o43x3T1 : Array Oper := cops (cl (cr (cr (codeOf Tryz.f43))))
noncomputable def o52x3T1 : Array Oper := cops (cl (cr (cr (codeOf Tryz.f52))))
noncomputable def r40x7T1 : Run := (.st 0 0 (.st 1 0 (.st 3 0 (.st 4 0 (.st 5 0 (.st 6 0 (.alt (.st 2 3 (.st 7 3 (.st 8 3 (.st 9 0 (.st 10 0 .done))))) (.st 7 3 (.alt (.st 2 3 (.st 8 3 (.st 9 0 (.st 10 0 .done)))) (.st 8 3 (.st 2 3 (.st 9 0 (.st 10 0 .done)))))))))))))
noncomputable def r43x3T1 : Run := (.st 1 0 (.st 2 1 (.st 6 0 (.st 7 1 (.st 11 0 (.st 12 1 (.st 16 0 (.st 17 1 (.st 21 0 (.st 22 1 (.st 26 0 (.st 27 1 (.st 31 0 (.st 32 1 (.st 0 2 (.st 3 0 (.alt (.st 4 2 (.st 5 0 (.st 8 2 (.st 9 0 (.st 10 0 (.st 13 2 (.st 14 0 (.st 15 0 (.st 18 2 (.st 19 0 (.st 20 0 (.st 23 2 (.st 24 0 (.st 25 0 (.st 28 2 (.st 29 0 (.st 30 0 (.st 33 3 (.st 34 0 (.st 35 0 .done)))))))))))))))))))) (.st 8 2 (.alt (.st 4 2 (.st 5 0 (.st 9 0 (.st 10 0 (.st 13 2 (.st 14 0 (.st 15 0 (.st 18 2 (.st 19 0 (.st 20 0 (.st 23 2 (.st 24 0 (.st 25 0 (.st 28 2 (.st 29 0 (.st 30 0 (.st 33 3 (.st 34 0 (.st 35 0 .done))))))))))))))))))) (.st 13 2 (.alt (.st 4 2 (.st 5 0 (.st 9 0 (.st 10 0 (.st 14 0 (.st 15 0 (.st 18 2 (.st 19 0 (.st 20 0 (.st 23 2 (.st 24 0 (.st 25 0 (.st 28 2 (.st 29 0 (.st 30 0 (.st 33 3 (.st 34 0 (.st 35 0 .done)))))))))))))))))) (.st 18 2 (.alt (.st 4 2 (.st 5 0 (.st 9 0 (.st 10 0 (.st 14 0 (.st 15 0 (.st 19 0 (.st 20 0 (.st 23 2 (.st 24 0 (.st 25 0 (.st 28 2 (.st 29 0 (.st 30 0 (.st 33 3 (.st 34 0 (.st 35 0 .done))))))))))))))))) (.st 23 2 (.alt (.st 4 2 (.st 5 0 (.st 9 0 (.st 10 0 (.st 14 0 (.st 15 0 (.st 19 0 (.st 20 0 (.st 24 0 (.st 25 0 (.st 28 2 (.st 29 0 (.st 30 0 (.st 33 3 (.st 34 0 (.st 35 0 .done)))))))))))))))) (.st 28 2 (.alt (.st 4 2 (.st 5 0 (.st 9 0 (.st 10 0 (.st 14 0 (.st 15 0 (.st 19 0 (.st 20 0 (.st 24 0 (.st 25 0 (.st 29 0 (.st 30 0 (.st 33 3 (.st 34 0 (.st 35 0 .done))))))))))))))) (.st 33 2 (.st 4 3 (.st 5 0 (.st 9 0 (.st 10 0 (.st 14 0 (.st 15 0 (.st 19 0 (.st 20 0 (.st 24 0 (.st 25 0 (.st 29 0 (.st 30 0 (.st 34 0 (.st 35 0 .done))))))))))))))))))))))))))))))))))))))))))
noncomputable def r52x3T1 : Run := (.st 1 0 (.st 2 1 (.st 5 0 (.st 6 1 (.st 7 0 (.st 8 1 (.st 9 0 (.st 10 1 (.st 11 0 (.st 12 1 (.st 13 0 (.st 14 1 (.st 15 0 (.st 16 1 (.alt (.st 0 2 (.st 3 0 (.st 4 0 (.st 17 2 (.st 18 2 (.st 19 0 (.st 20 0 .done))))))) (.st 17 2 (.st 0 2 (.st 3 0 (.st 4 0 (.st 18 2 (.st 19 0 (.st 20 0 .done))))))))))))))))))))))
set_option maxHeartbeats 8000000
theorem decs_cons {n : Int} {r : List Int} (h : r ≠ []) : decs (n :: r) = dec n ++ 32 :: decs r := by
  cases r with
  | nil => exact absurd rfl h
  | cons m r => rfl
theorem join_decs : ∀ ns : List Int, Lib.join (ns.map dec) [32] = decs ns
  | [] => rfl
  | [n] => by simp [Lib.join_one, decs]
  | n :: m :: r => by
    have ih := join_decs (m :: r)
    simp only [List.map_cons] at ih ⊢
    rw [decs, ← ih, Lib.join_cons, Lib.join_cons]
    simp [Lib.joinTail]
theorem decs_len : ∀ ns : List Int, (decs ns).length ≤ 21 * ns.length
  | [] => Nat.le_refl _
  | [n] => by have := dec_len n; simp [decs]; omega
  | n :: m :: r => by
    have h1 := dec_len n
    have h2 := decs_len (m :: r)
    simp only [decs, List.length_append, List.length_cons] at *
    omega
theorem c_numbers {L : List Ent} (s : Sl) (ns : List Int) (h : SliceAt L encInt s ns) (hr : ∀ n ∈ ns, 0 ≤ n ∧ n ≤ 1000000) (hlen : ns.length ≤ 10) (hG : Glob L) : RO Tryz.prog 56 [s.v] L (St (decs ns)) := by
  obtain ⟨a, n, c⟩ := s
  have hn : n = ns.length := h.1
  subst hn
  have hat := h.2.2.2
  refine Tri.of Tryz.func56 rfl rfl Tryz.ntmps56 rfl rfl ?_
  (repeat' (first | refine nI ?_ | (refine nA ?_; intro _) | (refine nW ?_; first | (refine op_makeSlice (l := 0) (c := ns.length) (e := 9) rfl rfl rfl rfl rfl rfl (Nat.ble_eq_true_of_le (by omega)) (Nat.ble_eq_true_of_le (by omega)) (Nat.ble_eq_true_of_le (by omega)) rfl ?_; intro _)) | refine nY ?_ | refine nR ?_ | refine WC_cond rfl (fun hc => ?_) (fun hc => ?_)))
  rename_i b8
  refine WC_loop (fun mz Ez Mz => ∃ (k : Nat) (a2 : Option Addr) (n2 c2 : Nat) (eo : List Ent), k + mz = (ns).length ∧ Ez = [(3, .slice a2 n2 c2), (9, .slice a ns.length c), (10, I ns.length), (11, I k)] ∧ Mz = eo ++ L ∧ (Row encTx 9 ⟨a2, n2, c2⟩ ((ns.take k).map dec) eo)) (ns).length (by exact kQ) (by exact kL) ⟨0, some ⟨b8, 0, none⟩, 0, ns.length, [(b8, cellsO (zerosOf [.string ⟨#[]⟩] ns.length) 9)], by omega, rfl, rfl, by exact Row.made (E := encTx) rfl (by omega)⟩ ?_
  rintro mz Ez Mz ⟨k, a2, n2, c2, eo, hk, rfl, rfl, hin⟩
  rcases Nat.lt_or_ge k (ns).length with hlt | hge
  · obtain ⟨y, hy⟩ : ∃ y, (ns)[k]? = some y := ⟨(ns)[k], by simp [hlt]⟩; obtain ⟨b', o, cs, T, fr, rfl, hm, hrow⟩ := hat (by omega); have hrow' := hrow k y hy; have htk := take_next hy
    have hb := hr y (List.mem_of_getElem? hy)
    (repeat' (first | refine nI ?_ | (refine nA ?_; intro _) | (refine nW ?_; first | (refine op_call_id ?_; refine op_ro rfl rfl (by exact c_itoa y hb.1 (by omega) (hG.mono (by exact kS))) ?_) | (refine go_append ?_; refine op_appendRow (sl := ⟨_, _, _⟩) (sx := ⟨_, _, _⟩) rfl rfl rfl rfl rfl rfl rfl rfl rfl (hin) (by exact kE) (SliceAt.one (x := dec y) (by exact kM) rfl) (by (simp only [List.length_map, List.length_take, List.length_cons, List.length_nil, lim]; omega)) ?_; intro sl' es' hrow' hst')) | refine nY ?_ | refine nR ?_ | refine WC_cond rfl (fun hc => ?_) (fun hc => ?_)))
    obtain ⟨a9, n9, c9⟩ := sl'
    exact loopQ_next ⟨mz - 1, _, _, by omega, by exact kQ, by exact kL, k + 1, a9, n9, c9, es', by omega, rfl, rfl, by (rw [htk, List.map_append]; exact hrow')⟩
  · rw [take_all hge] at hin
    have hl : (Lib.join (ns.map dec) [32]).length ≤ big := by
      rw [join_decs]
      have := decs_len ns
      simp only [big]; omega
    (repeat' (first | refine nI ?_ | (refine nA ?_; intro _) | (refine nW ?_; first | (refine op_call_id ?_; refine op_ro rfl rfl (by exact (c_join ⟨a2, n2, c2⟩ (ns.map dec) [32] (hin.atL (by exact kS)) hl).eq (congrArg St (join_decs ns))) ?_)) | refine nY ?_ | refine nR ?_ | refine WC_cond rfl (fun hc => ?_) (fun hc => ?_)))
    refine ro_ret (by exact kR) (by exact kL) ?_; rfl
theorem c_sealWords {L : List Ent} : RO Tryz.prog 50 [] L (.agg [St [], St [116, 105, 99, 107, 101, 116], St [112, 97, 114, 116], St [97, 117, 116, 104], St [98, 97, 99, 107]].toArray) := by
  refine Tri.of Tryz.func50 rfl rfl Tryz.ntmps50 rfl rfl ?_
  (repeat' (first | refine nI ?_ | (refine nA ?_; intro _) | (refine nW ?_; first | refine op_val rfl (by exact kStr) ?_) | refine nY ?_ | refine nR ?_ | refine WC_cond rfl (fun hc => ?_) (fun hc => ?_)))
  refine ro_ret (by exact kR) (by exact kL) ?_; rfl
theorem sealOk_kind {s : Seal} (h : sealOk s = true) : s.kind = 1 ∨ s.kind = 2 ∨ s.kind = 3 ∨ s.kind = 4 := by
  unfold sealOk at h
  split at h
  · exact .inl ‹_›
  · split at h
    · exact .inr (.inl ‹_›)
    · split at h
      · exact .inr (.inr (.inl ‹_›))
      · split at h
        · exact .inr (.inr (.inr ‹_›))
        · cases h
theorem sealOk_range {s : Seal} (h : sealOk s = true) : ∀ n ∈ [s.key, s.a, s.b, s.c, s.d, s.e], 0 ≤ n ∧ n ≤ 1000000 := by
  rcases sealOk_kind h with k | k | k | k <;> simp [sealOk, k, within] at h <;> (intro n hn; simp at hn; omega)
theorem word_at (k : Int) (h : k = 1 ∨ k = 2 ∨ k = 3 ∨ k = 4) : [St [], St [116, 105, 99, 107, 101, 116], St [112, 97, 114, 116], St [97, 117, 116, 104], St [98, 97, 99, 107]][k.toNat]? = some (St (kindName k)) := by
  rcases h with rfl | rfl | rfl | rfl <;> rfl
theorem kindName_len (k : Int) : (kindName k).length ≤ 6 := by
  unfold kindName
  split
  · simp
  · split
    · simp
    · split
      · simp
      · split <;> simp
theorem sealText_len (s : Seal) : (sealText s).length ≤ 140 := by
  unfold sealText
  split
  · have h1 := kindName_len s.kind
    have h2 := decs_len [s.key, s.a, s.b, s.c, s.d, s.e]
    simp only [List.length_append, List.length_cons, List.length_nil] at *; omega
  · simp
theorem c_sealText {L : List Ent} (s : Seal) (hG : Glob L) : RO Tryz.prog 52 [sealV s] L (St (sealText s)) := by
  cases hk : sealOk s with
  | false =>
    refine Tri.of Tryz.func52 rfl rfl Tryz.ntmps52 rfl rfl ?_
    (repeat' (first | refine nI ?_ | (refine nA ?_; intro _) | (refine nW ?_; first | (refine op_call_id ?_; refine op_ro rfl rfl (by exact (c_sealOk s).eq (congrArg B hk)) ?_)) | refine nY ?_ | refine WA_alt ?_ ?_ | refine nR ?_ | refine WC_drawL (id := 3) (ops := o52x3T1) r52x3T1 (by kernel_rfl) rfl ?_ | refine WC_cond rfl (fun hc => ?_) (fun hc => ?_)))
    refine ro_ret (by exact kR) (by exact kL) ?_; simp [packR, sealText, hk]
  | true =>
    have hkd := sealOk_kind hk
    have hrg := sealOk_range hk
    have h1 := kindName_len s.kind
    have h2 := decs_len [s.key, s.a, s.b, s.c, s.d, s.e]
    simp only [List.length_cons, List.length_nil] at h2
    refine Tri.of Tryz.func52 rfl rfl Tryz.ntmps52 rfl rfl ?_
    (repeat' (first | refine nI ?_ | (refine nA ?_; intro _) | (refine nW ?_; first | (refine op_call_id ?_; refine op_ro rfl rfl (by first | exact (c_sealOk s).eq (congrArg B hk) | exact c_sealWords | exact c_numbers ⟨_, _, _⟩ [s.key, s.a, s.b, s.c, s.d, s.e] (SliceAt.lit [s.key, s.a, s.b, s.c, s.d, s.e] (by exact kM) rfl (by simp [big])) hrg (by simp) (hG.mono (by exact kS))) ?_) | refine op_val rfl (by first | exact val_indexA rfl rfl rfl rfl rfl (by omega) (by omega) (word_at _ hkd) | exact kStr) ?_) | (refine WR_id ?_; refine WR_pure rfl rfl rfl (by first | exact val_indexA rfl rfl rfl rfl rfl (by omega) (by omega) (word_at _ hkd) | exact kStr) ?_) | refine nY ?_ | refine WA_alt ?_ ?_ | refine nR ?_ | refine WC_drawL (id := 3) (ops := o52x3T1) r52x3T1 (by kernel_rfl) rfl ?_ | refine WC_cond rfl (fun hc => ?_) (fun hc => ?_)))
    all_goals (refine ro_ret (by exact kR) (by exact kL) ?_; simp [packR, sealText, hk])
/-! ### The reference -/
theorem u8_dec {n : Int} (h0 : 0 ≤ n) (h1 : n < 10) : IntKind.u8.wrap (48 + n) = (((UInt8.ofNat (48 + n.toNat)).toNat : Nat) : Int) := by
  rw [IntKind.wrap_u8]
  simp
  omega
theorem dec_at (m : Nat) : ∀ n : Int, n.toNat ≤ m → 0 ≤ n → n ≤ 1000000 → ∀ L : List Ent, RO Tryz.prog 40 [I n] L (St (dec n)) := by
  induction m with
  | zero =>
    intro n hm h0 h1 L
    have h2 : n < 10 := by omega
    have hd := dec_small h0 h2
    have hu := u8_dec h0 h2
    refine Tri.of Tryz.func40 rfl rfl Tryz.ntmps40 rfl rfl ?_
    (repeat' (first | refine nI ?_ | (refine nA ?_; intro _) | (refine nW ?_; first | refine op_val rfl (by first | exact val_toByte rfl rfl rfl hu | exact val_bytesLit [UInt8.ofNat (48 + n.toNat)] rfl rfl rfl rfl (by exact kM) | exact kStr) ?_) | (refine WR_id ?_; refine WR_pure rfl rfl rfl (by first | exact val_toByte rfl rfl rfl hu | exact val_bytesLit [UInt8.ofNat (48 + n.toNat)] rfl rfl rfl rfl (by exact kM) | exact kStr) ?_) | refine nY ?_ | refine WA_alt ?_ ?_ | refine nR ?_ | refine WC_drawL (id := 7) (ops := o40x7T1) r40x7T1 (by kernel_rfl) rfl ?_ | refine WC_cond rfl (fun hc => ?_) (fun hc => ?_)))
    refine ro_ret (by exact kR) (by exact kL) ?_; rw [hd]; rfl
  | succ m ih =>
    intro n hm h0 h1 L
    by_cases h2 : n < 10
    · have hd := dec_small h0 h2
      have hu := u8_dec h0 h2
      refine Tri.of Tryz.func40 rfl rfl Tryz.ntmps40 rfl rfl ?_
      (repeat' (first | refine nI ?_ | (refine nA ?_; intro _) | (refine nW ?_; first | refine op_val rfl (by first | exact val_toByte rfl rfl rfl hu | exact val_bytesLit [UInt8.ofNat (48 + n.toNat)] rfl rfl rfl rfl (by exact kM) | exact kStr) ?_) | (refine WR_id ?_; refine WR_pure rfl rfl rfl (by first | exact val_toByte rfl rfl rfl hu | exact val_bytesLit [UInt8.ofNat (48 + n.toNat)] rfl rfl rfl rfl (by exact kM) | exact kStr) ?_) | refine nY ?_ | refine WA_alt ?_ ?_ | refine nR ?_ | refine WC_drawL (id := 7) (ops := o40x7T1) r40x7T1 (by kernel_rfl) rfl ?_ | refine WC_cond rfl (fun hc => ?_) (fun hc => ?_)))
      refine ro_ret (by exact kR) (by exact kL) ?_; rw [hd]; rfl
    · have hd := dec_big (n := n) (by omega) (by omega)
      have hu := u8_dec (n := n % 10) (by omega) (by omega)
      have hl := dec_len (n / 10)
      obtain ⟨q, hq⟩ : ∃ q, n / 10 = q := ⟨_, rfl⟩
      obtain ⟨r, hr⟩ : ∃ r, n % 10 = r := ⟨_, rfl⟩
      rw [hq] at hl
      rw [hq, hr] at hd
      rw [hr] at hu
      refine Tri.of Tryz.func40 rfl rfl Tryz.ntmps40 rfl rfl ?_
      (repeat' (first | refine nI ?_ | (refine nA ?_; intro _) | (refine nW ?_; first | (refine op_call_id ?_; refine op_ro rfl rfl (by exact ih q (by omega) (by omega) (by omega) _) ?_) | refine op_val rfl (by first | exact val_quoE rfl rfl (by omega) (by omega) (by omega) hq | exact val_remE rfl rfl (by omega) (by omega) hr | exact val_toByte rfl rfl rfl hu | exact val_bytesLit [UInt8.ofNat (48 + r.toNat)] rfl rfl rfl rfl (by exact kM) | exact kStr) ?_) | (refine WR_id ?_; refine WR_pure rfl rfl rfl (by first | exact val_quoE rfl rfl (by omega) (by omega) (by omega) hq | exact val_remE rfl rfl (by omega) (by omega) hr | exact val_toByte rfl rfl rfl hu | exact val_bytesLit [UInt8.ofNat (48 + r.toNat)] rfl rfl rfl rfl (by exact kM) | exact kStr) ?_) | refine nY ?_ | refine WA_alt ?_ ?_ | refine nR ?_ | refine WC_drawL (id := 7) (ops := o40x7T1) r40x7T1 (by kernel_rfl) rfl ?_ | refine WC_cond rfl (fun hc => ?_) (fun hc => ?_)))
      all_goals (refine ro_ret (by exact kR) (by exact kL) ?_; rw [hd]; rfl)
theorem c_l6Dec {L : List Ent} (n : Int) (h0 : 0 ≤ n) (h1 : n ≤ 1000000) : RO Tryz.prog 40 [I n] L (St (dec n)) := dec_at n.toNat n (Nat.le_refl _) h0 h1 L
theorem c_l1Names {L : List Ent} : Tri Tryz.prog 42 [] L (fun v L' => ∃ b, v = .slice (some ⟨b, 0, none⟩) 5 5 ∧ L' = (b, cellsO [St [], St [116, 105, 99, 107, 101, 116], St [112, 97, 114, 116], St [97, 117, 116, 104], St [98, 97, 99, 107]] 9) :: L) := by
  refine Tri.of Tryz.func42 rfl rfl Tryz.ntmps42 rfl rfl ?_
  (repeat' (first | refine nI ?_ | (refine nA ?_; intro _) | (refine nW ?_; first | refine op_val rfl (by exact kStr) ?_) | refine nY ?_ | refine nR ?_ | refine WC_cond rfl (fun hc => ?_) (fun hc => ?_)))
  rename_i b0
  refine ret_ret (by exact kR) ?_; exact ⟨_, SubP.refl _, _, rfl, rfl⟩
theorem wordAt {k : Int} (h : k = 1 ∨ k = 2 ∨ k = 3 ∨ k = 4) : [St [], St [116, 105, 99, 107, 101, 116], St [112, 97, 114, 116], St [97, 117, 116, 104], St [98, 97, 99, 107]][0 + k.toNat * 1]? = some (St (kindName k)) := by
  rcases h with rfl | rfl | rfl | rfl <;> rfl
theorem c_sSealText {L : List Ent} (s : Seal) : RO Tryz.prog 43 [sealV s] L (St (sealText s)) := by
  cases hk : sealOk s with
  | false =>
    refine Tri.of Tryz.func43 rfl rfl Tryz.ntmps43 rfl rfl ?_
    (repeat' (first | refine nI ?_ | (refine nA ?_; intro _) | (refine nW ?_; first | (refine op_call_id ?_; refine op_ro rfl rfl (by exact (c_sSealOk s).eq (congrArg B hk)) ?_)) | refine nY ?_ | refine WA_alt ?_ ?_ | refine nR ?_ | refine WC_drawL (id := 3) (ops := o43x3T1) r43x3T1 (by kernel_rfl) rfl ?_ | refine WC_cond rfl (fun hc => ?_) (fun hc => ?_)))
    refine ro_ret (by exact kR) (by exact kL) ?_; simp [packR, sealText, hk]
  | true =>
    have hkd := sealOk_kind hk
    have hrg := sealOk_range hk
    have h1 := kindName_len s.kind
    have e1 := hrg s.key (by simp)
    have e2 := hrg s.a (by simp)
    have e3 := hrg s.b (by simp)
    have e4 := hrg s.c (by simp)
    have e5 := hrg s.d (by simp)
    have e6 := hrg s.e (by simp)
    have d1 := dec_len s.key
    have d2 := dec_len s.a
    have d3 := dec_len s.b
    have d4 := dec_len s.c
    have d5 := dec_len s.d
    have d6 := dec_len s.e
    refine Tri.of Tryz.func43 rfl rfl Tryz.ntmps43 rfl rfl ?_
    (repeat' (first | refine nI ?_ | (refine nA ?_; intro _) | (refine nW ?_; first | (refine op_call_id ?_; refine op_ro rfl rfl (by first | exact (c_sSealOk s).eq (congrArg B hk) | exact c_l6Dec s.key e1.1 e1.2 | exact c_l6Dec s.a e2.1 e2.2 | exact c_l6Dec s.b e3.1 e3.2 | exact c_l6Dec s.c e4.1 e4.2 | exact c_l6Dec s.d e5.1 e5.2 | exact c_l6Dec s.e e6.1 e6.2) ?_) | (refine op_load_id ?_; refine op_val rfl (by exact val_load1 rfl rfl rfl (by exact kM) (wordAt hkd)) ?_) | (refine op_call_id ?_; refine op_call rfl (c_l1Names) rfl ?_; rintro _ _ ⟨bn, rfl, rfl⟩) | refine op_val rfl (by exact kStr) ?_) | (refine WR_id ?_; refine WR_pure rfl rfl rfl (by exact kStr) ?_) | (refine WR_id ?_; refine WR_load rfl rfl rfl (by exact val_load1 rfl rfl rfl (by exact kM) (wordAt hkd)) (by exact kS) ?_) | refine nY ?_ | refine WA_alt ?_ ?_ | refine nR ?_ | refine WC_drawL (id := 3) (ops := o43x3T1) r43x3T1 (by kernel_rfl) rfl ?_ | refine WC_cond rfl (fun hc => ?_) (fun hc => ?_)))
    all_goals (refine ro_ret (by exact kR) (by exact kL) ?_; simp [packR, sealText, hk, decs])
end Go.Proofs.YtoledfhjmdpihaaGreatDoor
/- Texts of words. -/
set_option linter.unusedVariables false
set_option linter.unusedSectionVars false
set_option linter.unusedSimpArgs false
namespace Go.Proofs.YtoledfhjmdpihaaGreatDoor
open Go Go.Proofs Go.Proofs.YtoledfhjmdpihaaGreatDoor.VE
attribute [local irreducible] Val Op1 WO WR WA WC seqQ blockQ loopQ retQ
noncomputable def o18x3T2 : Array Oper := cops (cl (cr (cr (codeOf Tryz.f18))))
noncomputable def r18x3T2 : Run := (.st 0 0 (.st 1 1 (.st 4 0 (.st 5 1 (.st 9 0 (.st 10 1 (.st 14 0 (.st 15 1 (.st 2 2 (.st 3 0 (.st 6 2 (.st 7 0 (.st 8 0 (.st 11 2 (.st 12 0 (.st 13 0 (.st 16 3 (.st 17 0 (.st 18 0 (.st 19 0 .done))))))))))))))))))))
set_option maxHeartbeats 8000000
theorem shaped_range {m : Msg} (h : shaped m = true) : (∀ n ∈ [m.kind, m.client, m.serv, m.nonce], 0 ≤ n ∧ n ≤ 1000000) ∧ m.seals.length ≤ 2 := by
  unfold shaped at h
  split at h
  · simp [within] at h; constructor
    · intro n hn; simp at hn; omega
    · have := h.2; simp_all
  · split at h
    · simp [within] at h; constructor
      · intro n hn; simp at hn; omega
      · omega
    · split at h
      · simp [within] at h; constructor
        · intro n hn; simp at hn; omega
        · omega
      · split at h
        · simp [within] at h; constructor
          · intro n hn; simp at hn; omega
          · omega
        · split at h
          · simp [within] at h; constructor
            · intro n hn; simp at hn; omega
            · omega
          · cases h
theorem msgOk_shaped {m : Msg} (h : msgOk m = true) : shaped m = true := by
  unfold msgOk at h; simp only [Bool.and_eq_true] at h; exact h.1
abbrev sealLines (ss : List Seal) : Str := ss.flatMap (fun s => sealText s ++ [10])
theorem sealLines_len : ∀ ss : List Seal, (sealLines ss).length ≤ 141 * ss.length
  | [] => Nat.le_refl _
  | s :: r => by
    have h1 := sealText_len s
    have h2 := sealLines_len r
    simp only [sealLines, List.flatMap_cons, List.length_append, List.length_cons, List.length_nil] at *; omega
theorem sealLines_next (ss : List Seal) (s : Seal) : sealLines (ss ++ [s]) = sealLines ss ++ (sealText s ++ [10]) := by simp [sealLines]
theorem msgText_ok {m : Msg} (h : msgOk m = true) : msgText m = decs [m.kind, m.client, m.serv, m.nonce] ++ [10] ++ sealLines m.seals := by simp [msgText, h]
theorem msgText_len (m : Msg) : (msgText m).length ≤ 400 := by
  cases h : msgOk m with
  | false => simp [msgText, h]
  | true =>
    rw [msgText_ok h]
    have h1 := decs_len [m.kind, m.client, m.serv, m.nonce]
    have h2 := sealLines_len m.seals
    have h3 := (shaped_range (msgOk_shaped h)).2
    simp only [List.length_append, List.length_cons, List.length_nil] at *; omega
theorem c_msgText {L : List Ent} (m : Msg) (sm : Sl) (h : MsgAt L m sm) (hG : Glob L) : RO Tryz.prog 23 [msgV m sm] L (St (msgText m)) := by
  cases hk : msgOk m with
  | false =>
    refine Tri.of Tryz.func23 rfl rfl Tryz.ntmps23 rfl rfl ?_
    (repeat' (first | refine nI ?_ | (refine nA ?_; intro _) | (refine nW ?_; first | (refine op_call_id ?_; refine op_ro rfl rfl (by exact (c_msgOk m sm (h.mono (by exact kS))).eq (congrArg B hk)) ?_)) | refine nY ?_ | refine nR ?_ | refine WC_cond rfl (fun hc => ?_) (fun hc => ?_)))
    refine ro_ret (by exact kR) (by exact kL) ?_; simp [packR, msgText, hk]
  | true =>
    obtain ⟨hrg, hls⟩ := shaped_range (msgOk_shaped hk)
    have h2 := decs_len [m.kind, m.client, m.serv, m.nonce]
    simp only [List.length_cons, List.length_nil] at h2
    obtain ⟨a, n, c⟩ := sm
    have hn : n = m.seals.length := h.1
    subst hn
    have hat := h.2.2.2
    rw [msgText_ok hk]
    refine Tri.of Tryz.func23 rfl rfl Tryz.ntmps23 rfl rfl ?_
    (repeat' (first | refine nI ?_ | (refine nA ?_; intro _) | (refine nW ?_; first | (refine op_call_id ?_; refine op_ro rfl rfl (by first | exact (c_msgOk m ⟨a, m.seals.length, c⟩ (h.mono (by exact kS))).eq (congrArg B hk) | exact c_numbers ⟨_, _, _⟩ [m.kind, m.client, m.serv, m.nonce] (SliceAt.lit [m.kind, m.client, m.serv, m.nonce] (by exact kM) rfl (by simp [big])) hrg (by simp) (hG.mono (by exact kS))) ?_) | refine op_val rfl (by exact kStr) ?_) | refine nY ?_ | refine nR ?_ | refine WC_cond rfl (fun hc => ?_) (fun hc => ?_)))
    refine WC_loop (fun mz Ez Mz => ∃ (k : Nat) (o : Str), k + mz = (m.seals).length ∧ Ez = [(3, St o), (21, .slice a m.seals.length c), (22, I m.seals.length), (23, I k)] ∧ Mz = L ∧ (o = decs [m.kind, m.client, m.serv, m.nonce] ++ [10] ++ sealLines (m.seals.take k))) (m.seals).length (by exact kQ) (by exact kL) ⟨0, decs [m.kind, m.client, m.serv, m.nonce] ++ [10], by omega, rfl, rfl, by simp⟩ ?_
    rintro mz Ez Mz ⟨k, o, hk, rfl, rfl, hin⟩
    rcases Nat.lt_or_ge k (m.seals).length with hlt | hge
    · obtain ⟨y1, hy1⟩ : ∃ y, (m.seals)[k]? = some y := ⟨(m.seals)[k]'(by omega), by simp [hlt]⟩; obtain ⟨b'1, o1, cs1, T1, fr1, rfl, hm1, hrow1⟩ := hat (by omega); have hrow'1 := hrow1 k y1 hy1; have htk1 := take_next hy1
      have h3 := sealLines_len (m.seals.take k)
      have h4 := sealText_len y1
      rw [List.length_take] at h3
      have h5 : o.length ≤ 1000 := by rw [hin]; simp only [List.length_append, List.length_cons, List.length_nil]; omega
      (repeat' (first | refine nI ?_ | (refine nA ?_; intro _) | (refine nW ?_; first | (refine op_call_id ?_; refine op_ro rfl rfl (by exact c_sealText y1 (hG.mono (by exact kS))) ?_) | refine op_val rfl (by exact kStr) ?_) | refine nY ?_ | refine nR ?_ | refine WC_cond rfl (fun hc => ?_) (fun hc => ?_)))
      exact loopQ_next ⟨mz - 1, _, _, by omega, by exact kQ, by exact kL, k + 1, o ++ (sealText y1 ++ [10]), by omega, rfl, rfl, by (rw [htk1, sealLines_next, hin]; simp)⟩
    · rw [take_all hge] at hin
      subst hin
      (repeat' (first | refine nI ?_ | (refine nA ?_; intro _) | (refine nW ?_; first | refine op_val rfl (by exact kStr) ?_) | refine nY ?_ | refine nR ?_ | refine WC_cond rfl (fun hc => ?_) (fun hc => ?_)))
      refine ro_ret (by exact kR) (by exact kL) ?_; rfl
theorem c_sMsgText {L : List Ent} (m : Msg) (sm : Sl) (h : MsgAt L m sm) : RO Tryz.prog 18 [msgV m sm] L (St (msgText m)) := by
  cases hk : msgOk m with
  | false =>
    refine Tri.of Tryz.func18 rfl rfl Tryz.ntmps18 rfl rfl ?_
    (repeat' (first | refine nI ?_ | (refine nA ?_; intro _) | (refine nW ?_; first | (refine op_call_id ?_; refine op_ro rfl rfl (by exact (c_sMsgOk m sm (h.mono (by exact kS))).eq (congrArg B hk)) ?_)) | refine nY ?_ | refine WA_alt ?_ ?_ | refine nR ?_ | refine WC_drawL (id := 3) (ops := o18x3T2) r18x3T2 (by kernel_rfl) rfl ?_ | refine WC_cond rfl (fun hc => ?_) (fun hc => ?_)))
    refine ro_ret (by exact kR) (by exact kL) ?_; simp [packR, msgText, hk]
  | true =>
    obtain ⟨hrg, hls⟩ := shaped_range (msgOk_shaped hk)
    obtain ⟨a, n, c⟩ := sm
    have hn : n = m.seals.length := h.1
    subst hn
    have hat := h.2.2.2
    have e1 := hrg m.kind (by simp)
    have e2 := hrg m.client (by simp)
    have e3 := hrg m.serv (by simp)
    have e4 := hrg m.nonce (by simp)
    have d1 := dec_len m.kind
    have d2 := dec_len m.client
    have d3 := dec_len m.serv
    have d4 := dec_len m.nonce
    rw [msgText_ok hk]
    refine Tri.of Tryz.func18 rfl rfl Tryz.ntmps18 rfl rfl ?_
    (repeat' (first | refine nI ?_ | (refine nA ?_; intro _) | (refine nW ?_; first | (refine op_call_id ?_; refine op_ro rfl rfl (by exact (c_sMsgOk m ⟨a, m.seals.length, c⟩ (h.mono (by exact kS))).eq (congrArg B hk)) ?_)) | refine nY ?_ | refine WA_alt ?_ ?_ | refine nR ?_ | refine WC_cond rfl (fun hc => ?_) (fun hc => ?_)))
    rename_i b1
    refine WC_cut (X := Unit) (fun _ => [(1, .pointer (some ⟨b1, 0, none⟩)), (3, St (decs [m.kind, m.client, m.serv, m.nonce] ++ [10]))]) (fun _ => (b1, cellsO (msgC m ⟨a, m.seals.length, c⟩) 24) :: L) ?_ ?_
    · have hd : decs [m.kind, m.client, m.serv, m.nonce] ++ [10] = dec m.kind ++ [32] ++ dec m.client ++ [32] ++ dec m.serv ++ [32] ++ dec m.nonce ++ [10] := by simp [decs]
      rw [hd]
      (repeat' (first | refine nI ?_ | (refine nA ?_; intro _) | (refine nW ?_; first | (refine op_call_id ?_; refine op_ro rfl rfl (by first | exact c_l6Dec m.kind e1.1 e1.2 | exact c_l6Dec m.client e2.1 e2.2 | exact c_l6Dec m.serv e3.1 e3.2 | exact c_l6Dec m.nonce e4.1 e4.2) ?_) | refine op_val rfl (by exact kStr) ?_) | (refine WR_id ?_; refine WR_pure rfl rfl rfl (by exact kStr) ?_) | refine nY ?_ | refine WA_alt ?_ ?_ | refine nR ?_ | refine WC_drawL (id := 3) (ops := o18x3T2) r18x3T2 (by kernel_rfl) rfl ?_ | refine WC_cond rfl (fun hc => ?_) (fun hc => ?_)))
      all_goals exact ⟨rfl, (), by exact kQ, by exact kL⟩
    · intro _
      try dsimp only
      have h2 := decs_len [m.kind, m.client, m.serv, m.nonce]
      simp only [List.length_cons, List.length_nil] at h2
      (repeat' (first | refine nX ?_ | (refine nA ?_; intro _) | refine nY ?_ | refine WA_alt ?_ ?_ | refine nR ?_ | refine WC_drawL (id := 3) (ops := o18x3T2) r18x3T2 (by kernel_rfl) rfl ?_))
      refine WC_loop (fun mz Ez Mz => ∃ (k : Nat) (o : Str), k + mz = (m.seals).length ∧ Ez = [(1, .pointer (some ⟨b1, 0, none⟩)), (3, St o), (4, I k)] ∧ Mz = (b1, cellsO (msgC m ⟨a, m.seals.length, c⟩) 24) :: L ∧ (o = decs [m.kind, m.client, m.serv, m.nonce] ++ [10] ++ sealLines (m.seals.take k))) (m.seals).length (by exact kQ) (by exact kL) ⟨0, decs [m.kind, m.client, m.serv, m.nonce] ++ [10], by omega, rfl, rfl, by simp⟩ ?_
      rintro mz Ez Mz ⟨k, o, hk, rfl, rfl, hin⟩
      rcases Nat.lt_or_ge k (m.seals).length with hlt | hge
      · obtain ⟨y1, hy1⟩ : ∃ y, (m.seals)[k]? = some y := ⟨(m.seals)[k]'(by omega), by simp [hlt]⟩; obtain ⟨b'1, o1, cs1, T1, fr1, rfl, hm1, hrow1⟩ := hat (by omega); have hrow'1 := hrow1 k y1 hy1; have htk1 := take_next hy1
        have h3 := sealLines_len (m.seals.take k)
        have h4 := sealText_len y1
        rw [List.length_take] at h3
        have h5 : o.length ≤ 1000 := by rw [hin]; simp only [List.length_append, List.length_cons, List.length_nil]; omega
        (repeat' (first | refine nI ?_ | (refine nA ?_; intro _) | (refine nW ?_; first | (refine op_call_id ?_; refine op_ro rfl rfl (by exact c_sSealText y1) ?_) | refine op_val rfl (by exact kStr) ?_) | (refine WR_id ?_; refine WR_pure rfl rfl rfl (by exact kStr) ?_) | refine nY ?_ | refine WA_alt ?_ ?_ | refine nR ?_ | refine WC_drawL (id := 3) (ops := o18x3T2) r18x3T2 (by kernel_rfl) rfl ?_ | refine WC_cond rfl (fun hc => ?_) (fun hc => ?_)))
        exact loopQ_next ⟨mz - 1, _, _, by omega, by exact kQ, by exact kL, k + 1, o ++ sealText y1 ++ [10], by omega, rfl, rfl, by (rw [htk1, sealLines_next, hin]; simp)⟩
      · rw [take_all hge] at hin
        subst hin
        (repeat' (first | refine nI ?_ | (refine nA ?_; intro _) | (refine nW ?_; first | refine op_val rfl (by exact kStr) ?_) | (refine WR_id ?_; refine WR_pure rfl rfl rfl (by exact kStr) ?_) | refine nY ?_ | refine WA_alt ?_ ?_ | refine nR ?_ | refine WC_drawL (id := 3) (ops := o18x3T2) r18x3T2 (by kernel_rfl) rfl ?_ | refine WC_cond rfl (fun hc => ?_) (fun hc => ?_)))
        refine ro_ret (by exact kR) (by exact kL) ?_; rfl
end Go.Proofs.YtoledfhjmdpihaaGreatDoor
