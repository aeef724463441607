/- The law: each key is one user's, for one. -/
import Derived.Test.YtlidbcgahfjaoaaGreatRows
import Derived.WalkKit
import Derived.ProofKit
import Derived.OpenShut
import Derived.ShutString
import Derived.ChangeOld
import Derived.Below
import Derived.Test.YtlidbcgahfjaoaaGreatA11
set_option linter.unusedVariables false
set_option linter.unusedSectionVars false
set_option linter.unusedSimpArgs false
namespace Go.Proofs.YtlidbcgahfjaoaaGreat
open Go Go.Proofs Go.Proofs.YtlidbcgahfjaoaaGreat.VE
attribute [local irreducible] Val Op1 WO WR WA WC seqQ blockQ loopQ retQ
set_option maxHeartbeats 8000000
def ownC (f : Nat → Int) : List Value := (List.range 61).map (fun i => I (f i))
theorem ownC_len (f : Nat → Int) : (ownC f).length = 61 := by simp [ownC]
theorem ownC_get (f : Nat → Int) {key : Int} (h : 0 ≤ key ∧ key ≤ 60) : (ownC f)[0 + key.toNat * 1]? = some (I (f key.toNat)) := by
  have h1 : key.toNat < 61 := by omega
  have h2 : 0 + key.toNat * 1 = key.toNat := by omega
  rw [h2]
  simp only [ownC, List.getElem?_map, List.getElem?_range h1, Option.map_some]
theorem ownC_blt (f : Nat → Int) {key : Int} (h : 0 ≤ key ∧ key ≤ 60) : Nat.blt (0 + key.toNat * 1) (ownC f).length = true := by
  rw [ownC_len, Nat.blt_eq]; omega
def ownPut (f : Nat → Int) (k : Nat) (z : Int) (i : Nat) : Int := if k = i then z else f i
theorem ownC_set (f : Nat → Int) {key z : Int} (h : 0 ≤ key ∧ key ≤ 60) : (ownC f).set (0 + key.toNat * 1) (I z) = ownC (ownPut f key.toNat z) := by
  have h2 : 0 + key.toNat * 1 = key.toNat := by omega
  rw [h2]
  apply List.ext_getElem?
  intro i
  by_cases hi : key.toNat = i
  · subst hi
    rw [List.getElem?_set_self (by rw [ownC_len]; omega)]
    have h1 : key.toNat < 61 := by omega
    simp only [ownC, List.getElem?_map, List.getElem?_range h1, Option.map_some, ownPut, if_pos]
  · rw [List.getElem?_set_ne hi]
    simp only [ownC, List.getElem?_map, ownPut, if_neg hi]
    by_cases h3 : i < 61
    · simp only [List.getElem?_range h3, Option.map_some, if_neg hi]
    · have h4 : (List.range 61)[i]? = none := List.getElem?_eq_none (by simp; omega)
      rw [h4]; rfl
def OwnerOk (w : World) (f : Nat → Int) : Prop := ∀ i : Nat, f i ≠ 0 → ∃ c ∈ w.clients, ∃ s, Holds c s (i : Int) ∧ f i = 10 * c.id + s
theorem ownerOk_put {w : World} {f : Nat → Int} (h : OwnerOk w f) {u : Client} {k s : Int} (hk : 0 ≤ k) (hu : u ∈ w.clients) (hh : Holds u s k) : OwnerOk w (ownPut f k.toNat (10 * u.id + s)) := by
  intro i hi
  by_cases he : k.toNat = i
  · subst he
    have h2 : ((k.toNat : Nat) : Int) = k := by omega
    exact ⟨u, hu, s, by rw [h2]; exact hh, by simp [ownPut]⟩
  · have h3 : ownPut f k.toNat (10 * u.id + s) i = f i := by simp [ownPut, he]
    rw [h3] at hi ⊢
    exact h i hi
theorem ownerOk_get {w : World} (hi : Inv w) {f : Nat → Int} (h : OwnerOk w f) {u : Client} {k s : Int} (hk : 0 ≤ k) (hu : u ∈ w.clients) (hh : Holds u s k) : f k.toNat = 0 ∨ f k.toNat = 10 * u.id + s := by
  by_cases h0 : f k.toNat = 0
  · exact .inl h0
  · obtain ⟨c, hc, s', h1, h2⟩ := h _ h0
    have h3 : ((k.toNat : Nat) : Int) = k := by omega
    rw [h3] at h1
    obtain ⟨e1, e2⟩ := inv_owners hi hc hu h1 hh
    right; rw [h2, e1, e2]
set_option maxRecDepth 10000 in
theorem ownC_zero : zerosOf [I 0] 61 = ownC (fun _ => 0) := rfl
theorem c_FnWorldOwnersBig {L : List Ent} (a : Option Addr) (n c : Nat) (hn : 1048576 < n) : RO Tryz.prog 4 [.slice a n c] L (B true) := by
  refine Tri.of Tryz.func4 rfl rfl Tryz.ntmps4 rfl rfl ?_
  (repeat' (first | refine nI ?_ | (refine nA ?_; intro _) | refine nY ?_ | refine nR ?_ | refine WC_cond rfl (fun hc => ?_) (fun hc => ?_)))
  refine ro_ret (by exact kR) (by exact kL) ?_; rfl
theorem c_FnWorldOwners1 {L : List Ent} (a : Option Addr) (n c : Nat) (bs : List Int) (h : BytesIn L a n c bs) (hlen : n ≤ 1048576) : RO Tryz.prog 4 [.slice a n c] L (B true) := by
  have hat := h.at_ hlen
  have hby := h.byte
  have hn := hat.1
  dsimp only at hn
  subst hn
  refine Tri.of Tryz.func4 rfl rfl Tryz.ntmps4 rfl rfl ?_
  (repeat' (first | refine nI ?_ | (refine nA ?_; intro _) | (refine nW ?_; first | (refine op_call_id ?_; refine op_call rfl (c_drawWorldPlay ⟨a, bs.length, c⟩ bs (hat.mono (by exact kS)) hby) rfl ?_; rintro _ _ ⟨bad, ⟨a2, n2, c2⟩, evs, ee, rfl, ⟨hse, hms⟩, rfl⟩)) | refine nY ?_ | refine nR ?_ | refine WC_cond rfl (fun hc => ?_) (fun hc => ?_)))
  by_cases hgo : within bad 0 3 = true ∧ evs.length ≤ 70
  rotate_left
  · (repeat' (first | refine nI ?_ | (refine nA ?_; intro _) | (refine nW ?_; first | (refine op_call_id ?_; refine op_ro rfl rfl (by first | exact c_worldPlay0 bad ⟨a2, n2, c2⟩ evs (hse.mono (by exact kS)) (not_go hgo) | exact c_sWorldPlay0 bad ⟨a2, n2, c2⟩ evs (hse.mono (by exact kS)) (not_go hgo) | exact c_lbWorldT World.zero WSl.nil WSl.nil [] [] [] [] [] [] (zeroAt _) (zeroAt _)) ?_) | refine op_val rfl (by first | exact val_neqB_f rfl rfl rfl | exact val_eqlB_t rfl rfl rfl) ?_) | refine nY ?_ | refine nR ?_ | refine WC_cond rfl (fun hc => ?_) (fun hc => ?_)))
    refine ro_ret (by exact kR) (by exact kL) ?_; rfl
  obtain ⟨hb, h70⟩ := hgo
  have hn2 := hse.1
  dsimp only at hn2
  subst hn2
  obtain ⟨w, hw⟩ : ∃ w, play (worldNew bad) (evs.map Prod.fst) = w := ⟨_, rfl⟩
  have hplayed := played hb hw
  (repeat' (first | refine nI ?_ | (refine nA ?_; intro _) | (refine nW ?_; first | (refine op_call_id ?_; refine op_ro rfl rfl (by exact c_lbWorldT w q1 q2 ps1 ps2 ss1 ss2 ms1 ms2 (hown1.at.mono (by exact kS)) (hown2.at.mono (by exact kS))) ?_) | (refine op_call_id ?_; refine op_call rfl (c_worldPlayW (sev := ⟨a2, evs.length, c2⟩) (evs := evs) hw (hse.mono (by exact kS)) (fun p hp => (hms p hp).mono (by exact kS)) hb h70) rfl ?_; rintro _ _ ⟨q1, ps1, ss1, ms1, ek1, ec1, ca1, es1, sa1, el1, la1, rfl, hown1, rfl⟩) | (refine op_call_id ?_; refine op_call rfl (c_sWorldPlayW (sev := ⟨a2, evs.length, c2⟩) (evs := evs) hw (hse.mono (by exact kS)) (fun p hp => (hms p hp).mono (by exact kS)) hb h70) rfl ?_; rintro _ _ ⟨q2, ps2, ss2, ms2, ek2, ec2, ca2, es2, sa2, el2, la2, rfl, hown2, rfl⟩) | refine op_val rfl (by exact val_neqB_f rfl rfl rfl) ?_) | refine nY ?_ | refine nR ?_ | refine WC_cond rfl (fun hc => ?_) (fun hc => ?_)))
  rename_i b5 b7
  have hinv := hplayed.inv
  have hok := hinv.ok
  obtain ⟨kc, ⟨ac, nc, cc⟩, ⟨av, nv, cv⟩, ⟨al, nl, cl⟩⟩ := q1
  obtain ⟨hnc, hnv, hnl⟩ := parts_at hown1.at
  subst hnc hnv hnl
  obtain ⟨hkc, hpe, hpr, hpa, hsE, hsr, hsa, hme, hmr, hma⟩ := hown1.at
  obtain ⟨hnP, hc1, hb1, hat1⟩ := hpr
  obtain ⟨hnS, hc2, hb2, hat2⟩ := hsr
  obtain ⟨hnM, hc3, hb3, hat3⟩ := hmr
  dsimp only at hat1 hat2 hat3 hc1 hc2 hc3
  simp only [big] at hb1 hb2 hb3
  clear hnP hnS hnM
  have hpl3 : ps1.length = 3 := by rw [← List.length_map (f := Prod.fst), hpe]; exact hok.cl
  have hsl2 : ss1.length = 2 := by rw [← List.length_map (f := Prod.fst), hsE]; exact hok.sl
  obtain ⟨bP, oP, csP, TP, frP, rfl, hmP, hrP⟩ := hat1 (by omega)
  obtain ⟨bS, oS, csS, TS, frS, rfl, hmS, hrS⟩ := hat2 (by omega)
  (repeat' (first | refine nI ?_ | (refine nA ?_; intro _) | (refine nW ?_; first | (refine op_makeSlice rfl rfl rfl rfl rfl rfl rfl rfl rfl rfl ?_; intro b9)) | refine nY ?_ | refine nR ?_ | refine WC_cond rfl (fun hc => ?_) (fun hc => ?_)))
  rw [ownC_zero]
  have hpd := hplayed.bad
  refine WC_loop (fun mz Ez Mz => ∃ (k : Nat) (f : Nat → Int), k + mz = (ps1).length ∧ Ez = [(3, I bad), (5, .pointer (some ⟨b5, 0, none⟩)), (9, .slice (some ⟨b9, 0, none⟩) 61 61), (10, I k)] ∧ Mz = (b9, cellsO (ownC f) 3) :: (b5, cellsO (worldC w ⟨kc, ⟨some ⟨bP, oP, none⟩, ps1.length, cc⟩, ⟨some ⟨bS, oS, none⟩, ss1.length, cv⟩, ⟨al, ms1.length, cl⟩⟩) 33) :: (wldE ek1 ec1 ca1 es1 sa1 el1 la1 ++ L) ∧ (OwnerOk w f)) (ps1).length (by exact kQ) (by exact kL) ⟨0, (fun _ => 0), by omega, rfl, rfl, by exact fun i hi => absurd rfl hi⟩ ?_
  rintro mz Ez Mz ⟨k, f, hk, rfl, rfl, hin⟩
  rcases Nat.lt_or_ge k (ps1).length with hlt | hge
  · obtain ⟨y1, hy1⟩ : ∃ y, ps1[k]? = some y := ⟨_, List.getElem?_eq_getElem hlt⟩; have hrow1 := hrP k y1 hy1
    obtain ⟨u, ⟨sw, ⟨ar, nr, cr⟩, ⟨at0, nt0, ct0⟩, sm⟩⟩ := y1
    have hu : u ∈ w.clients := by rw [← hpe]; exact List.mem_map_of_mem (List.mem_of_getElem? hy1)
    have huk : w.clients[k]? = some u := by rw [← hpe, List.getElem?_map, hy1]; rfl
    have hid := (hok.cs k u huk).2
    have hcok := (hok.cs k u huk).1
    have hk3 : k < 3 := by have h9 := hok.cl; rw [← hpe, List.length_map] at h9; omega
    obtain ⟨hn0, _, hb0, ha0⟩ := (hpa _ (List.mem_of_getElem? hy1)).c
    obtain ⟨hn1, _, hb1', ha1⟩ := (hpa _ (List.mem_of_getElem? hy1)).s
    dsimp only at hn0 ha0 hn1 ha1
    subst hn0 hn1
    simp only [big] at hb0 hb1'
    by_cases hbd : (k : Int) + 1 = bad
    · (repeat' (first | refine nI ?_ | (refine nA ?_; intro _) | refine nY ?_ | refine nR ?_ | refine WC_cond rfl (fun hc => ?_) (fun hc => ?_)))
      exact loopQ_next ⟨mz - 1, _, _, by omega, by exact kQ, by exact kL, k + 1, f, by omega, rfl, rfl, by exact hin⟩
    (repeat' (first | refine nI ?_ | (refine nA ?_; intro _) | refine nY ?_ | refine nR ?_ | refine WC_cond rfl (fun hc => ?_) (fun hc => ?_)))
    refine WC_loop (fun mzj Ezj Mzj => ∃ (kj : Nat) (f : Nat → Int), kj + mzj = (u.creds).length ∧ Ezj = [(3, I bad), (5, .pointer (some ⟨b5, 0, none⟩)), (9, .slice (some ⟨b9, 0, none⟩) 61 61), (10, I k), (11, I kj)] ∧ Mzj = (b9, cellsO (ownC f) 3) :: (b5, cellsO (worldC w ⟨kc, ⟨some ⟨bP, oP, none⟩, ps1.length, cc⟩, ⟨some ⟨bS, oS, none⟩, ss1.length, cv⟩, ⟨al, ms1.length, cl⟩⟩) 33) :: (wldE ek1 ec1 ca1 es1 sa1 el1 la1 ++ L) ∧ (OwnerOk w f)) (u.creds).length (by exact kQ) (by exact kL) ⟨0, f, by omega, rfl, rfl, by exact hin⟩ ?_
    rintro mzj Ezj Mzj ⟨kj, f, hkj, rfl, rfl, hinj⟩
    rcases Nat.lt_or_ge kj (u.creds).length with hltj | hgej
    · obtain ⟨x, hx⟩ : ∃ x, u.creds[kj]? = some x := ⟨_, List.getElem?_eq_getElem hltj⟩
      obtain ⟨bx, ox, cx, Tx, fx, rfl, hmx, hrx⟩ := ha0 (by omega)
      have hrx' := hrx kj x hx
      obtain ⟨hx1, hx2, _, _⟩ := credOk_cases (hcok.creds x (List.mem_of_getElem? hx))
      have hkr : 0 ≤ x.key ∧ x.key ≤ 60 := by omega
      have hh : Holds u x.serv x.key := .inl ⟨x, List.mem_of_getElem? hx, rfl, rfl⟩
      have hget := ownC_get f hkr
      have hput := ownerOk_put hinj hkr.1 hu hh
      rw [hid] at hput
      rcases ownerOk_get hinv hinj hkr.1 hu hh with h0 | h0
      · (repeat' (first | refine nI ?_ | (refine nA ?_; intro _) | (refine nW ?_; first | (refine op_store_id ?_; (refine op_store1 rfl rfl rfl rfl rfl (by exact kF) (ownC_blt f hkr) (ownC_set f hkr) ?_)) | (refine op_load_id ?_; refine op_val rfl (by exact val_load1 rfl rfl rfl (by exact kM) hget) ?_) | refine op_val rfl (by first | (apply gv_bin; refine val_mul rfl rfl ?_ ?_ <;> (first | omega | (dsimp only; omega)))) ?_) | refine nY ?_ | refine nR ?_ | refine WC_cond rfl (fun hc => ?_) (fun hc => ?_)))
        exact loopQ_next ⟨mzj - 1, _, _, by omega, by exact kQ, by exact kL, kj + 1, ownPut f x.key.toNat (10 * ((k : Int) + 1) + x.serv), by omega, rfl, rfl, by exact hput⟩
      · rw [hid] at h0
        have h00 : f x.key.toNat ≠ 0 := by omega
        (repeat' (first | refine nI ?_ | (refine nA ?_; intro _) | (refine nW ?_; first | (refine op_store_id ?_; (refine op_store1 rfl rfl rfl rfl rfl (by exact kF) (ownC_blt f hkr) (ownC_set f hkr) ?_)) | (refine op_load_id ?_; refine op_val rfl (by exact val_load1 rfl rfl rfl (by exact kM) hget) ?_) | refine op_val rfl (by first | (apply gv_bin; refine val_mul rfl rfl ?_ ?_ <;> (first | omega | (dsimp only; omega)))) ?_) | refine nY ?_ | refine nR ?_ | refine WC_cond rfl (fun hc => ?_) (fun hc => ?_)))
        exact loopQ_next ⟨mzj - 1, _, _, by omega, by exact kQ, by exact kL, kj + 1, ownPut f x.key.toNat (10 * ((k : Int) + 1) + x.serv), by omega, rfl, rfl, by exact hput⟩
    clear hin
    (repeat' (first | refine nI ?_ | (refine nA ?_; intro _) | refine nY ?_ | refine nR ?_ | refine WC_cond rfl (fun hc => ?_) (fun hc => ?_)))
    refine WC_loop (fun mzm Ezm Mzm => ∃ (km : Nat) (f : Nat → Int), km + mzm = (u.sent).length ∧ Ezm = [(3, I bad), (5, .pointer (some ⟨b5, 0, none⟩)), (9, .slice (some ⟨b9, 0, none⟩) 61 61), (10, I k), (14, I km)] ∧ Mzm = (b9, cellsO (ownC f) 3) :: (b5, cellsO (worldC w ⟨kc, ⟨some ⟨bP, oP, none⟩, ps1.length, cc⟩, ⟨some ⟨bS, oS, none⟩, ss1.length, cv⟩, ⟨al, ms1.length, cl⟩⟩) 33) :: (wldE ek1 ec1 ca1 es1 sa1 el1 la1 ++ L) ∧ (OwnerOk w f)) (u.sent).length (by exact kQ) (by exact kL) ⟨0, f, by omega, rfl, rfl, by exact hinj⟩ ?_
    rintro mzm Ezm Mzm ⟨km, f, hkm, rfl, rfl, hinm⟩
    rcases Nat.lt_or_ge km (u.sent).length with hltm | hgem
    · obtain ⟨x, hx⟩ : ∃ x, u.sent[km]? = some x := ⟨_, List.getElem?_eq_getElem hltm⟩
      obtain ⟨bx, ox, cx, Tx, fx, rfl, hmx, hrx⟩ := ha1 (by omega)
      have hrx' := hrx km x hx
      obtain ⟨hx1, hx2, _⟩ := callOk_cases (hcok.sent x (List.mem_of_getElem? hx)).1
      have hkr : 0 ≤ x.key ∧ x.key ≤ 60 := by omega
      have hh : Holds u x.peer x.key := .inr ⟨x, List.mem_of_getElem? hx, rfl, rfl⟩
      have hget := ownC_get f hkr
      have hput := ownerOk_put hinm hkr.1 hu hh
      rw [hid] at hput
      rcases ownerOk_get hinv hinm hkr.1 hu hh with h0 | h0
      · (repeat' (first | refine nI ?_ | (refine nA ?_; intro _) | (refine nW ?_; first | (refine op_store_id ?_; (refine op_store1 rfl rfl rfl rfl rfl (by exact kF) (ownC_blt f hkr) (ownC_set f hkr) ?_)) | (refine op_load_id ?_; refine op_val rfl (by exact val_load1 rfl rfl rfl (by exact kM) hget) ?_) | refine op_val rfl (by first | (apply gv_bin; refine val_mul rfl rfl ?_ ?_ <;> (first | omega | (dsimp only; omega)))) ?_) | refine nY ?_ | refine nR ?_ | refine WC_cond rfl (fun hc => ?_) (fun hc => ?_)))
        exact loopQ_next ⟨mzm - 1, _, _, by omega, by exact kQ, by exact kL, km + 1, ownPut f x.key.toNat (10 * ((k : Int) + 1) + x.peer), by omega, rfl, rfl, by exact hput⟩
      · rw [hid] at h0
        have h00 : f x.key.toNat ≠ 0 := by omega
        (repeat' (first | refine nI ?_ | (refine nA ?_; intro _) | (refine nW ?_; first | (refine op_store_id ?_; (refine op_store1 rfl rfl rfl rfl rfl (by exact kF) (ownC_blt f hkr) (ownC_set f hkr) ?_)) | (refine op_load_id ?_; refine op_val rfl (by exact val_load1 rfl rfl rfl (by exact kM) hget) ?_) | refine op_val rfl (by first | (apply gv_bin; refine val_mul rfl rfl ?_ ?_ <;> (first | omega | (dsimp only; omega)))) ?_) | refine nY ?_ | refine nR ?_ | refine WC_cond rfl (fun hc => ?_) (fun hc => ?_)))
        exact loopQ_next ⟨mzm - 1, _, _, by omega, by exact kQ, by exact kL, km + 1, ownPut f x.key.toNat (10 * ((k : Int) + 1) + x.peer), by omega, rfl, rfl, by exact hput⟩
    (repeat' (first | refine nI ?_ | (refine nA ?_; intro _) | refine nY ?_ | refine nR ?_ | refine WC_cond rfl (fun hc => ?_) (fun hc => ?_)))
    exact loopQ_next ⟨mz - 1, _, _, by omega, by exact kQ, by exact kL, k + 1, f, by omega, rfl, rfl, by exact hinm⟩
  (repeat' (first | refine nI ?_ | (refine nA ?_; intro _) | refine nY ?_ | refine nR ?_ | refine WC_cond rfl (fun hc => ?_) (fun hc => ?_)))
  refine ro_ret (by exact kR) (by exact kL) ?_; rfl
end Go.Proofs.YtlidbcgahfjaoaaGreat
/- The law FnWorldOwners: for all that comes in the call returns true, and what came in reads as before. No condition. (The frame by the kit's program, the walk by ours.) -/
namespace Go.Proofs.YtlidbcgahfjaoaaGreat.fnWorldOwners
open Go.ChangeShapes Go.WideShapes Go.ChangeAt Go.RowKit
open Go.ChangeMaps (open_string shut_string)
set_option linter.unusedVariables false

theorem own : ownKnob Tryz.prog.godebug = none := by kernel_rfl
theorem laidOut : laidOutB Tryz.prog = true := by kernel_rfl

def IsRow (k : IntKind) (w : Go.World) (a : Option Addr) (len cap : Nat) (zs : List Int) : Prop :=
  (a = none ∧ len = 0 ∧ cap = 0 ∧ zs = []) ∨
  ∃ x, a = some x ∧ len ≤ cap ∧ cap ≤ maxLen ∧ zs.length = cap ∧ (∀ i, i < zs.length → w.cell? (x.add i) = some (.int k (zs.getD i 0))) ∧ ∀ n ∈ zs, (Lit.int k n).wf = true

theorem walk (a0 : Option Addr) (len0 cap0 : Nat) (z0 : List Int) (w : Go.World) (w0 : IsRow .u8 w a0 len0 cap0 z0) :
    Calls Tryz.prog 4 #[.slice a0 len0 cap0] w fun e w' => e = .returned (.bool true) ∧ Below w.heap.size w w' := by
  exact walk_of (by
    by_cases hb : 1048576 < len0
    · exact c_FnWorldOwnersBig a0 len0 cap0 hb
    · exact c_FnWorldOwners1 a0 len0 cap0 (z0.take len0) (bytes_at w0) (by omega))

set_option maxRecDepth 100000 in
theorem lifted (os : Os) (started : os.Started) (H : Type) (enc : TypeId × Value → H) :
    ReturnsInHanded {} Tryz.checked os 4 .any (Rows.fnWorldOwnersSpec.pre6 enc Tryz.prog Tryz.f4 Rows.fnWorldOwnersRow.domain false) (Rows.fnWorldOwnersSpec.post enc Tryz.prog Tryz.f4 false true false false) := by
  refine returnsInHanded_of_change (C := Tryz.checked) own started (by kernel_rfl) Tryz.func4
    (ChangeSpec.witness6 (enc := enc) (C := Tryz.checked) false ⟨#[], #[.slice none 0 0], []⟩ 8 (by kernel_rfl) (by kernel_rfl) (by kernel_rfl) (by kernel_rfl)) ?_
  intro W base args ds gs before hval0 hW hcnd _
  have hval : ∀ (j : Nat) t v, Tryz.f4.params[j]? = some t → args[j]? = some v → Value.okWide Tryz.prog W .any base t v := hval0
  have hW' := hW
  obtain ⟨p, q, hA0, hV, rfl, hfz, hnd⟩ := hW
  have hA : DataW.TrodAll enc Tryz.prog W 0 (fun _ => true) true Tryz.f4.params.toList args.toList ds p := hA0
  rw [Tryz.params4] at hA hval
  obtain ⟨v0, vs0, d0, ds0, p0, q0, hargs, rfl, rfl, h0, r0⟩ := trodAll_cons hA
  obtain ⟨rfl, rfl, rfl⟩ := trodAll_nil r0
  obtain rfl : args = #[v0] := by cases args; simp_all
  obtain ⟨rfl, rfl⟩ := trodVars_none hV
  obtain ⟨a0, len0, cap0, rfl⟩ := okWide_slice Tryz.underlying22 (hval 0 22 v0 rfl rfl)
  have k0 := h0
  have lt0 : ∀ x ∈ p0, x.block < W.heap.size := by obtain ⟨m, hm⟩ := k0; exact DataW.trod_lt m _ _ _ hm
  obtain ⟨z0, w0⟩ : ∃ zs, IsRow .u8 W a0 len0 cap0 zs := by
    obtain ⟨fuel, hf⟩ := h0
    rcases open_ints Tryz.underlying22 Tryz.underlying5 (by kernel_rfl) hf with ⟨hcs, _⟩ | ⟨x, l, c, zs, hcs, _, hl, hm, hz, _, hcell, hwz⟩
    · simp [Value.cells] at hcs
      obtain ⟨rfl, rfl, rfl⟩ := hcs
      exact ⟨[], .inl ⟨rfl, rfl, rfl, rfl⟩⟩
    · simp [Value.cells] at hcs
      obtain ⟨rfl, rfl, rfl⟩ := hcs
      exact ⟨zs, .inr ⟨_, rfl, hl, hm, by simpa using hz, hcell, hwz⟩⟩
  clear hA0 hval0
  refine (walk a0 len0 cap0 z0 W w0).mono fun e W' ⟨he, bel⟩ => ?_
  subst he
  exact ⟨_, rfl, _, _, _, [], _, [], hW', trodAll_mk1 (shut_bool Tryz.underlying4 _), (trodAll_cons_mk (Below.trod laidOut (by kernel_rfl) (of_decide_eq_true (by kernel_rfl)) k0 bel lt0) trodAll_mk0), rfl, bel.frame _, fun h => by cases h⟩

theorem over : Rows.fnWorldOwnersRow.holds Tryz.pinned (OpenSpec.ofChange Rows.fnWorldOwnersSpec) :=
  OpenClaim.holds_of_wide 4 Tryz.f4 rfl rfl rfl rfl rfl rfl rfl ⟨rfl, rfl, rfl, rfl, rfl⟩ rfl rfl rfl rfl rfl (by kernel_rfl) Tryz.func4 (by kernel_rfl)
    (of_decide_eq_true (by kernel_rfl)) (by unfold Func.isWrapper; first | (rw [if_pos (by decide +kernel)]; kernel_rfl) | (rw [if_neg (by decide +kernel)]; exact ⟨rfl, rfl⟩))
    (fun os started H enc _ => lifted os started H enc)

theorem proved : Rows.FnWorldOwnersSaid := over
end Go.Proofs.YtlidbcgahfjaoaaGreat.fnWorldOwners
