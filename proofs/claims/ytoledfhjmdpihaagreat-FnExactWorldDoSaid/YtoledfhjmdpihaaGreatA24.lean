/- A field of a field of an element: loads and stores. Generic over the program. -/
import Derived.Test.YtoledfhjmdpihaaGreatA1
import Derived.Test.YtoledfhjmdpihaaGreatA4
set_option linter.unusedVariables false
namespace Go.Proofs.YtoledfhjmdpihaaGreat.VE
open Go
section
variable {P : Program} [TT P] {n : Nat} {env : Env} {L L0 : List Ent} {dst : Option Nat} {t : TypeId} {pos : String} {after : Array Edge} {g : Option (Nat × Bool)} {K : Env → List Ent → Prop}
theorem val_load1R2 {s : TypeId} {x : Operand} {u : TypeDesc} {sz bt : Nat} {z : List Value} {b o m k1 k2 : Nat} {c cs : List Value} {T : TypeId} {fr : Nat × Nat} {v : Value} (hx : ev env x = some (.pointer (some ⟨b, o + k1 + k2, none⟩))) (ht : ty P s = some ⟨u, sz, z, bt⟩) (ha : aggB u = false)
    (hm : (b, .cells c.toArray T fr) ∈ L) (hr : takeC c o m = some cs) (hc : getF cs (k1 + k2) = some v) : Val P n env L ⟨dst, .load s x, t, pos, after, g⟩ v := val_load1R (k := k1 + k2) (by rw [hx, Nat.add_assoc]) ht ha hm hr hc
theorem val_load1P2 {s : TypeId} {x : Operand} {u : TypeDesc} {sz bt : Nat} {z : List Value} {b o k1 k2 : Nat} {c cs : List Value} {T : TypeId} {fr : Nat × Nat} {v : Value} (hx : ev env x = some (.pointer (some ⟨b, o + k1 + k2, none⟩))) (ht : ty P s = some ⟨u, sz, z, bt⟩) (ha : aggB u = false)
    (hm : (b, .cells (putC c o cs).toArray T fr) ∈ L) (ho : o + cs.length ≤ c.length) (hc : getF cs (k1 + k2) = some v) : Val P n env L ⟨dst, .load s x, t, pos, after, g⟩ v := val_load1P (k := k1 + k2) (by rw [hx, Nat.add_assoc]) ht ha hm ho hc
theorem op_store1P2 {s : TypeId} {x y : Operand} {u : TypeDesc} {sz bt : Nat} {z : List Value} {b o k1 k2 : Nat} {c cs : List Value} {T : TypeId} {v : Value} (hx : ev env x = some (.pointer (some ⟨b, o + k1 + k2, none⟩))) (hy : ev env y = some v) (ht : ty P s = some ⟨u, sz, z, bt⟩) (hsz : sz = 1) (hv : v.oneCell' = true)
    (hp : L.Perm ((b, cellsO (putC c o cs) T) :: L0)) (ho : o + cs.length ≤ c.length) {cs' : List Value} (hc' : putF cs (k1 + k2) [v] = some cs') (h : K env ((b, cellsO (putC c o cs') T) :: L0)) : Op1 P n ⟨none, .store s x y, t, pos, after, g⟩ env L K := op_store1P (k := k1 + k2) (by rw [hx, Nat.add_assoc]) hy ht hsz hv hp ho hc' h
end
end Go.Proofs.YtoledfhjmdpihaaGreat.VE
/- Marks: which numbers stand in a row of structs, one behind the other, from a number on. No memory. -/
set_option linter.unusedVariables false
set_option linter.unusedSectionVars false
set_option linter.unusedSimpArgs false
namespace Go.Proofs.YtoledfhjmdpihaaGreat
open Go Go.Proofs Go.Proofs.YtoledfhjmdpihaaGreat.VE
attribute [local irreducible] Val Op1 WO WR WA WC seqQ blockQ loopQ retQ
/-- Each holds its marks, from k on up to k'. -/
def HL {X : Type} (H : Int → X → Int → Prop) : Int → List X → Int → Prop
  | k, [], k' => k' = k
  | k, x :: r, k' => ∃ k1, H k x k1 ∧ HL H k1 r k'
theorem HL.snoc {X : Type} {H : Int → X → Int → Prop} : ∀ {xs : List X} {k k1 k2 : Int} {x : X}, HL H k xs k1 → H k1 x k2 → HL H k (xs ++ [x]) k2
  | [], k, k1, k2, x, h, hx => by
    obtain rfl : k1 = k := h
    exact ⟨k2, hx, rfl⟩
  | y :: r, k, k1, k2, x, ⟨k0, hy, hr⟩, hx => ⟨k0, hy, HL.snoc hr hx⟩
theorem HL.le {X : Type} {H : Int → X → Int → Prop} (hm : ∀ k x k', H k x k' → k ≤ k') : ∀ {xs : List X} {k k' : Int}, HL H k xs k' → k ≤ k'
  | [], k, k', h => by
    obtain rfl : k' = k := h
    exact Int.le_refl _
  | y :: r, k, k', ⟨k0, hy, hr⟩ => Int.le_trans (hm _ _ _ hy) (HL.le hm hr)
theorem HL.map {X Y : Type} {H : Int → Y → Int → Prop} (f : X → Y) : ∀ {xs : List X} {k k' : Int}, HL (fun k x k' => H k (f x) k') k xs k' → HL H k (xs.map f) k'
  | [], _, _, h => h
  | y :: r, _, _, ⟨k0, hy, hr⟩ => ⟨k0, hy, HL.map f hr⟩
theorem HL.unmap {X Y : Type} {H : Int → Y → Int → Prop} (f : X → Y) : ∀ {xs : List X} {k k' : Int}, HL H k (xs.map f) k' → HL (fun k x k' => H k (f x) k') k xs k'
  | [], _, _, h => h
  | y :: r, _, _, ⟨k0, hy, hr⟩ => ⟨k0, hy, HL.unmap f hr⟩
abbrev markSealAt (k : Int) : Seal := ⟨k, k + 1, k + 1 + 1, k + 1 + 1 + 1, k + 1 + 1 + 1 + 1, k + 1 + 1 + 1 + 1 + 1, k + 1 + 1 + 1 + 1 + 1 + 1⟩
def HSeal (k : Int) (x : Seal) (k' : Int) : Prop := x = markSealAt k ∧ k' = k + 1 + 1 + 1 + 1 + 1 + 1 + 1
theorem HSeal.le (k : Int) (x : Seal) (k' : Int) (h : HSeal k x k') : k ≤ k' := by have := h.2; omega
abbrev markWantAt (k : Int) : Want := ⟨k, k + 1⟩
def HWant (k : Int) (x : Want) (k' : Int) : Prop := x = markWantAt k ∧ k' = k + 1 + 1
theorem HWant.le (k : Int) (x : Want) (k' : Int) (h : HWant k x k') : k ≤ k' := by have := h.2; omega
abbrev markCallAt (k : Int) : Call := ⟨k, k + 1, k + 1 + 1, k + 1 + 1 + 1⟩
def HCall (k : Int) (x : Call) (k' : Int) : Prop := x = markCallAt k ∧ k' = k + 1 + 1 + 1 + 1
theorem HCall.le (k : Int) (x : Call) (k' : Int) (h : HCall k x k') : k ≤ k' := by have := h.2; omega
abbrev markCredAt (k : Int) : Cred := ⟨k, k + 1, k + 1 + 1, ⟨k + 1 + 1 + 1, k + 1 + 1 + 1 + 1, k + 1 + 1 + 1 + 1 + 1, k + 1 + 1 + 1 + 1 + 1 + 1, k + 1 + 1 + 1 + 1 + 1 + 1 + 1, k + 1 + 1 + 1 + 1 + 1 + 1 + 1 + 1, k + 1 + 1 + 1 + 1 + 1 + 1 + 1 + 1 + 1⟩⟩
def HCred (k : Int) (x : Cred) (k' : Int) : Prop := x = markCredAt k ∧ k' = k + 1 + 1 + 1 + 1 + 1 + 1 + 1 + 1 + 1 + 1
theorem HCred.le (k : Int) (x : Cred) (k' : Int) (h : HCred k x k') : k ≤ k' := by have := h.2; omega
def HClient (k : Int) (c : Client) (k' : Int) : Prop := ∃ k1 k2 k3, c.id = k ∧ c.num = k + 1 ∧ HL HWant (k + 1 + 1) c.wants k1 ∧ HL HCred k1 c.creds k2 ∧ HL HCall k2 c.sent k3 ∧ HL HCall k3 c.met k'
def HServ (k : Int) (s : Serv) (k' : Int) : Prop := ∃ k1, s.id = k ∧ s.since = k + 1 ∧ HL HSeal (k + 1 + 1) s.cache k1 ∧ HL HCall k1 s.took k'
def HMsg (k : Int) (m : Msg) (k' : Int) : Prop := m.kind = k ∧ m.client = k + 1 ∧ m.serv = k + 1 + 1 ∧ m.nonce = k + 1 + 1 + 1 ∧ HL HSeal (k + 1 + 1 + 1 + 1) m.seals k'
theorem HClient.le (k : Int) (c : Client) (k' : Int) (h : HClient k c k') : k ≤ k' := by
  obtain ⟨k1, k2, k3, _, _, h1, h2, h3, h4⟩ := h
  have := HL.le HWant.le h1; have := HL.le HCred.le h2; have := HL.le HCall.le h3; have := HL.le HCall.le h4; omega
theorem HServ.le (k : Int) (c : Serv) (k' : Int) (h : HServ k c k') : k ≤ k' := by
  obtain ⟨k1, _, _, h1, h2⟩ := h
  have := HL.le HSeal.le h1; have := HL.le HCall.le h2; omega
theorem HMsg.le (k : Int) (c : Msg) (k' : Int) (h : HMsg k c k') : k ≤ k' := by
  obtain ⟨_, _, _, _, h1⟩ := h
  have := HL.le HSeal.le h1; omega
def HWorld (k : Int) (w : World) (k' : Int) : Prop := ∃ k1 k2 k3, HL HSeal k w.kdc.cache k1 ∧ HL HClient k1 w.clients k2 ∧ HL HServ k2 w.servs k3 ∧ HL HMsg k3 w.log k'
/-- Rows of what leads on to rows, with where they lie. -/
abbrev HClientP (k : Int) (p : Client × CSl) (k' : Int) : Prop := HClient k p.1 k'
abbrev HServP (k : Int) (p : Serv × (Sl × Sl)) (k' : Int) : Prop := HServ k p.1 k'
abbrev HMsgP (k : Int) (p : Msg × Sl) (k' : Int) : Prop := HMsg k p.1 k'
theorem drop_hl {X : Type} {xs : List X} {k : Nat} {y : X} (h : xs[k]? = some y) : xs.drop k = y :: xs.drop (k + 1) := by
  obtain ⟨hlt, he⟩ := List.getElem?_eq_some_iff.1 h
  rw [← he, List.getElem_cons_drop]
theorem set_mid {X : Type} {xs ys : List X} {y v : X} {k : Nat} (h : xs.length = k) : (xs ++ y :: ys).set k v = (xs ++ [v]) ++ ys := by
  subst h; simp
end Go.Proofs.YtoledfhjmdpihaaGreat
/- Structs and rows that read alike are told to be alike. -/
set_option linter.unusedVariables false
set_option linter.unusedSectionVars false
set_option linter.unusedSimpArgs false
namespace Go.Proofs.YtoledfhjmdpihaaGreat
open Go Go.Proofs Go.Proofs.YtoledfhjmdpihaaGreat.VE
attribute [local irreducible] Val Op1 WO WR WA WC seqQ blockQ loopQ retQ
noncomputable def o107x6V1 : Array Oper := cops (cl (cl (cl (cr (cl (cl (cr (cl (cr (cr (codeOf Tryz.f107)))))))))))
noncomputable def o185x6V1 : Array Oper := cops (cl (cl (cl (cr (cl (cl (cr (cl (cr (cr (codeOf Tryz.f185)))))))))))
noncomputable def o186x6V1 : Array Oper := cops (cl (cl (cl (cr (cl (cl (cr (cl (cr (cr (codeOf Tryz.f186)))))))))))
noncomputable def o187x6V1 : Array Oper := cops (cl (cl (cl (cr (cl (cl (cr (cl (cr (cr (codeOf Tryz.f187)))))))))))
noncomputable def o21x6V1 : Array Oper := cops (cl (cl (cl (cr (cl (cl (cr (cl (cr (cr (codeOf Tryz.f21)))))))))))
noncomputable def o42x6V1 : Array Oper := cops (cl (cl (cl (cr (cl (cl (cr (cl (cr (cr (codeOf Tryz.f42)))))))))))
noncomputable def o43x6V1 : Array Oper := cops (cl (cl (cl (cr (cl (cl (cr (cl (cr (cr (codeOf Tryz.f43)))))))))))
noncomputable def o44x6V1 : Array Oper := cops (cl (cl (cl (cr (cl (cl (cr (cl (cr (cr (codeOf Tryz.f44)))))))))))
noncomputable def r107x6V1 : Run := (.st 0 0 (.st 1 0 (.st 2 0 (.st 3 1 (.st 4 0 (.st 5 0 (.st 6 0 (.st 7 1 (.st 8 3 (.st 9 0 .done))))))))))
noncomputable def r185x6V1 : Run := (.st 0 0 (.st 1 0 (.st 2 0 (.st 3 1 (.st 4 0 (.st 5 0 (.st 6 0 (.st 7 1 (.st 8 3 (.st 9 0 .done))))))))))
noncomputable def r186x6V1 : Run := (.st 0 0 (.st 1 0 (.st 2 0 (.st 3 1 (.st 4 0 (.st 5 0 (.st 6 0 (.st 7 1 (.st 8 3 (.st 9 0 .done))))))))))
noncomputable def r187x6V1 : Run := (.st 0 0 (.st 1 0 (.st 2 0 (.st 3 1 (.st 4 0 (.st 5 0 (.st 6 0 (.st 7 1 (.st 8 3 (.st 9 0 .done))))))))))
noncomputable def r21x6V1 : Run := (.st 0 0 (.st 1 0 (.st 2 0 (.st 3 1 (.st 4 0 (.st 5 0 (.st 6 0 (.st 7 1 (.st 8 3 (.st 9 0 .done))))))))))
noncomputable def r42x6V1 : Run := (.st 0 0 (.st 1 0 (.st 2 0 (.st 3 1 (.st 4 0 (.st 5 0 (.st 6 0 (.st 7 1 (.st 8 3 (.st 9 0 .done))))))))))
noncomputable def r43x6V1 : Run := (.st 0 0 (.st 1 0 (.st 2 0 (.st 3 1 (.st 4 0 (.st 5 0 (.st 6 0 (.st 7 1 (.st 8 3 (.st 9 0 .done))))))))))
noncomputable def r44x6V1 : Run := (.st 0 0 (.st 1 0 (.st 2 0 (.st 3 1 (.st 4 0 (.st 5 0 (.st 6 0 (.st 7 1 (.st 8 3 (.st 9 0 .done))))))))))
set_option maxHeartbeats 8000000
theorem c_eqSeal {L : List Ent} (x : Seal) : RO Tryz.prog 184 [sealV x, sealV x] L (B true) := by
  refine Tri.of Tryz.func184 rfl rfl Tryz.ntmps184 rfl rfl ?_
  (repeat' (first | refine nI ?_ | (refine nA ?_; intro _) | refine nY ?_ | refine nR ?_ | refine WC_cond rfl (fun hc => ?_) (fun hc => ?_)))
  refine ro_ret (by exact kR) (by exact kL) ?_; rfl
theorem c_eqWant {L : List Ent} (x : Want) : RO Tryz.prog 211 [wantV x, wantV x] L (B true) := by
  refine Tri.of Tryz.func211 rfl rfl Tryz.ntmps211 rfl rfl ?_
  (repeat' (first | refine nI ?_ | (refine nA ?_; intro _) | refine nY ?_ | refine nR ?_ | refine WC_cond rfl (fun hc => ?_) (fun hc => ?_)))
  refine ro_ret (by exact kR) (by exact kL) ?_; rfl
theorem c_eqCall {L : List Ent} (x : Call) : RO Tryz.prog 213 [callV x, callV x] L (B true) := by
  refine Tri.of Tryz.func213 rfl rfl Tryz.ntmps213 rfl rfl ?_
  (repeat' (first | refine nI ?_ | (refine nA ?_; intro _) | refine nY ?_ | refine nR ?_ | refine WC_cond rfl (fun hc => ?_) (fun hc => ?_)))
  refine ro_ret (by exact kR) (by exact kL) ?_; rfl
theorem c_eqCred {L : List Ent} (x : Cred) : RO Tryz.prog 212 [credV x, credV x] L (B true) := by
  refine Tri.of Tryz.func212 rfl rfl Tryz.ntmps212 rfl rfl ?_
  (repeat' (first | refine nI ?_ | (refine nA ?_; intro _) | (refine nW ?_; first | (refine op_call_id ?_; refine op_ro rfl rfl (by exact c_eqSeal x.ticket) ?_)) | refine nY ?_ | refine nR ?_ | refine WC_cond rfl (fun hc => ?_) (fun hc => ?_)))
  refine ro_ret (by exact kR) (by exact kL) ?_; rfl
theorem c_eqSealS {L : List Ent} (s1 s2 : Sl) (xs : List Seal) (h1 : SliceAt L encSeal s1 xs) (h2 : SliceAt L encSeal s2 xs) : RO Tryz.prog 107 [s1.v, s2.v] L (B true) := by
  obtain ⟨a1, n1, c1⟩ := s1
  obtain ⟨a2, n2, c2⟩ := s2
  obtain ⟨hn1, hc1, hb1, hat1⟩ := h1
  obtain ⟨hn2, hc2, hb2, hat2⟩ := h2
  dsimp only at hn1 hn2 hat1 hat2
  subst hn1 hn2
  simp only [big] at hb1 hb2
  refine Tri.of Tryz.func107 rfl rfl Tryz.ntmps107 rfl rfl ?_
  (repeat' (first | refine nI ?_ | (refine nA ?_; intro _) | refine nY ?_ | refine WA_alt ?_ ?_ | refine nR ?_ | refine WC_drawL (id := 6) (ops := o107x6V1) r107x6V1 (by kernel_rfl) rfl ?_ | refine WC_cond rfl (fun hc => ?_) (fun hc => ?_)))
  refine WC_loop (fun mz Ez Mz => ∃ k : Nat, k + mz = (xs).length ∧ Ez = [(0, .slice a1 xs.length c1), (1, .slice a2 xs.length c2), (5, I k)] ∧ Mz = L ∧ (True)) (xs).length (by exact kQ) (by exact kL) ⟨0, by omega, rfl, rfl, by trivial⟩ ?_
  rintro mz Ez Mz ⟨k, hk, rfl, rfl, hin⟩
  rcases Nat.lt_or_ge k (xs).length with hlt | hge
  · obtain ⟨y1, hy1⟩ : ∃ y, (xs)[k]? = some y := ⟨(xs)[k]'(by omega), by simp [hlt]⟩; obtain ⟨b'1, o1, cs1, T1, fr1, rfl, hm1, hrow1⟩ := hat1 (by omega); have hrow'1 := hrow1 k y1 hy1; have htk1 := take_next hy1
    obtain ⟨b'2, o2, cs2, T2, fr2, rfl, hm2, hrow2⟩ := hat2 (by omega)
    have hrow'2 := hrow2 k _ hy1
    (repeat' (first | refine nI ?_ | (refine nA ?_; intro _) | (refine nW ?_; first | (refine op_call_id ?_; refine op_ro rfl rfl (by exact c_eqSeal y1) ?_)) | refine nY ?_ | refine WA_alt ?_ ?_ | refine nR ?_ | refine WC_drawL (id := 6) (ops := o107x6V1) r107x6V1 (by kernel_rfl) rfl ?_ | refine WC_cond rfl (fun hc => ?_) (fun hc => ?_)))
    exact loopQ_next ⟨mz - 1, _, _, by omega, by exact kQ, by exact kL, k + 1, by omega, rfl, rfl, by trivial⟩
  (repeat' (first | refine nI ?_ | (refine nA ?_; intro _) | refine nY ?_ | refine WA_alt ?_ ?_ | refine nR ?_ | refine WC_drawL (id := 6) (ops := o107x6V1) r107x6V1 (by kernel_rfl) rfl ?_ | refine WC_cond rfl (fun hc => ?_) (fun hc => ?_)))
  refine ro_ret (by exact kR) (by exact kL) ?_; rfl
theorem c_eqWantS {L : List Ent} (s1 s2 : Sl) (xs : List Want) (h1 : SliceAt L encWant s1 xs) (h2 : SliceAt L encWant s2 xs) : RO Tryz.prog 185 [s1.v, s2.v] L (B true) := by
  obtain ⟨a1, n1, c1⟩ := s1
  obtain ⟨a2, n2, c2⟩ := s2
  obtain ⟨hn1, hc1, hb1, hat1⟩ := h1
  obtain ⟨hn2, hc2, hb2, hat2⟩ := h2
  dsimp only at hn1 hn2 hat1 hat2
  subst hn1 hn2
  simp only [big] at hb1 hb2
  refine Tri.of Tryz.func185 rfl rfl Tryz.ntmps185 rfl rfl ?_
  (repeat' (first | refine nI ?_ | (refine nA ?_; intro _) | refine nY ?_ | refine WA_alt ?_ ?_ | refine nR ?_ | refine WC_drawL (id := 6) (ops := o185x6V1) r185x6V1 (by kernel_rfl) rfl ?_ | refine WC_cond rfl (fun hc => ?_) (fun hc => ?_)))
  refine WC_loop (fun mz Ez Mz => ∃ k : Nat, k + mz = (xs).length ∧ Ez = [(0, .slice a1 xs.length c1), (1, .slice a2 xs.length c2), (5, I k)] ∧ Mz = L ∧ (True)) (xs).length (by exact kQ) (by exact kL) ⟨0, by omega, rfl, rfl, by trivial⟩ ?_
  rintro mz Ez Mz ⟨k, hk, rfl, rfl, hin⟩
  rcases Nat.lt_or_ge k (xs).length with hlt | hge
  · obtain ⟨y1, hy1⟩ : ∃ y, (xs)[k]? = some y := ⟨(xs)[k]'(by omega), by simp [hlt]⟩; obtain ⟨b'1, o1, cs1, T1, fr1, rfl, hm1, hrow1⟩ := hat1 (by omega); have hrow'1 := hrow1 k y1 hy1; have htk1 := take_next hy1
    obtain ⟨b'2, o2, cs2, T2, fr2, rfl, hm2, hrow2⟩ := hat2 (by omega)
    have hrow'2 := hrow2 k _ hy1
    (repeat' (first | refine nI ?_ | (refine nA ?_; intro _) | (refine nW ?_; first | (refine op_call_id ?_; refine op_ro rfl rfl (by exact c_eqWant y1) ?_)) | refine nY ?_ | refine WA_alt ?_ ?_ | refine nR ?_ | refine WC_drawL (id := 6) (ops := o185x6V1) r185x6V1 (by kernel_rfl) rfl ?_ | refine WC_cond rfl (fun hc => ?_) (fun hc => ?_)))
    exact loopQ_next ⟨mz - 1, _, _, by omega, by exact kQ, by exact kL, k + 1, by omega, rfl, rfl, by trivial⟩
  (repeat' (first | refine nI ?_ | (refine nA ?_; intro _) | refine nY ?_ | refine WA_alt ?_ ?_ | refine nR ?_ | refine WC_drawL (id := 6) (ops := o185x6V1) r185x6V1 (by kernel_rfl) rfl ?_ | refine WC_cond rfl (fun hc => ?_) (fun hc => ?_)))
  refine ro_ret (by exact kR) (by exact kL) ?_; rfl
theorem c_eqCallS {L : List Ent} (s1 s2 : Sl) (xs : List Call) (h1 : SliceAt L encCall s1 xs) (h2 : SliceAt L encCall s2 xs) : RO Tryz.prog 187 [s1.v, s2.v] L (B true) := by
  obtain ⟨a1, n1, c1⟩ := s1
  obtain ⟨a2, n2, c2⟩ := s2
  obtain ⟨hn1, hc1, hb1, hat1⟩ := h1
  obtain ⟨hn2, hc2, hb2, hat2⟩ := h2
  dsimp only at hn1 hn2 hat1 hat2
  subst hn1 hn2
  simp only [big] at hb1 hb2
  refine Tri.of Tryz.func187 rfl rfl Tryz.ntmps187 rfl rfl ?_
  (repeat' (first | refine nI ?_ | (refine nA ?_; intro _) | refine nY ?_ | refine WA_alt ?_ ?_ | refine nR ?_ | refine WC_drawL (id := 6) (ops := o187x6V1) r187x6V1 (by kernel_rfl) rfl ?_ | refine WC_cond rfl (fun hc => ?_) (fun hc => ?_)))
  refine WC_loop (fun mz Ez Mz => ∃ k : Nat, k + mz = (xs).length ∧ Ez = [(0, .slice a1 xs.length c1), (1, .slice a2 xs.length c2), (5, I k)] ∧ Mz = L ∧ (True)) (xs).length (by exact kQ) (by exact kL) ⟨0, by omega, rfl, rfl, by trivial⟩ ?_
  rintro mz Ez Mz ⟨k, hk, rfl, rfl, hin⟩
  rcases Nat.lt_or_ge k (xs).length with hlt | hge
  · obtain ⟨y1, hy1⟩ : ∃ y, (xs)[k]? = some y := ⟨(xs)[k]'(by omega), by simp [hlt]⟩; obtain ⟨b'1, o1, cs1, T1, fr1, rfl, hm1, hrow1⟩ := hat1 (by omega); have hrow'1 := hrow1 k y1 hy1; have htk1 := take_next hy1
    obtain ⟨b'2, o2, cs2, T2, fr2, rfl, hm2, hrow2⟩ := hat2 (by omega)
    have hrow'2 := hrow2 k _ hy1
    (repeat' (first | refine nI ?_ | (refine nA ?_; intro _) | (refine nW ?_; first | (refine op_call_id ?_; refine op_ro rfl rfl (by exact c_eqCall y1) ?_)) | refine nY ?_ | refine WA_alt ?_ ?_ | refine nR ?_ | refine WC_drawL (id := 6) (ops := o187x6V1) r187x6V1 (by kernel_rfl) rfl ?_ | refine WC_cond rfl (fun hc => ?_) (fun hc => ?_)))
    exact loopQ_next ⟨mz - 1, _, _, by omega, by exact kQ, by exact kL, k + 1, by omega, rfl, rfl, by trivial⟩
  (repeat' (first | refine nI ?_ | (refine nA ?_; intro _) | refine nY ?_ | refine WA_alt ?_ ?_ | refine nR ?_ | refine WC_drawL (id := 6) (ops := o187x6V1) r187x6V1 (by kernel_rfl) rfl ?_ | refine WC_cond rfl (fun hc => ?_) (fun hc => ?_)))
  refine ro_ret (by exact kR) (by exact kL) ?_; rfl
theorem c_eqCredS {L : List Ent} (s1 s2 : Sl) (xs : List Cred) (h1 : SliceAt L encCred s1 xs) (h2 : SliceAt L encCred s2 xs) : RO Tryz.prog 186 [s1.v, s2.v] L (B true) := by
  obtain ⟨a1, n1, c1⟩ := s1
  obtain ⟨a2, n2, c2⟩ := s2
  obtain ⟨hn1, hc1, hb1, hat1⟩ := h1
  obtain ⟨hn2, hc2, hb2, hat2⟩ := h2
  dsimp only at hn1 hn2 hat1 hat2
  subst hn1 hn2
  simp only [big] at hb1 hb2
  refine Tri.of Tryz.func186 rfl rfl Tryz.ntmps186 rfl rfl ?_
  (repeat' (first | refine nI ?_ | (refine nA ?_; intro _) | refine nY ?_ | refine WA_alt ?_ ?_ | refine nR ?_ | refine WC_drawL (id := 6) (ops := o186x6V1) r186x6V1 (by kernel_rfl) rfl ?_ | refine WC_cond rfl (fun hc => ?_) (fun hc => ?_)))
  refine WC_loop (fun mz Ez Mz => ∃ k : Nat, k + mz = (xs).length ∧ Ez = [(0, .slice a1 xs.length c1), (1, .slice a2 xs.length c2), (5, I k)] ∧ Mz = L ∧ (True)) (xs).length (by exact kQ) (by exact kL) ⟨0, by omega, rfl, rfl, by trivial⟩ ?_
  rintro mz Ez Mz ⟨k, hk, rfl, rfl, hin⟩
  rcases Nat.lt_or_ge k (xs).length with hlt | hge
  · obtain ⟨y1, hy1⟩ : ∃ y, (xs)[k]? = some y := ⟨(xs)[k]'(by omega), by simp [hlt]⟩; obtain ⟨b'1, o1, cs1, T1, fr1, rfl, hm1, hrow1⟩ := hat1 (by omega); have hrow'1 := hrow1 k y1 hy1; have htk1 := take_next hy1
    obtain ⟨b'2, o2, cs2, T2, fr2, rfl, hm2, hrow2⟩ := hat2 (by omega)
    have hrow'2 := hrow2 k _ hy1
    (repeat' (first | refine nI ?_ | (refine nA ?_; intro _) | (refine nW ?_; first | (refine op_call_id ?_; refine op_ro rfl rfl (by exact c_eqCred y1) ?_)) | refine nY ?_ | refine WA_alt ?_ ?_ | refine nR ?_ | refine WC_drawL (id := 6) (ops := o186x6V1) r186x6V1 (by kernel_rfl) rfl ?_ | refine WC_cond rfl (fun hc => ?_) (fun hc => ?_)))
    exact loopQ_next ⟨mz - 1, _, _, by omega, by exact kQ, by exact kL, k + 1, by omega, rfl, rfl, by trivial⟩
  (repeat' (first | refine nI ?_ | (refine nA ?_; intro _) | refine nY ?_ | refine WA_alt ?_ ?_ | refine nR ?_ | refine WC_drawL (id := 6) (ops := o186x6V1) r186x6V1 (by kernel_rfl) rfl ?_ | refine WC_cond rfl (fun hc => ?_) (fun hc => ?_)))
  refine ro_ret (by exact kR) (by exact kL) ?_; rfl
theorem c_eqMsg {L : List Ent} (m : Msg) (s1 s2 : Sl) (h1 : MsgAt L m s1) (h2 : MsgAt L m s2) : RO Tryz.prog 45 [msgV m s1, msgV m s2] L (B true) := by
  refine Tri.of Tryz.func45 rfl rfl Tryz.ntmps45 rfl rfl ?_
  (repeat' (first | refine nI ?_ | (refine nA ?_; intro _) | (refine nW ?_; first | (refine op_call_id ?_; refine op_ro rfl rfl (by exact c_eqSealS s1 s2 m.seals (h1.mono (by exact kS)) (h2.mono (by exact kS))) ?_)) | refine nY ?_ | refine nR ?_ | refine WC_cond rfl (fun hc => ?_) (fun hc => ?_)))
  refine ro_ret (by exact kR) (by exact kL) ?_; rfl
theorem c_eqKdc {L : List Ent} (k : Kdc) (s1 s2 : Sl) (h1 : SliceAt L encSeal s1 k.cache) (h2 : SliceAt L encSeal s2 k.cache) : RO Tryz.prog 41 [.agg [I k.next, s1.v].toArray, .agg [I k.next, s2.v].toArray] L (B true) := by
  refine Tri.of Tryz.func41 rfl rfl Tryz.ntmps41 rfl rfl ?_
  (repeat' (first | refine nI ?_ | (refine nA ?_; intro _) | (refine nW ?_; first | (refine op_call_id ?_; refine op_ro rfl rfl (by exact c_eqSealS s1 s2 k.cache (h1.mono (by exact kS)) (h2.mono (by exact kS))) ?_)) | refine nY ?_ | refine nR ?_ | refine WC_cond rfl (fun hc => ?_) (fun hc => ?_)))
  refine ro_ret (by exact kR) (by exact kL) ?_; rfl
theorem c_eqEvent {L : List Ent} (e : Event) (s1 s2 : Sl) (h1 : MsgAt L e.msg s1) (h2 : MsgAt L e.msg s2) : RO Tryz.prog 13 [eventV e s1, eventV e s2] L (B true) := by
  refine Tri.of Tryz.func13 rfl rfl Tryz.ntmps13 rfl rfl ?_
  (repeat' (first | refine nI ?_ | (refine nA ?_; intro _) | (refine nW ?_; first | (refine op_call_id ?_; refine op_ro rfl rfl (by exact c_eqMsg e.msg s1 s2 (h1.mono (by exact kS)) (h2.mono (by exact kS))) ?_)) | refine nY ?_ | refine nR ?_ | refine WC_cond rfl (fun hc => ?_) (fun hc => ?_)))
  refine ro_ret (by exact kR) (by exact kL) ?_; rfl
theorem c_eqServ {L : List Ent} (v : Serv) (s1 s2 : Sl × Sl) (h1 : SrvAt L (v, s1)) (h2 : SrvAt L (v, s2)) : RO Tryz.prog 109 [servV v s1.1 s1.2, servV v s2.1 s2.2] L (B true) := by
  obtain ⟨p1, q1⟩ := s1
  obtain ⟨p2, q2⟩ := s2
  refine Tri.of Tryz.func109 rfl rfl Tryz.ntmps109 rfl rfl ?_
  (repeat' (first | refine nI ?_ | (refine nA ?_; intro _) | (refine nW ?_; first | (refine op_call_id ?_; refine op_ro rfl rfl (by first | exact c_eqSealS p1 p2 v.cache (h1.c.mono (by exact kS)) (h2.c.mono (by exact kS)) | exact c_eqCallS q1 q2 v.took (h1.t.mono (by exact kS)) (h2.t.mono (by exact kS))) ?_)) | refine nY ?_ | refine nR ?_ | refine WC_cond rfl (fun hc => ?_) (fun hc => ?_)))
  refine ro_ret (by exact kR) (by exact kL) ?_; rfl
theorem c_eqClient {L : List Ent} (c : Client) (s1 s2 : CSl) (h1 : CliAt L (c, s1)) (h2 : CliAt L (c, s2)) : RO Tryz.prog 108 [clientV c s1, clientV c s2] L (B true) := by
  obtain ⟨p1, q1, r1, t1⟩ := s1
  obtain ⟨p2, q2, r2, t2⟩ := s2
  refine Tri.of Tryz.func108 rfl rfl Tryz.ntmps108 rfl rfl ?_
  (repeat' (first | refine nI ?_ | (refine nA ?_; intro _) | (refine nW ?_; first | (refine op_call_id ?_; refine op_ro rfl rfl (by first | exact c_eqWantS p1 p2 c.wants (h1.w.mono (by exact kS)) (h2.w.mono (by exact kS)) | exact c_eqCredS q1 q2 c.creds (h1.c.mono (by exact kS)) (h2.c.mono (by exact kS)) | exact c_eqCallS r1 r2 c.sent (h1.s.mono (by exact kS)) (h2.s.mono (by exact kS)) | exact c_eqCallS t1 t2 c.met (h1.m.mono (by exact kS)) (h2.m.mono (by exact kS))) ?_)) | refine nY ?_ | refine nR ?_ | refine WC_cond rfl (fun hc => ?_) (fun hc => ?_)))
  refine ro_ret (by exact kR) (by exact kL) ?_; rfl
theorem map_at {X Y : Type} {f g : X → Y} {xs ys : List X} (he : xs.map f = ys.map g) {k : Nat} {x : X} (h : xs[k]? = some x) : ∃ y, ys[k]? = some y ∧ f x = g y := by
  have h1 : (xs.map f)[k]? = some (f x) := by rw [List.getElem?_map, h]; rfl
  rw [he, List.getElem?_map] at h1
  obtain ⟨y, hy, e⟩ := Option.map_eq_some_iff.1 h1
  exact ⟨y, hy, e.symm⟩
theorem c_eqClientS {L : List Ent} (s1 s2 : Sl) (xs ys : List (Client × CSl)) (he : xs.map Prod.fst = ys.map Prod.fst) (h1 : SliceAt L encClient s1 xs) (h2 : SliceAt L encClient s2 ys) (hx : ∀ p ∈ xs, CliAt L p) (hy : ∀ p ∈ ys, CliAt L p) : RO Tryz.prog 42 [s1.v, s2.v] L (B true) := by
  obtain ⟨a1, n1, c1⟩ := s1
  obtain ⟨a2, n2, c2⟩ := s2
  have hle : xs.length = ys.length := by rw [← List.length_map (f := Prod.fst), he, List.length_map]
  obtain ⟨hn1, hc1, hb1, hat1⟩ := h1
  obtain ⟨hn2, hc2, hb2, hat2⟩ := h2
  dsimp only at hn1 hn2 hat1 hat2
  subst hn1 hn2
  simp only [big] at hb1 hb2
  refine Tri.of Tryz.func42 rfl rfl Tryz.ntmps42 rfl rfl ?_
  (repeat' (first | refine nI ?_ | (refine nA ?_; intro _) | refine nY ?_ | refine WA_alt ?_ ?_ | refine nR ?_ | refine WC_drawL (id := 6) (ops := o42x6V1) r42x6V1 (by kernel_rfl) rfl ?_ | refine WC_cond rfl (fun hc => ?_) (fun hc => ?_)))
  refine WC_loop (fun mz Ez Mz => ∃ k : Nat, k + mz = (xs).length ∧ Ez = [(0, .slice a1 xs.length c1), (1, .slice a2 ys.length c2), (5, I k)] ∧ Mz = L ∧ (True)) (xs).length (by exact kQ) (by exact kL) ⟨0, by omega, rfl, rfl, by trivial⟩ ?_
  rintro mz Ez Mz ⟨k, hk, rfl, rfl, hin⟩
  rcases Nat.lt_or_ge k (xs).length with hlt | hge
  · obtain ⟨y1, hy1⟩ : ∃ y, (xs)[k]? = some y := ⟨(xs)[k]'(by omega), by simp [hlt]⟩; obtain ⟨b'1, o1, cs1, T1, fr1, rfl, hm1, hrow1⟩ := hat1 (by omega); have hrow'1 := hrow1 k y1 hy1; have htk1 := take_next hy1
    obtain ⟨y2, hy2, e2⟩ := map_at he hy1
    obtain ⟨b'2, o2, cs2, T2, fr2, rfl, hm2, hrow2⟩ := hat2 (by omega)
    have hrow'2 := hrow2 k _ hy2
    have ha1 := hx y1 (List.mem_of_getElem? hy1)
    have ha2 := hy y2 (List.mem_of_getElem? hy2)
    obtain ⟨v1, q1⟩ := y1
    obtain ⟨v2, q2⟩ := y2
    dsimp only at e2
    subst e2
    (repeat' (first | refine nI ?_ | (refine nA ?_; intro _) | (refine nW ?_; first | (refine op_call_id ?_; refine op_ro rfl rfl (by exact c_eqClient v1 q1 q2 (ha1.mono (by exact kS)) (ha2.mono (by exact kS))) ?_)) | refine nY ?_ | refine WA_alt ?_ ?_ | refine nR ?_ | refine WC_drawL (id := 6) (ops := o42x6V1) r42x6V1 (by kernel_rfl) rfl ?_ | refine WC_cond rfl (fun hc => ?_) (fun hc => ?_)))
    exact loopQ_next ⟨mz - 1, _, _, by omega, by exact kQ, by exact kL, k + 1, by omega, rfl, rfl, by trivial⟩
  (repeat' (first | refine nI ?_ | (refine nA ?_; intro _) | refine nY ?_ | refine WA_alt ?_ ?_ | refine nR ?_ | refine WC_drawL (id := 6) (ops := o42x6V1) r42x6V1 (by kernel_rfl) rfl ?_ | refine WC_cond rfl (fun hc => ?_) (fun hc => ?_)))
  refine ro_ret (by exact kR) (by exact kL) ?_; rfl
theorem c_eqServS {L : List Ent} (s1 s2 : Sl) (xs ys : List (Serv × (Sl × Sl))) (he : xs.map Prod.fst = ys.map Prod.fst) (h1 : SliceAt L encServ s1 xs) (h2 : SliceAt L encServ s2 ys) (hx : ∀ p ∈ xs, SrvAt L p) (hy : ∀ p ∈ ys, SrvAt L p) : RO Tryz.prog 43 [s1.v, s2.v] L (B true) := by
  obtain ⟨a1, n1, c1⟩ := s1
  obtain ⟨a2, n2, c2⟩ := s2
  have hle : xs.length = ys.length := by rw [← List.length_map (f := Prod.fst), he, List.length_map]
  obtain ⟨hn1, hc1, hb1, hat1⟩ := h1
  obtain ⟨hn2, hc2, hb2, hat2⟩ := h2
  dsimp only at hn1 hn2 hat1 hat2
  subst hn1 hn2
  simp only [big] at hb1 hb2
  refine Tri.of Tryz.func43 rfl rfl Tryz.ntmps43 rfl rfl ?_
  (repeat' (first | refine nI ?_ | (refine nA ?_; intro _) | refine nY ?_ | refine WA_alt ?_ ?_ | refine nR ?_ | refine WC_drawL (id := 6) (ops := o43x6V1) r43x6V1 (by kernel_rfl) rfl ?_ | refine WC_cond rfl (fun hc => ?_) (fun hc => ?_)))
  refine WC_loop (fun mz Ez Mz => ∃ k : Nat, k + mz = (xs).length ∧ Ez = [(0, .slice a1 xs.length c1), (1, .slice a2 ys.length c2), (5, I k)] ∧ Mz = L ∧ (True)) (xs).length (by exact kQ) (by exact kL) ⟨0, by omega, rfl, rfl, by trivial⟩ ?_
  rintro mz Ez Mz ⟨k, hk, rfl, rfl, hin⟩
  rcases Nat.lt_or_ge k (xs).length with hlt | hge
  · obtain ⟨y1, hy1⟩ : ∃ y, (xs)[k]? = some y := ⟨(xs)[k]'(by omega), by simp [hlt]⟩; obtain ⟨b'1, o1, cs1, T1, fr1, rfl, hm1, hrow1⟩ := hat1 (by omega); have hrow'1 := hrow1 k y1 hy1; have htk1 := take_next hy1
    obtain ⟨y2, hy2, e2⟩ := map_at he hy1
    obtain ⟨b'2, o2, cs2, T2, fr2, rfl, hm2, hrow2⟩ := hat2 (by omega)
    have hrow'2 := hrow2 k _ hy2
    have ha1 := hx y1 (List.mem_of_getElem? hy1)
    have ha2 := hy y2 (List.mem_of_getElem? hy2)
    obtain ⟨v1, q1⟩ := y1
    obtain ⟨v2, q2⟩ := y2
    dsimp only at e2
    subst e2
    (repeat' (first | refine nI ?_ | (refine nA ?_; intro _) | (refine nW ?_; first | (refine op_call_id ?_; refine op_ro rfl rfl (by exact c_eqServ v1 q1 q2 (ha1.mono (by exact kS)) (ha2.mono (by exact kS))) ?_)) | refine nY ?_ | refine WA_alt ?_ ?_ | refine nR ?_ | refine WC_drawL (id := 6) (ops := o43x6V1) r43x6V1 (by kernel_rfl) rfl ?_ | refine WC_cond rfl (fun hc => ?_) (fun hc => ?_)))
    exact loopQ_next ⟨mz - 1, _, _, by omega, by exact kQ, by exact kL, k + 1, by omega, rfl, rfl, by trivial⟩
  (repeat' (first | refine nI ?_ | (refine nA ?_; intro _) | refine nY ?_ | refine WA_alt ?_ ?_ | refine nR ?_ | refine WC_drawL (id := 6) (ops := o43x6V1) r43x6V1 (by kernel_rfl) rfl ?_ | refine WC_cond rfl (fun hc => ?_) (fun hc => ?_)))
  refine ro_ret (by exact kR) (by exact kL) ?_; rfl
theorem c_eqMsgS {L : List Ent} (s1 s2 : Sl) (xs ys : List (Msg × Sl)) (he : xs.map Prod.fst = ys.map Prod.fst) (h1 : SliceAt L encMsg s1 xs) (h2 : SliceAt L encMsg s2 ys) (hx : ∀ p ∈ xs, MsgAt L p.1 p.2) (hy : ∀ p ∈ ys, MsgAt L p.1 p.2) : RO Tryz.prog 44 [s1.v, s2.v] L (B true) := by
  obtain ⟨a1, n1, c1⟩ := s1
  obtain ⟨a2, n2, c2⟩ := s2
  have hle : xs.length = ys.length := by rw [← List.length_map (f := Prod.fst), he, List.length_map]
  obtain ⟨hn1, hc1, hb1, hat1⟩ := h1
  obtain ⟨hn2, hc2, hb2, hat2⟩ := h2
  dsimp only at hn1 hn2 hat1 hat2
  subst hn1 hn2
  simp only [big] at hb1 hb2
  refine Tri.of Tryz.func44 rfl rfl Tryz.ntmps44 rfl rfl ?_
  (repeat' (first | refine nI ?_ | (refine nA ?_; intro _) | refine nY ?_ | refine WA_alt ?_ ?_ | refine nR ?_ | refine WC_drawL (id := 6) (ops := o44x6V1) r44x6V1 (by kernel_rfl) rfl ?_ | refine WC_cond rfl (fun hc => ?_) (fun hc => ?_)))
  refine WC_loop (fun mz Ez Mz => ∃ k : Nat, k + mz = (xs).length ∧ Ez = [(0, .slice a1 xs.length c1), (1, .slice a2 ys.length c2), (5, I k)] ∧ Mz = L ∧ (True)) (xs).length (by exact kQ) (by exact kL) ⟨0, by omega, rfl, rfl, by trivial⟩ ?_
  rintro mz Ez Mz ⟨k, hk, rfl, rfl, hin⟩
  rcases Nat.lt_or_ge k (xs).length with hlt | hge
  · obtain ⟨y1, hy1⟩ : ∃ y, (xs)[k]? = some y := ⟨(xs)[k]'(by omega), by simp [hlt]⟩; obtain ⟨b'1, o1, cs1, T1, fr1, rfl, hm1, hrow1⟩ := hat1 (by omega); have hrow'1 := hrow1 k y1 hy1; have htk1 := take_next hy1
    obtain ⟨y2, hy2, e2⟩ := map_at he hy1
    obtain ⟨b'2, o2, cs2, T2, fr2, rfl, hm2, hrow2⟩ := hat2 (by omega)
    have hrow'2 := hrow2 k _ hy2
    have ha1 := hx y1 (List.mem_of_getElem? hy1)
    have ha2 := hy y2 (List.mem_of_getElem? hy2)
    obtain ⟨v1, q1⟩ := y1
    obtain ⟨v2, q2⟩ := y2
    dsimp only at e2
    subst e2
    (repeat' (first | refine nI ?_ | (refine nA ?_; intro _) | (refine nW ?_; first | (refine op_call_id ?_; refine op_ro rfl rfl (by exact c_eqMsg v1 q1 q2 (ha1.mono (by exact kS)) (ha2.mono (by exact kS))) ?_)) | refine nY ?_ | refine WA_alt ?_ ?_ | refine nR ?_ | refine WC_drawL (id := 6) (ops := o44x6V1) r44x6V1 (by kernel_rfl) rfl ?_ | refine WC_cond rfl (fun hc => ?_) (fun hc => ?_)))
    exact loopQ_next ⟨mz - 1, _, _, by omega, by exact kQ, by exact kL, k + 1, by omega, rfl, rfl, by trivial⟩
  (repeat' (first | refine nI ?_ | (refine nA ?_; intro _) | refine nY ?_ | refine WA_alt ?_ ?_ | refine nR ?_ | refine WC_drawL (id := 6) (ops := o44x6V1) r44x6V1 (by kernel_rfl) rfl ?_ | refine WC_cond rfl (fun hc => ?_) (fun hc => ?_)))
  refine ro_ret (by exact kR) (by exact kL) ?_; rfl
theorem c_eqEventS {L : List Ent} (s1 s2 : Sl) (xs ys : List (Event × Sl)) (he : xs.map Prod.fst = ys.map Prod.fst) (h1 : SliceAt L encEvent s1 xs) (h2 : SliceAt L encEvent s2 ys) (hx : ∀ p ∈ xs, MsgAt L p.1.msg p.2) (hy : ∀ p ∈ ys, MsgAt L p.1.msg p.2) : RO Tryz.prog 21 [s1.v, s2.v] L (B true) := by
  obtain ⟨a1, n1, c1⟩ := s1
  obtain ⟨a2, n2, c2⟩ := s2
  have hle : xs.length = ys.length := by rw [← List.length_map (f := Prod.fst), he, List.length_map]
  obtain ⟨hn1, hc1, hb1, hat1⟩ := h1
  obtain ⟨hn2, hc2, hb2, hat2⟩ := h2
  dsimp only at hn1 hn2 hat1 hat2
  subst hn1 hn2
  simp only [big] at hb1 hb2
  refine Tri.of Tryz.func21 rfl rfl Tryz.ntmps21 rfl rfl ?_
  (repeat' (first | refine nI ?_ | (refine nA ?_; intro _) | refine nY ?_ | refine WA_alt ?_ ?_ | refine nR ?_ | refine WC_drawL (id := 6) (ops := o21x6V1) r21x6V1 (by kernel_rfl) rfl ?_ | refine WC_cond rfl (fun hc => ?_) (fun hc => ?_)))
  refine WC_loop (fun mz Ez Mz => ∃ k : Nat, k + mz = (xs).length ∧ Ez = [(0, .slice a1 xs.length c1), (1, .slice a2 ys.length c2), (5, I k)] ∧ Mz = L ∧ (True)) (xs).length (by exact kQ) (by exact kL) ⟨0, by omega, rfl, rfl, by trivial⟩ ?_
  rintro mz Ez Mz ⟨k, hk, rfl, rfl, hin⟩
  rcases Nat.lt_or_ge k (xs).length with hlt | hge
  · obtain ⟨y1, hy1⟩ : ∃ y, (xs)[k]? = some y := ⟨(xs)[k]'(by omega), by simp [hlt]⟩; obtain ⟨b'1, o1, cs1, T1, fr1, rfl, hm1, hrow1⟩ := hat1 (by omega); have hrow'1 := hrow1 k y1 hy1; have htk1 := take_next hy1
    obtain ⟨y2, hy2, e2⟩ := map_at he hy1
    obtain ⟨b'2, o2, cs2, T2, fr2, rfl, hm2, hrow2⟩ := hat2 (by omega)
    have hrow'2 := hrow2 k _ hy2
    have ha1 := hx y1 (List.mem_of_getElem? hy1)
    have ha2 := hy y2 (List.mem_of_getElem? hy2)
    obtain ⟨v1, q1⟩ := y1
    obtain ⟨v2, q2⟩ := y2
    dsimp only at e2
    subst e2
    (repeat' (first | refine nI ?_ | (refine nA ?_; intro _) | (refine nW ?_; first | (refine op_call_id ?_; refine op_ro rfl rfl (by exact c_eqEvent v1 q1 q2 (ha1.mono (by exact kS)) (ha2.mono (by exact kS))) ?_)) | refine nY ?_ | refine WA_alt ?_ ?_ | refine nR ?_ | refine WC_drawL (id := 6) (ops := o21x6V1) r21x6V1 (by kernel_rfl) rfl ?_ | refine WC_cond rfl (fun hc => ?_) (fun hc => ?_)))
    exact loopQ_next ⟨mz - 1, _, _, by omega, by exact kQ, by exact kL, k + 1, by omega, rfl, rfl, by trivial⟩
  (repeat' (first | refine nI ?_ | (refine nA ?_; intro _) | refine nY ?_ | refine WA_alt ?_ ?_ | refine nR ?_ | refine WC_drawL (id := 6) (ops := o21x6V1) r21x6V1 (by kernel_rfl) rfl ?_ | refine WC_cond rfl (fun hc => ?_) (fun hc => ?_)))
  refine ro_ret (by exact kR) (by exact kL) ?_; rfl
theorem c_eqWorld {L : List Ent} (w : World) (q1 q2 : WSl) (ps1 ps2 : List (Client × CSl)) (ss1 ss2 : List (Serv × (Sl × Sl))) (ms1 ms2 : List (Msg × Sl)) (h1 : WldAt L w q1 ps1 ss1 ms1) (h2 : WldAt L w q2 ps2 ss2 ms2) : RO Tryz.prog 12 [worldV w q1, worldV w q2] L (B true) := by
  obtain ⟨k1, c1, s1, l1⟩ := q1
  obtain ⟨k2, c2, s2, l2⟩ := q2
  refine Tri.of Tryz.func12 rfl rfl Tryz.ntmps12 rfl rfl ?_
  (repeat' (first | refine nI ?_ | (refine nA ?_; intro _) | (refine nW ?_; first | (refine op_call_id ?_; refine op_ro rfl rfl (by first | exact c_eqKdc w.kdc k1 k2 (h1.kc.mono (by exact kS)) (h2.kc.mono (by exact kS)) | exact c_eqClientS c1 c2 ps1 ps2 (h1.pe.trans h2.pe.symm) (h1.pr.mono (by exact kS)) (h2.pr.mono (by exact kS)) (fun p hp => (h1.pa p hp).mono (by exact kS)) (fun p hp => (h2.pa p hp).mono (by exact kS)) | exact c_eqServS s1 s2 ss1 ss2 (h1.se.trans h2.se.symm) (h1.sr.mono (by exact kS)) (h2.sr.mono (by exact kS)) (fun p hp => (h1.sa p hp).mono (by exact kS)) (fun p hp => (h2.sa p hp).mono (by exact kS)) | exact c_eqMsgS l1 l2 ms1 ms2 (h1.me.trans h2.me.symm) (h1.mr.mono (by exact kS)) (h2.mr.mono (by exact kS)) (fun p hp => (h1.ma p hp).mono (by exact kS)) (fun p hp => (h2.ma p hp).mono (by exact kS))) ?_)) | refine nY ?_ | refine nR ?_ | refine WC_cond rfl (fun hc => ?_) (fun hc => ?_)))
  refine ro_ret (by exact kR) (by exact kL) ?_; rfl
end Go.Proofs.YtoledfhjmdpihaaGreat
