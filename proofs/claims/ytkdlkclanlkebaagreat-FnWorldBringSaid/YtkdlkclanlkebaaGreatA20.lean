/- The reference: worlds anew, and what happens in them. -/
import Derived.Test.YtkdlkclanlkebaaGreatA15
import Derived.Test.YtkdlkclanlkebaaGreatA16
import Derived.Test.YtkdlkclanlkebaaGreatA17
import Derived.Test.YtkdlkclanlkebaaGreatA18
import Derived.Test.YtkdlkclanlkebaaGreatA19
import Derived.Test.YtkdlkclanlkebaaGreatA12
import Derived.Test.YtkdlkclanlkebaaGreatA11
set_option linter.unusedVariables false
set_option linter.unusedSectionVars false
set_option linter.unusedSimpArgs false
namespace Go.Proofs.YtkdlkclanlkebaaGreat
open Go Go.Proofs Go.Proofs.YtkdlkclanlkebaaGreat.VE
attribute [local irreducible] Val Op1 WO WR WA WC seqQ blockQ loopQ retQ
noncomputable def o147x1N10 : Array Oper := cops (cl (cr (codeOf Tryz.f147)))
noncomputable def o148x1N10 : Array Oper := cops (cl (cr (codeOf Tryz.f148)))
noncomputable def o149x1N10 : Array Oper := cops (cl (cr (codeOf Tryz.f149)))
noncomputable def o52x3N10 : Array Oper := cops (cl (cr (cr (codeOf Tryz.f52))))
noncomputable def o89x13N10 : Array Oper := cops (cl (cl (cr (cl (cl (cr (cl (cr (cr (cr (cr (codeOf Tryz.f89))))))))))))
noncomputable def o89x1N10 : Array Oper := cops (cl (cr (codeOf Tryz.f89)))
noncomputable def o89x5N10 : Array Oper := cops (cl (cl (cr (cl (cl (cr (cl (cr (cr (codeOf Tryz.f89))))))))))
noncomputable def o89x9N10 : Array Oper := cops (cl (cl (cr (cl (cl (cr (cl (cr (cr (cr (codeOf Tryz.f89)))))))))))
noncomputable def r147x1N10 : Run := (.st 0 0 (.st 1 1 (.st 3 0 (.st 4 1 (.st 2 2 (.st 5 2 (.st 6 0 (.st 7 3 .done))))))))
noncomputable def r148x1N10 : Run := (.st 0 0 (.st 1 1 (.st 2 0 (.st 3 1 (.st 5 0 (.st 6 1 (.st 9 0 (.st 10 1 (.st 13 0 (.st 14 1 (.st 17 0 (.st 18 1 (.alt (.st 4 2 (.alt (.st 7 2 (.alt (.st 8 2 (.alt (.st 11 2 (.alt (.st 12 2 (.alt (.st 15 2 (.st 16 2 (.st 19 2 (.st 20 0 (.st 21 3 .done))))) (.st 16 2 (.st 15 2 (.st 19 2 (.st 20 0 (.st 21 3 .done))))))) (.st 16 2 (.st 12 2 (.st 15 2 (.st 19 2 (.st 20 0 (.st 21 3 .done)))))))) (.alt (.st 12 2 (.alt (.st 11 2 (.alt (.st 15 2 (.st 16 2 (.st 19 2 (.st 20 0 (.st 21 3 .done))))) (.st 16 2 (.st 15 2 (.st 19 2 (.st 20 0 (.st 21 3 .done))))))) (.st 16 2 (.st 11 2 (.st 15 2 (.st 19 2 (.st 20 0 (.st 21 3 .done)))))))) (.st 16 2 (.alt (.st 11 2 (.st 12 2 (.st 15 2 (.st 19 2 (.st 20 0 (.st 21 3 .done)))))) (.st 12 2 (.st 11 2 (.st 15 2 (.st 19 2 (.st 20 0 (.st 21 3 .done))))))))))) (.alt (.st 12 2 (.alt (.st 8 2 (.alt (.st 11 2 (.alt (.st 15 2 (.st 16 2 (.st 19 2 (.st 20 0 (.st 21 3 .done))))) (.st 16 2 (.st 15 2 (.st 19 2 (.st 20 0 (.st 21 3 .done))))))) (.st 16 2 (.st 11 2 (.st 15 2 (.st 19 2 (.st 20 0 (.st 21 3 .done)))))))) (.st 16 2 (.st 8 2 (.st 11 2 (.st 15 2 (.st 19 2 (.st 20 0 (.st 21 3 .done))))))))) (.st 16 2 (.alt (.st 8 2 (.alt (.st 11 2 (.st 12 2 (.st 15 2 (.st 19 2 (.st 20 0 (.st 21 3 .done)))))) (.st 12 2 (.st 11 2 (.st 15 2 (.st 19 2 (.st 20 0 (.st 21 3 .done)))))))) (.st 12 2 (.st 8 2 (.st 11 2 (.st 15 2 (.st 19 2 (.st 20 0 (.st 21 3 .done)))))))))))) (.alt (.st 8 2 (.alt (.st 7 2 (.alt (.st 11 2 (.alt (.st 12 2 (.alt (.st 15 2 (.st 16 2 (.st 19 2 (.st 20 0 (.st 21 3 .done))))) (.st 16 2 (.st 15 2 (.st 19 2 (.st 20 0 (.st 21 3 .done))))))) (.st 16 2 (.st 12 2 (.st 15 2 (.st 19 2 (.st 20 0 (.st 21 3 .done)))))))) (.alt (.st 12 2 (.alt (.st 11 2 (.alt (.st 15 2 (.st 16 2 (.st 19 2 (.st 20 0 (.st 21 3 .done))))) (.st 16 2 (.st 15 2 (.st 19 2 (.st 20 0 (.st 21 3 .done))))))) (.st 16 2 (.st 11 2 (.st 15 2 (.st 19 2 (.st 20 0 (.st 21 3 .done)))))))) (.st 16 2 (.alt (.st 11 2 (.st 12 2 (.st 15 2 (.st 19 2 (.st 20 0 (.st 21 3 .done)))))) (.st 12 2 (.st 11 2 (.st 15 2 (.st 19 2 (.st 20 0 (.st 21 3 .done))))))))))) (.alt (.st 12 2 (.alt (.st 7 2 (.alt (.st 11 2 (.alt (.st 15 2 (.st 16 2 (.st 19 2 (.st 20 0 (.st 21 3 .done))))) (.st 16 2 (.st 15 2 (.st 19 2 (.st 20 0 (.st 21 3 .done))))))) (.st 16 2 (.st 11 2 (.st 15 2 (.st 19 2 (.st 20 0 (.st 21 3 .done)))))))) (.st 16 2 (.st 7 2 (.st 11 2 (.st 15 2 (.st 19 2 (.st 20 0 (.st 21 3 .done))))))))) (.st 16 2 (.alt (.st 7 2 (.alt (.st 11 2 (.st 12 2 (.st 15 2 (.st 19 2 (.st 20 0 (.st 21 3 .done)))))) (.st 12 2 (.st 11 2 (.st 15 2 (.st 19 2 (.st 20 0 (.st 21 3 .done)))))))) (.st 12 2 (.st 7 2 (.st 11 2 (.st 15 2 (.st 19 2 (.st 20 0 (.st 21 3 .done)))))))))))) (.alt (.st 12 2 (.alt (.st 7 2 (.alt (.st 8 2 (.alt (.st 11 2 (.alt (.st 15 2 (.st 16 2 (.st 19 2 (.st 20 0 (.st 21 3 .done))))) (.st 16 2 (.st 15 2 (.st 19 2 (.st 20 0 (.st 21 3 .done))))))) (.st 16 2 (.st 11 2 (.st 15 2 (.st 19 2 (.st 20 0 (.st 21 3 .done)))))))) (.st 16 2 (.st 8 2 (.st 11 2 (.st 15 2 (.st 19 2 (.st 20 0 (.st 21 3 .done))))))))) (.alt (.st 8 2 (.alt (.st 7 2 (.alt (.st 11 2 (.alt (.st 15 2 (.st 16 2 (.st 19 2 (.st 20 0 (.st 21 3 .done))))) (.st 16 2 (.st 15 2 (.st 19 2 (.st 20 0 (.st 21 3 .done))))))) (.st 16 2 (.st 11 2 (.st 15 2 (.st 19 2 (.st 20 0 (.st 21 3 .done)))))))) (.st 16 2 (.st 7 2 (.st 11 2 (.st 15 2 (.st 19 2 (.st 20 0 (.st 21 3 .done))))))))) (.st 16 2 (.alt (.st 7 2 (.st 8 2 (.st 11 2 (.st 15 2 (.st 19 2 (.st 20 0 (.st 21 3 .done))))))) (.st 8 2 (.st 7 2 (.st 11 2 (.st 15 2 (.st 19 2 (.st 20 0 (.st 21 3 .done)))))))))))) (.st 16 2 (.alt (.st 7 2 (.alt (.st 8 2 (.alt (.st 11 2 (.st 12 2 (.st 15 2 (.st 19 2 (.st 20 0 (.st 21 3 .done)))))) (.st 12 2 (.st 11 2 (.st 15 2 (.st 19 2 (.st 20 0 (.st 21 3 .done)))))))) (.st 12 2 (.st 8 2 (.st 11 2 (.st 15 2 (.st 19 2 (.st 20 0 (.st 21 3 .done))))))))) (.alt (.st 8 2 (.alt (.st 7 2 (.alt (.st 11 2 (.st 12 2 (.st 15 2 (.st 19 2 (.st 20 0 (.st 21 3 .done)))))) (.st 12 2 (.st 11 2 (.st 15 2 (.st 19 2 (.st 20 0 (.st 21 3 .done)))))))) (.st 12 2 (.st 7 2 (.st 11 2 (.st 15 2 (.st 19 2 (.st 20 0 (.st 21 3 .done))))))))) (.st 12 2 (.alt (.st 7 2 (.st 8 2 (.st 11 2 (.st 15 2 (.st 19 2 (.st 20 0 (.st 21 3 .done))))))) (.st 8 2 (.st 7 2 (.st 11 2 (.st 15 2 (.st 19 2 (.st 20 0 (.st 21 3 .done)))))))))))))))) (.alt (.st 8 2 (.alt (.st 4 2 (.alt (.st 7 2 (.alt (.st 11 2 (.alt (.st 12 2 (.alt (.st 15 2 (.st 16 2 (.st 19 2 (.st 20 0 (.st 21 3 .done))))) (.st 16 2 (.st 15 2 (.st 19 2 (.st 20 0 (.st 21 3 .done))))))) (.st 16 2 (.st 12 2 (.st 15 2 (.st 19 2 (.st 20 0 (.st 21 3 .done)))))))) (.alt (.st 12 2 (.alt (.st 11 2 (.alt (.st 15 2 (.st 16 2 (.st 19 2 (.st 20 0 (.st 21 3 .done))))) (.st 16 2 (.st 15 2 (.st 19 2 (.st 20 0 (.st 21 3 .done))))))) (.st 16 2 (.st 11 2 (.st 15 2 (.st 19 2 (.st 20 0 (.st 21 3 .done)))))))) (.st 16 2 (.alt (.st 11 2 (.st 12 2 (.st 15 2 (.st 19 2 (.st 20 0 (.st 21 3 .done)))))) (.st 12 2 (.st 11 2 (.st 15 2 (.st 19 2 (.st 20 0 (.st 21 3 .done))))))))))) (.alt (.st 12 2 (.alt (.st 7 2 (.alt (.st 11 2 (.alt (.st 15 2 (.st 16 2 (.st 19 2 (.st 20 0 (.st 21 3 .done))))) (.st 16 2 (.st 15 2 (.st 19 2 (.st 20 0 (.st 21 3 .done))))))) (.st 16 2 (.st 11 2 (.st 15 2 (.st 19 2 (.st 20 0 (.st 21 3 .done)))))))) (.st 16 2 (.st 7 2 (.st 11 2 (.st 15 2 (.st 19 2 (.st 20 0 (.st 21 3 .done))))))))) (.st 16 2 (.alt (.st 7 2 (.alt (.st 11 2 (.st 12 2 (.st 15 2 (.st 19 2 (.st 20 0 (.st 21 3 .done)))))) (.st 12 2 (.st 11 2 (.st 15 2 (.st 19 2 (.st 20 0 (.st 21 3 .done)))))))) (.st 12 2 (.st 7 2 (.st 11 2 (.st 15 2 (.st 19 2 (.st 20 0 (.st 21 3 .done)))))))))))) (.alt (.st 12 2 (.alt (.st 4 2 (.alt (.st 7 2 (.alt (.st 11 2 (.alt (.st 15 2 (.st 16 2 (.st 19 2 (.st 20 0 (.st 21 3 .done))))) (.st 16 2 (.st 15 2 (.st 19 2 (.st 20 0 (.st 21 3 .done))))))) (.st 16 2 (.st 11 2 (.st 15 2 (.st 19 2 (.st 20 0 (.st 21 3 .done)))))))) (.st 16 2 (.st 7 2 (.st 11 2 (.st 15 2 (.st 19 2 (.st 20 0 (.st 21 3 .done))))))))) (.st 16 2 (.st 4 2 (.st 7 2 (.st 11 2 (.st 15 2 (.st 19 2 (.st 20 0 (.st 21 3 .done)))))))))) (.st 16 2 (.alt (.st 4 2 (.alt (.st 7 2 (.alt (.st 11 2 (.st 12 2 (.st 15 2 (.st 19 2 (.st 20 0 (.st 21 3 .done)))))) (.st 12 2 (.st 11 2 (.st 15 2 (.st 19 2 (.st 20 0 (.st 21 3 .done)))))))) (.st 12 2 (.st 7 2 (.st 11 2 (.st 15 2 (.st 19 2 (.st 20 0 (.st 21 3 .done))))))))) (.st 12 2 (.st 4 2 (.st 7 2 (.st 11 2 (.st 15 2 (.st 19 2 (.st 20 0 (.st 21 3 .done))))))))))))) (.alt (.st 12 2 (.alt (.st 4 2 (.alt (.st 7 2 (.alt (.st 8 2 (.alt (.st 11 2 (.alt (.st 15 2 (.st 16 2 (.st 19 2 (.st 20 0 (.st 21 3 .done))))) (.st 16 2 (.st 15 2 (.st 19 2 (.st 20 0 (.st 21 3 .done))))))) (.st 16 2 (.st 11 2 (.st 15 2 (.st 19 2 (.st 20 0 (.st 21 3 .done)))))))) (.st 16 2 (.st 8 2 (.st 11 2 (.st 15 2 (.st 19 2 (.st 20 0 (.st 21 3 .done))))))))) (.alt (.st 8 2 (.alt (.st 7 2 (.alt (.st 11 2 (.alt (.st 15 2 (.st 16 2 (.st 19 2 (.st 20 0 (.st 21 3 .done))))) (.st 16 2 (.st 15 2 (.st 19 2 (.st 20 0 (.st 21 3 .done))))))) (.st 16 2 (.st 11 2 (.st 15 2 (.st 19 2 (.st 20 0 (.st 21 3 .done)))))))) (.st 16 2 (.st 7 2 (.st 11 2 (.st 15 2 (.st 19 2 (.st 20 0 (.st 21 3 .done))))))))) (.st 16 2 (.alt (.st 7 2 (.st 8 2 (.st 11 2 (.st 15 2 (.st 19 2 (.st 20 0 (.st 21 3 .done))))))) (.st 8 2 (.st 7 2 (.st 11 2 (.st 15 2 (.st 19 2 (.st 20 0 (.st 21 3 .done)))))))))))) (.alt (.st 8 2 (.alt (.st 4 2 (.alt (.st 7 2 (.alt (.st 11 2 (.alt (.st 15 2 (.st 16 2 (.st 19 2 (.st 20 0 (.st 21 3 .done))))) (.st 16 2 (.st 15 2 (.st 19 2 (.st 20 0 (.st 21 3 .done))))))) (.st 16 2 (.st 11 2 (.st 15 2 (.st 19 2 (.st 20 0 (.st 21 3 .done)))))))) (.st 16 2 (.st 7 2 (.st 11 2 (.st 15 2 (.st 19 2 (.st 20 0 (.st 21 3 .done))))))))) (.st 16 2 (.st 4 2 (.st 7 2 (.st 11 2 (.st 15 2 (.st 19 2 (.st 20 0 (.st 21 3 .done)))))))))) (.st 16 2 (.alt (.st 4 2 (.alt (.st 7 2 (.st 8 2 (.st 11 2 (.st 15 2 (.st 19 2 (.st 20 0 (.st 21 3 .done))))))) (.st 8 2 (.st 7 2 (.st 11 2 (.st 15 2 (.st 19 2 (.st 20 0 (.st 21 3 .done))))))))) (.st 8 2 (.st 4 2 (.st 7 2 (.st 11 2 (.st 15 2 (.st 19 2 (.st 20 0 (.st 21 3 .done))))))))))))) (.st 16 2 (.alt (.st 4 2 (.alt (.st 7 2 (.alt (.st 8 2 (.alt (.st 11 2 (.st 12 2 (.st 15 2 (.st 19 2 (.st 20 0 (.st 21 3 .done)))))) (.st 12 2 (.st 11 2 (.st 15 2 (.st 19 2 (.st 20 0 (.st 21 3 .done)))))))) (.st 12 2 (.st 8 2 (.st 11 2 (.st 15 2 (.st 19 2 (.st 20 0 (.st 21 3 .done))))))))) (.alt (.st 8 2 (.alt (.st 7 2 (.alt (.st 11 2 (.st 12 2 (.st 15 2 (.st 19 2 (.st 20 0 (.st 21 3 .done)))))) (.st 12 2 (.st 11 2 (.st 15 2 (.st 19 2 (.st 20 0 (.st 21 3 .done)))))))) (.st 12 2 (.st 7 2 (.st 11 2 (.st 15 2 (.st 19 2 (.st 20 0 (.st 21 3 .done))))))))) (.st 12 2 (.alt (.st 7 2 (.st 8 2 (.st 11 2 (.st 15 2 (.st 19 2 (.st 20 0 (.st 21 3 .done))))))) (.st 8 2 (.st 7 2 (.st 11 2 (.st 15 2 (.st 19 2 (.st 20 0 (.st 21 3 .done)))))))))))) (.alt (.st 8 2 (.alt (.st 4 2 (.alt (.st 7 2 (.alt (.st 11 2 (.st 12 2 (.st 15 2 (.st 19 2 (.st 20 0 (.st 21 3 .done)))))) (.st 12 2 (.st 11 2 (.st 15 2 (.st 19 2 (.st 20 0 (.st 21 3 .done)))))))) (.st 12 2 (.st 7 2 (.st 11 2 (.st 15 2 (.st 19 2 (.st 20 0 (.st 21 3 .done))))))))) (.st 12 2 (.st 4 2 (.st 7 2 (.st 11 2 (.st 15 2 (.st 19 2 (.st 20 0 (.st 21 3 .done)))))))))) (.st 12 2 (.alt (.st 4 2 (.alt (.st 7 2 (.st 8 2 (.st 11 2 (.st 15 2 (.st 19 2 (.st 20 0 (.st 21 3 .done))))))) (.st 8 2 (.st 7 2 (.st 11 2 (.st 15 2 (.st 19 2 (.st 20 0 (.st 21 3 .done))))))))) (.st 8 2 (.st 4 2 (.st 7 2 (.st 11 2 (.st 15 2 (.st 19 2 (.st 20 0 (.st 21 3 .done))))))))))))))))))))))))))))
noncomputable def r149x1N10 : Run := (.st 0 0 (.st 1 1 (.st 2 0 (.st 3 1 (.st 5 0 (.st 6 1 (.st 9 0 (.st 10 1 (.alt (.st 4 2 (.alt (.st 7 2 (.st 8 2 (.st 11 2 (.st 12 0 (.st 13 3 .done))))) (.st 8 2 (.st 7 2 (.st 11 2 (.st 12 0 (.st 13 3 .done))))))) (.st 8 2 (.st 4 2 (.st 7 2 (.st 11 2 (.st 12 0 (.st 13 3 .done)))))))))))))))
noncomputable def r52x3N10 : Run := (.st 0 1 (.st 2 1 (.st 1 2 (.st 3 3 (.st 4 3 .done)))))
noncomputable def r89x13N10 : Run := (.st 0 0 (.st 1 1 (.st 2 0 (.st 3 1 (.st 4 0 (.st 5 0 (.st 6 1 (.st 7 2 (.st 8 2 (.st 9 3 (.st 10 0 (.st 11 3 .done))))))))))))
noncomputable def r89x1N10 : Run := (.st 0 0 (.st 1 1 (.st 2 0 (.st 3 1 (.st 6 0 (.st 7 1 (.alt (.st 4 2 (.alt (.st 5 2 (.st 8 0 (.st 9 2 (.st 10 3 .done)))) (.st 9 2 (.st 5 2 (.st 8 0 (.st 10 3 .done)))))) (.alt (.st 5 2 (.alt (.st 4 2 (.st 8 0 (.st 9 2 (.st 10 3 .done)))) (.st 9 2 (.st 4 2 (.st 8 0 (.st 10 3 .done)))))) (.st 9 2 (.alt (.st 4 2 (.st 5 2 (.st 8 0 (.st 10 3 .done)))) (.st 5 2 (.st 4 2 (.st 8 0 (.st 10 3 .done))))))))))))))
noncomputable def r89x5N10 : Run := (.st 0 0 (.st 1 1 (.st 2 0 (.st 3 1 (.st 4 0 (.st 5 0 (.st 6 1 (.st 7 2 (.st 8 2 (.st 9 3 (.st 10 0 (.st 11 3 .done))))))))))))
noncomputable def r89x9N10 : Run := (.st 0 0 (.st 1 1 (.st 2 0 (.st 3 1 (.st 4 0 (.st 5 0 (.st 6 1 (.st 7 2 (.st 8 2 (.st 9 3 (.st 10 0 (.st 11 3 .done))))))))))))
set_option maxHeartbeats 8000000
theorem c_l11Copy {L : List Ent} (k : Kdc) (s : Sl) (h : SliceAt L encSeal s k.cache) (hl : k.cache.length ≤ lim) :
    Tri Tryz.prog 147 [.agg [I k.next, s.v].toArray] L (fun v L' => ∃ s' es, v = .agg [I k.next, s'.v].toArray ∧ Row encSeal 51 s' k.cache es ∧ L' = es ++ L) := by
  refine Tri.of Tryz.func147 rfl rfl Tryz.ntmps147 rfl rfl ?_
  (repeat' (first | refine nX ?_ | (refine nA ?_; intro _) | (refine nW ?_; first | (refine go_append ?_; refine op_appendRow (sl := ⟨_, _, _⟩) (sx := ⟨_, _, _⟩) rfl rfl rfl rfl rfl rfl rfl rfl rfl (Row.nil) (by exact kE) ((h.mono (by exact kS))) (by (simp only [List.length_nil, lim] at *; omega)) ?_; intro sl' es' hrow' hst')) | refine nY ?_ | refine WA_alt ?_ ?_ | refine nR ?_ | refine WC_drawL (id := 1) (ops := o147x1N10) r147x1N10 (by kernel_rfl) rfl ?_))
  rw [List.nil_append] at hrow'
  refine ret_ret (by exact kR) ?_; exact ⟨es' ++ L, by exact kP, sl', es', rfl, hrow', rfl⟩
theorem c_l13Copy {L : List Ent} (p : Serv) (c t : Sl) (h : SrvAt L (p, c, t)) (hl : p.cache.length ≤ lim) (hl2 : p.took.length ≤ lim) :
    Tri Tryz.prog 149 [servV p c t] L (fun v L' => ∃ c' t' es, v = servV p c' t' ∧ SrvOwn (p, c', t') es ∧ L' = es ++ L) := by
  refine Tri.of Tryz.func149 rfl rfl Tryz.ntmps149 rfl rfl ?_
  (repeat' (first | refine nX ?_ | (refine nA ?_; intro _) | (refine nW ?_; first | (refine go_append ?_; refine op_appendRow (sl := ⟨_, _, _⟩) (sx := ⟨_, _, _⟩) rfl rfl rfl rfl rfl rfl rfl rfl rfl (Row.nil) (by exact kE) ((h.c.mono (by exact kS))) (by (simp only [List.length_nil, lim] at *; omega)) ?_; intro sl' es' hrow' hst') | (refine go_append ?_; refine op_appendRow (sl := ⟨_, _, _⟩) (sx := ⟨_, _, _⟩) rfl rfl rfl rfl rfl rfl rfl rfl rfl (Row.nil) (by exact kE) ((h.t.mono (by exact kS))) (by (simp only [List.length_nil, lim] at *; omega)) ?_; intro sl' es' hrow' hst')) | refine nY ?_ | refine WA_alt ?_ ?_ | refine nR ?_ | refine WC_drawL (id := 1) (ops := o149x1N10) r149x1N10 (by kernel_rfl) rfl ?_))
  all_goals
    have r1 := ‹Row encSeal 51 _ ([] ++ p.cache) _›
    have r2 := ‹Row encCall 42 _ ([] ++ p.took) _›
    rw [List.nil_append] at r1 r2
    refine ret_ret (by exact kR) ?_; refine ⟨(_ ++ _) ++ L, ?_, _, _, _, rfl, ⟨_, _, rfl, r1, r2⟩, rfl⟩; simp only [List.append_assoc]; exact kP
theorem c_l12Copy {L : List Ent} (p : Client) (s : CSl) (h : CliAt L (p, s)) (h1 : p.wants.length ≤ lim) (h2 : p.creds.length ≤ lim) (h3 : p.sent.length ≤ lim) (h4 : p.met.length ≤ lim) :
    Tri Tryz.prog 148 [clientV p s] L (fun v L' => ∃ s' es, v = clientV p s' ∧ CliOwn (p, s') es ∧ L' = es ++ L) := by
  refine Tri.of Tryz.func148 rfl rfl Tryz.ntmps148 rfl rfl ?_
  (repeat' (first | refine nX ?_ | (refine nA ?_; intro _) | (refine nW ?_; first | (refine go_append ?_; refine op_appendRow (sl := ⟨_, _, _⟩) (sx := ⟨_, _, _⟩) rfl rfl rfl rfl rfl rfl rfl rfl rfl (Row.nil) (by exact kE) ((h.w.mono (by exact kS))) (by (simp only [List.length_nil, lim] at *; omega)) ?_; intro sl' es' hrow' hst') | (refine go_append ?_; refine op_appendRow (sl := ⟨_, _, _⟩) (sx := ⟨_, _, _⟩) rfl rfl rfl rfl rfl rfl rfl rfl rfl (Row.nil) (by exact kE) ((h.c.mono (by exact kS))) (by (simp only [List.length_nil, lim] at *; omega)) ?_; intro sl' es' hrow' hst') | (refine go_append ?_; refine op_appendRow (sl := ⟨_, _, _⟩) (sx := ⟨_, _, _⟩) rfl rfl rfl rfl rfl rfl rfl rfl rfl (Row.nil) (by exact kE) ((h.s.mono (by exact kS))) (by (simp only [List.length_nil, lim] at *; omega)) ?_; intro sl' es' hrow' hst') | (refine go_append ?_; refine op_appendRow (sl := ⟨_, _, _⟩) (sx := ⟨_, _, _⟩) rfl rfl rfl rfl rfl rfl rfl rfl rfl (Row.nil) (by exact kE) ((h.m.mono (by exact kS))) (by (simp only [List.length_nil, lim] at *; omega)) ?_; intro sl' es' hrow' hst')) | refine nY ?_ | refine nR ?_ | refine WC_drawL (id := 1) (ops := o148x1N10) r148x1N10 (by kernel_rfl) rfl ?_))
  rename_i b1 b2
  have hQ : ∀ (s' : CSl) (es' : List Ent) (env' : Env) (L' : List Ent), lk env' 2 = some (.pointer (some ⟨b2, 0, none⟩)) → (b2, cellsO (clientC p s') 49) ∈ L' → CliOwn (p, s') es' → SubP L' (es' ++ L) → seqQ Tryz.prog 24 Code.ret (retQ Tryz.prog [.cell 2 49] fun v L' => ∃ s' es, v = clientV p s' ∧ CliOwn (p, s') es ∧ L' = es ++ L) .normal env' L' := fun s' es' env' L' hl hm ho hs => by
    refine seqQ_normal (WC_ret ?_)
    exact ret_ret (res_cellNF hl rfl rfl hm rfl res_nil) ⟨es' ++ L, hs, s', es', rfl, ho, rfl⟩
  refine WA_alt ?_ (WA_alt ?_ (WA_alt ?_ ?_))
  · exact l12_b0 p s h h1 h2 h3 h4 b1 b2 _ _ hQ
  · exact l12_b1 p s h h1 h2 h3 h4 b1 b2 _ _ hQ
  · exact l12_b2 p s h h1 h2 h3 h4 b1 b2 _ _ hQ
  · exact l12_b3 p s h h1 h2 h3 h4 b1 b2 _ _ hQ
theorem c_l21Copy {L : List Ent} (w : World) (q : WSl) (ps : List (Client × CSl)) (ss : List (Serv × (Sl × Sl))) (ms : List (Msg × Sl)) (h : WldAt L w q ps ss ms) (hl : WLim w) :
    Tri Tryz.prog 89 [worldV w q] L (WldV L w) := by
  obtain ⟨kc, ⟨a1, n1, c1⟩, ⟨a4, n4, c4⟩, ⟨a5, n5, c5⟩⟩ := q
  obtain ⟨hkc, hpe, hpr, hpa, hse, hsr, hsa, hme, hmr, hma⟩ := h
  obtain ⟨hn1, hc1, hb1, hat1⟩ := hpr
  obtain ⟨hn4, hc4, hb4, hat4⟩ := hsr
  obtain ⟨hn5, hc5, hb5, hat5⟩ := hmr
  dsimp only at hkc hn1 hn4 hn5 hat1 hat4 hat5
  subst hn1 hn4 hn5
  simp only [big] at hb1 hb4 hb5
  have hp1 := len_fst hpe
  have hp2 := len_fst hse
  have hp3 := len_fst hme
  have l1 := hl.cl
  have l2 := hl.sl
  have l3 := hl.ll
  refine Tri.of Tryz.func89 rfl rfl Tryz.ntmps89 rfl rfl ?_
  (repeat' (first | refine nX ?_ | (refine nA ?_; intro _) | refine nY ?_ | refine WA_alt ?_ ?_ | refine nR ?_ | refine WC_drawL (id := 5) (ops := o89x5N10) r89x5N10 (by kernel_rfl) rfl ?_ | refine WC_drawL (id := 9) (ops := o89x9N10) r89x9N10 (by kernel_rfl) rfl ?_ | refine WC_drawL (id := 13) (ops := o89x13N10) r89x13N10 (by kernel_rfl) rfl ?_))
  rename_i b1 b2
  refine WC_cut (X := { x : Nat × Nat × Sl × List Ent // Row encSeal 51 x.2.2.1 w.kdc.cache x.2.2.2 }) (fun x => [(1, .pointer (some ⟨b1, 0, none⟩)), (2, .pointer (some ⟨b2, 0, none⟩)), (3, .pointer (some ⟨x.1.1, 0, none⟩))]) (fun x => (b1, cellsO (worldC w ⟨kc, ⟨a1, ps.length, c1⟩, ⟨a4, ss.length, c4⟩, ⟨a5, ms.length, c5⟩⟩) 33) :: (b2, cellsO (worldC World.zero WSl.nil) 33) :: (x.1.1, cellsO (worldC w ⟨x.1.2.2.1, Sl.nil, Sl.nil, ⟨some ⟨x.1.2.1, 0, none⟩, 0, 0⟩⟩) 33) :: (x.1.2.2.2 ++ L)) ?_ ?_
  · (repeat' (first | refine nX ?_ | (refine nA ?_; intro _) | (refine nW ?_; first | (refine op_call_id ?_; refine op_call rfl (c_l11Copy w.kdc kc (hkc.mono (by exact kS)) hl.kc) rfl ?_; rintro _ _ ⟨sk, ek, rfl, hrk, rfl⟩)) | refine nY ?_ | refine WA_alt ?_ ?_ | refine nR ?_ | refine WC_drawL (id := 1) (ops := o89x1N10) r89x1N10 (by kernel_rfl) rfl ?_ | refine WC_drawL (id := 5) (ops := o89x5N10) r89x5N10 (by kernel_rfl) rfl ?_ | refine WC_drawL (id := 9) (ops := o89x9N10) r89x9N10 (by kernel_rfl) rfl ?_ | refine WC_drawL (id := 13) (ops := o89x13N10) r89x13N10 (by kernel_rfl) rfl ?_))
    all_goals exact ⟨rfl, ⟨(_, _, _, _), hrk⟩, by exact kQ, by exact kL⟩
  rintro ⟨⟨b3, bl, sk, ek⟩, hrk⟩
  dsimp only at hrk ⊢
  (repeat' (first | refine nX ?_ | (refine nA ?_; intro _) | refine nY ?_ | refine WA_alt ?_ ?_ | refine nR ?_ | refine WC_drawL (id := 1) (ops := o89x1N10) r89x1N10 (by kernel_rfl) rfl ?_ | refine WC_drawL (id := 5) (ops := o89x5N10) r89x5N10 (by kernel_rfl) rfl ?_ | refine WC_drawL (id := 9) (ops := o89x9N10) r89x9N10 (by kernel_rfl) rfl ?_ | refine WC_drawL (id := 13) (ops := o89x13N10) r89x13N10 (by kernel_rfl) rfl ?_))
  refine WC_loop (fun mz Ez Mz => ∃ (k : Nat) (qs : List (Client × CSl)) (a2 : Option Addr) (n2 c2 : Nat) (ec ca : List Ent), k + mz = (ps).length ∧ Ez = [(1, .pointer (some ⟨b1, 0, none⟩)), (2, .pointer (some ⟨b2, 0, none⟩)), (3, .pointer (some ⟨b3, 0, none⟩)), (4, I k)] ∧ Mz = (b1, cellsO (worldC w ⟨kc, ⟨a1, ps.length, c1⟩, ⟨a4, ss.length, c4⟩, ⟨a5, ms.length, c5⟩⟩) 33) :: (b2, cellsO (worldC World.zero WSl.nil) 33) :: (b3, cellsO (worldC w ⟨sk, ⟨a2, n2, c2⟩, Sl.nil, ⟨some ⟨bl, 0, none⟩, 0, 0⟩⟩) 33) :: (ek ++ (ec ++ (ca ++ L))) ∧ (Row encClient 49 ⟨a2, n2, c2⟩ qs ec ∧ All CliOwn qs ca ∧ qs.map Prod.fst = (ps.take k).map Prod.fst)) (ps).length (by exact kQ) (by exact kL) ⟨0, [], none, 0, 0, [], [], by omega, rfl, rfl, by exact ⟨Row.nil, rfl, rfl⟩⟩ ?_
  rintro mz Ez Mz ⟨k, qs, a2, n2, c2, ec, ca, hk, rfl, rfl, hin⟩
  rcases Nat.lt_or_ge k (ps).length with hlt | hge
  · obtain ⟨hrow0, hall0, hmap0⟩ := hin
    obtain ⟨⟨c, s⟩, hy⟩ : ∃ y, ps[k]? = some y := ⟨ps[k]'(by omega), by simp [hlt]⟩
    obtain ⟨b', o', cs', T', fr', rfl, hm', hrw⟩ := hat1 (by omega)
    have hrow'' := hrw k _ hy
    have hca := hpa _ (List.mem_of_getElem? hy)
    have hcl := hl.cs c (mem_fst hpe (List.mem_of_getElem? hy))
    have hql : qs.length = k := by have := congrArg List.length hmap0; simp at this; omega
    (repeat' (first | refine nI ?_ | (refine nA ?_; intro _) | refine nY ?_ | refine WA_alt ?_ ?_ | refine nR ?_ | refine WC_drawL (id := 1) (ops := o89x1N10) r89x1N10 (by kernel_rfl) rfl ?_ | refine WC_drawL (id := 9) (ops := o89x9N10) r89x9N10 (by kernel_rfl) rfl ?_ | refine WC_drawL (id := 13) (ops := o89x13N10) r89x13N10 (by kernel_rfl) rfl ?_ | refine WC_cond rfl (fun hc => ?_) (fun hc => ?_)))
    (repeat' (first | refine nI ?_ | (refine nA ?_; intro _) | (refine nW ?_; first | (refine op_call_id ?_; refine op_call rfl (c_l12Copy c s (hca.mono (by exact kS)) hcl.1 hcl.2.1 hcl.2.2.1 hcl.2.2.2) rfl ?_; rintro _ _ ⟨s', e', rfl, ho', rfl⟩) | (refine go_append ?_; refine op_appendRow (sl := ⟨_, _, _⟩) (sx := ⟨_, _, _⟩) rfl rfl rfl rfl rfl rfl rfl rfl rfl (hrow0) (by exact kE) (SliceAt.one (E := encClient) (x := (c, s')) (by exact kM) rfl) (by (simp only [hql, List.length_cons, List.length_nil, lim]; omega)) ?_; intro sl' es' hrow' hst')) | refine nY ?_ | refine WA_alt ?_ ?_ | refine nR ?_ | refine WC_drawL (id := 1) (ops := o89x1N10) r89x1N10 (by kernel_rfl) rfl ?_ | refine WC_draw (id := 5) (ops := o89x5N10) ([(b3, cellsO (worldC w ⟨sk, ⟨a2, n2, c2⟩, Sl.nil, ⟨some ⟨bl, 0, none⟩, 0, 0⟩⟩) 33), (b1, cellsO (worldC w ⟨kc, ⟨some ⟨b', o', none⟩, ps.length, c1⟩, ⟨a4, ss.length, c4⟩, ⟨a5, ms.length, c5⟩⟩) 33), (b', Obj.cells cs'.toArray T' fr')]) r89x5N10 (by kernel_rfl) rfl ?_ | refine WC_drawL (id := 9) (ops := o89x9N10) r89x9N10 (by kernel_rfl) rfl ?_ | refine WC_drawL (id := 13) (ops := o89x13N10) r89x13N10 (by kernel_rfl) rfl ?_))
    obtain ⟨a9, n9, c9⟩ := sl'
    exact loopQ_next ⟨mz - 1, _, _, by omega, by exact kQ, by (try simp only [List.append_assoc]); exact kL, k + 1, qs ++ [(c, s')], a9, n9, c9, es', ca ++ e', by omega, rfl, rfl, by exact ⟨hrow', hall0.snoc ho', fst_next hy hmap0 rfl⟩⟩
  obtain ⟨hrow1, hall1, hmap1⟩ := hin
  rw [take_all hge, hpe] at hmap1
  (repeat' (first | refine nI ?_ | (refine nA ?_; intro _) | refine nY ?_ | refine WA_alt ?_ ?_ | refine nR ?_ | refine WC_drawL (id := 1) (ops := o89x1N10) r89x1N10 (by kernel_rfl) rfl ?_ | refine WC_drawL (id := 5) (ops := o89x5N10) r89x5N10 (by kernel_rfl) rfl ?_ | refine WC_drawL (id := 9) (ops := o89x9N10) r89x9N10 (by kernel_rfl) rfl ?_ | refine WC_drawL (id := 13) (ops := o89x13N10) r89x13N10 (by kernel_rfl) rfl ?_ | refine WC_cond rfl (fun hc => ?_) (fun hc => ?_)))
  clear hk hge
  refine WC_loop (fun mz Ez Mz => ∃ (k : Nat) (rs : List (Serv × (Sl × Sl))) (a3 : Option Addr) (n3 c3 : Nat) (ed sa : List Ent), k + mz = (ss).length ∧ Ez = [(1, .pointer (some ⟨b1, 0, none⟩)), (2, .pointer (some ⟨b2, 0, none⟩)), (3, .pointer (some ⟨b3, 0, none⟩)), (5, I k)] ∧ Mz = (b1, cellsO (worldC w ⟨kc, ⟨a1, ps.length, c1⟩, ⟨a4, ss.length, c4⟩, ⟨a5, ms.length, c5⟩⟩) 33) :: (b2, cellsO (worldC World.zero WSl.nil) 33) :: (b3, cellsO (worldC w ⟨sk, ⟨a2, n2, c2⟩, ⟨a3, n3, c3⟩, ⟨some ⟨bl, 0, none⟩, 0, 0⟩⟩) 33) :: (ek ++ (ec ++ (ca ++ (ed ++ (sa ++ L))))) ∧ (Row encServ 39 ⟨a3, n3, c3⟩ rs ed ∧ All SrvOwn rs sa ∧ rs.map Prod.fst = (ss.take k).map Prod.fst)) (ss).length (by exact kQ) (by exact kL) ⟨0, [], none, 0, 0, [], [], by omega, rfl, rfl, by exact ⟨Row.nil, rfl, rfl⟩⟩ ?_
  rintro mz Ez Mz ⟨k, rs, a3, n3, c3, ed, sa, hk, rfl, rfl, hin⟩
  rcases Nat.lt_or_ge k (ss).length with hlt | hge
  · obtain ⟨hrow0, hall0, hmap0⟩ := hin
    obtain ⟨⟨c, ct, tt⟩, hy⟩ : ∃ y, ss[k]? = some y := ⟨ss[k]'(by omega), by simp [hlt]⟩
    obtain ⟨b', o', cs', T', fr', rfl, hm', hrw⟩ := hat4 (by omega)
    have hrow'' := hrw k _ hy
    have hca := hsa _ (List.mem_of_getElem? hy)
    have hcl := hl.ss c (mem_fst hse (List.mem_of_getElem? hy))
    have hql : rs.length = k := by have := congrArg List.length hmap0; simp at this; omega
    (repeat' (first | refine nI ?_ | (refine nA ?_; intro _) | refine nY ?_ | refine WA_alt ?_ ?_ | refine nR ?_ | refine WC_drawL (id := 1) (ops := o89x1N10) r89x1N10 (by kernel_rfl) rfl ?_ | refine WC_drawL (id := 5) (ops := o89x5N10) r89x5N10 (by kernel_rfl) rfl ?_ | refine WC_drawL (id := 13) (ops := o89x13N10) r89x13N10 (by kernel_rfl) rfl ?_ | refine WC_cond rfl (fun hc => ?_) (fun hc => ?_)))
    (repeat' (first | refine nI ?_ | (refine nA ?_; intro _) | (refine nW ?_; first | (refine op_call_id ?_; refine op_call rfl (c_l13Copy c ct tt (hca.mono (by exact kS)) hcl.1 hcl.2) rfl ?_; rintro _ _ ⟨c', t', e', rfl, ho', rfl⟩) | (refine go_append ?_; refine op_appendRow (sl := ⟨_, _, _⟩) (sx := ⟨_, _, _⟩) rfl rfl rfl rfl rfl rfl rfl rfl rfl (hrow0) (by exact kE) (SliceAt.one (E := encServ) (x := (c, c', t')) (by exact kM) rfl) (by (simp only [hql, List.length_cons, List.length_nil, lim]; omega)) ?_; intro sl' es' hrow' hst')) | refine nY ?_ | refine WA_alt ?_ ?_ | refine nR ?_ | refine WC_drawL (id := 1) (ops := o89x1N10) r89x1N10 (by kernel_rfl) rfl ?_ | refine WC_drawL (id := 5) (ops := o89x5N10) r89x5N10 (by kernel_rfl) rfl ?_ | refine WC_draw (id := 9) (ops := o89x9N10) ([(b3, cellsO (worldC w ⟨sk, ⟨a2, n2, c2⟩, ⟨a3, n3, c3⟩, ⟨some ⟨bl, 0, none⟩, 0, 0⟩⟩) 33), (b1, cellsO (worldC w ⟨kc, ⟨a1, ps.length, c1⟩, ⟨some ⟨b', o', none⟩, ss.length, c4⟩, ⟨a5, ms.length, c5⟩⟩) 33), (b', Obj.cells cs'.toArray T' fr')]) r89x9N10 (by kernel_rfl) rfl ?_ | refine WC_drawL (id := 13) (ops := o89x13N10) r89x13N10 (by kernel_rfl) rfl ?_))
    obtain ⟨a9, n9, c9⟩ := sl'
    exact loopQ_next ⟨mz - 1, _, _, by omega, by exact kQ, by (try simp only [List.append_assoc]); exact kL, k + 1, rs ++ [(c, c', t')], a9, n9, c9, es', sa ++ e', by omega, rfl, rfl, by exact ⟨hrow', hall0.snoc ho', fst_next hy hmap0 rfl⟩⟩
  obtain ⟨hrow2, hall2, hmap2⟩ := hin
  rw [take_all hge, hse] at hmap2
  (repeat' (first | refine nI ?_ | (refine nA ?_; intro _) | refine nY ?_ | refine WA_alt ?_ ?_ | refine nR ?_ | refine WC_drawL (id := 1) (ops := o89x1N10) r89x1N10 (by kernel_rfl) rfl ?_ | refine WC_drawL (id := 5) (ops := o89x5N10) r89x5N10 (by kernel_rfl) rfl ?_ | refine WC_drawL (id := 9) (ops := o89x9N10) r89x9N10 (by kernel_rfl) rfl ?_ | refine WC_drawL (id := 13) (ops := o89x13N10) r89x13N10 (by kernel_rfl) rfl ?_ | refine WC_cond rfl (fun hc => ?_) (fun hc => ?_)))
  clear hk hge
  refine WC_loop (fun mz Ez Mz => ∃ (k : Nat) (us : List (Msg × Sl)) (a6 : Option Addr) (n6 c6 : Nat) (el la : List Ent), k + mz = (ms).length ∧ Ez = [(1, .pointer (some ⟨b1, 0, none⟩)), (2, .pointer (some ⟨b2, 0, none⟩)), (3, .pointer (some ⟨b3, 0, none⟩)), (6, I k)] ∧ Mz = (b1, cellsO (worldC w ⟨kc, ⟨a1, ps.length, c1⟩, ⟨a4, ss.length, c4⟩, ⟨a5, ms.length, c5⟩⟩) 33) :: (b2, cellsO (worldC World.zero WSl.nil) 33) :: (b3, cellsO (worldC w ⟨sk, ⟨a2, n2, c2⟩, ⟨a3, n3, c3⟩, ⟨a6, n6, c6⟩⟩) 33) :: (ek ++ (ec ++ (ca ++ (ed ++ (sa ++ (el ++ (la ++ L))))))) ∧ (Row encMsg 56 ⟨a6, n6, c6⟩ us el ∧ All MsgOwn us la ∧ us.map Prod.fst = (ms.take k).map Prod.fst)) (ms).length (by exact kQ) (by exact kL) ⟨0, [], some ⟨bl, 0, none⟩, 0, 0, [], [], by omega, rfl, rfl, by exact ⟨Row.nil, rfl, rfl⟩⟩ ?_
  rintro mz Ez Mz ⟨k, us, a6, n6, c6, el, la, hk, rfl, rfl, hin⟩
  rcases Nat.lt_or_ge k (ms).length with hlt | hge
  · obtain ⟨hrow0, hall0, hmap0⟩ := hin
    obtain ⟨⟨c, s⟩, hy⟩ : ∃ y, ms[k]? = some y := ⟨ms[k]'(by omega), by simp [hlt]⟩
    obtain ⟨b', o', cs', T', fr', rfl, hm', hrw⟩ := hat5 (by omega)
    have hrow'' := hrw k _ hy
    have hca := hma _ (List.mem_of_getElem? hy)
    have hcl := hl.ms c (mem_fst hme (List.mem_of_getElem? hy))
    have hql : us.length = k := by have := congrArg List.length hmap0; simp at this; omega
    (repeat' (first | refine nI ?_ | (refine nA ?_; intro _) | refine nY ?_ | refine WA_alt ?_ ?_ | refine nR ?_ | refine WC_drawL (id := 1) (ops := o89x1N10) r89x1N10 (by kernel_rfl) rfl ?_ | refine WC_drawL (id := 5) (ops := o89x5N10) r89x5N10 (by kernel_rfl) rfl ?_ | refine WC_drawL (id := 9) (ops := o89x9N10) r89x9N10 (by kernel_rfl) rfl ?_ | refine WC_cond rfl (fun hc => ?_) (fun hc => ?_)))
    (repeat' (first | refine nI ?_ | (refine nA ?_; intro _) | (refine nW ?_; first | (refine op_call_id ?_; refine op_call rfl (c_l21MsgCopy c s (hca.mono (by exact kS)) hcl) rfl ?_; rintro _ _ ⟨s', e', rfl, ho', rfl⟩) | (refine go_append ?_; refine op_appendRow (sl := ⟨_, _, _⟩) (sx := ⟨_, _, _⟩) rfl rfl rfl rfl rfl rfl rfl rfl rfl (hrow0) (by exact kE) (SliceAt.one (E := encMsg) (x := (c, s')) (by exact kM) rfl) (by (simp only [hql, List.length_cons, List.length_nil, lim]; omega)) ?_; intro sl' es' hrow' hst')) | refine nY ?_ | refine WA_alt ?_ ?_ | refine nR ?_ | refine WC_drawL (id := 1) (ops := o89x1N10) r89x1N10 (by kernel_rfl) rfl ?_ | refine WC_drawL (id := 5) (ops := o89x5N10) r89x5N10 (by kernel_rfl) rfl ?_ | refine WC_drawL (id := 9) (ops := o89x9N10) r89x9N10 (by kernel_rfl) rfl ?_ | refine WC_draw (id := 13) (ops := o89x13N10) ([(b3, cellsO (worldC w ⟨sk, ⟨a2, n2, c2⟩, ⟨a3, n3, c3⟩, ⟨a6, n6, c6⟩⟩) 33), (b1, cellsO (worldC w ⟨kc, ⟨a1, ps.length, c1⟩, ⟨a4, ss.length, c4⟩, ⟨some ⟨b', o', none⟩, ms.length, c5⟩⟩) 33), (b', Obj.cells cs'.toArray T' fr')]) r89x13N10 (by kernel_rfl) rfl ?_))
    obtain ⟨a9, n9, c9⟩ := sl'
    exact loopQ_next ⟨mz - 1, _, _, by omega, by exact kQ, by (try simp only [List.append_assoc]); exact kL, k + 1, us ++ [(c, s')], a9, n9, c9, es', la ++ e', by omega, rfl, rfl, by exact ⟨hrow', hall0.snoc ho', fst_next hy hmap0 rfl⟩⟩
  obtain ⟨hrow3, hall3, hmap3⟩ := hin
  rw [take_all hge, hme] at hmap3
  (repeat' (first | refine nI ?_ | (refine nA ?_; intro _) | refine nY ?_ | refine WA_alt ?_ ?_ | refine nR ?_ | refine WC_drawL (id := 1) (ops := o89x1N10) r89x1N10 (by kernel_rfl) rfl ?_ | refine WC_drawL (id := 5) (ops := o89x5N10) r89x5N10 (by kernel_rfl) rfl ?_ | refine WC_drawL (id := 9) (ops := o89x9N10) r89x9N10 (by kernel_rfl) rfl ?_ | refine WC_drawL (id := 13) (ops := o89x13N10) r89x13N10 (by kernel_rfl) rfl ?_ | refine WC_cond rfl (fun hc => ?_) (fun hc => ?_)))
  refine ret_ret (by exact kR) ?_; exact ⟨wldE ek ec ca ed sa el la ++ L, by simp only [wldE, List.append_assoc]; exact kP, ⟨sk, ⟨a2, n2, c2⟩, ⟨a3, n3, c3⟩, ⟨a6, n6, c6⟩⟩, qs, rs, us, ek, ec, ca, ed, sa, el, la, rfl, ⟨hrk, hmap1, hrow1, hall1, hmap2, hrow2, hall2, hmap3, hrow3, hall3⟩, rfl⟩
theorem c_sWorldDo {L : List Ent} {w x : World} {e0 : Event} (hx : step w e0 = x) (q : WSl) (ps : List (Client × CSl)) (ss : List (Serv × (Sl × Sl))) (ms : List (Msg × Sl)) (hat : WldAt L w q ps ss ms) (hok : WOk w) (hte : TookLe 1400 w) (se : Sl) (hm : MsgAt L e0.msg se) :
    Tri Tryz.prog 52 [worldV w q, eventV e0 se] L (WldV L x) := by
  have hte5 : TookLe 1500 w := hte.up (by omega)
  have hlim := wlim_of hok hte (by omega)
  have hdo : ∀ {L1 L0 : List Ent} (q : WSl) (ps : List (Client × CSl)) (ss : List (Serv × (Sl × Sl))) (ms : List (Msg × Sl)) (ek ec ca es sa el la : List Ent) (hL : L1.Perm (wldE ek ec ca es sa el la ++ L0)) (hown : WldOwn w q ps ss ms ek ec ca es sa el la) (hm : MsgAt L0 e0.msg se),
      Tri Tryz.prog 64 [worldV w q, eventV e0 se] L1 (WldV L0 x) := fun q ps ss ms ek ec ca es sa el la hL hown hm => hx ▸ c_l21DoP w q ps ss ms ek ec ca es sa el la hL hok hown hte5 e0 se hm
  clear hx
  refine Tri.of Tryz.func52 rfl rfl Tryz.ntmps52 rfl rfl ?_
  (repeat' (first | refine nI ?_ | (refine nA ?_; intro _) | (refine nW ?_; first | (refine op_call_id ?_; refine op_ro rfl rfl (by exact (c_sWorldOkN w q ps ss ms (hat.mono (by exact kS)) hok.n).eq (congrArg B (worldOk_t hok))) ?_)) | refine nY ?_ | refine WA_alt ?_ ?_ | refine nR ?_ | refine WC_cond rfl (fun hc => ?_) (fun hc => ?_)))
  rename_i b2 b3 b4
  (repeat' (first | refine nX ?_ | (refine nA ?_; intro _) | (refine nW ?_; first | (refine op_call_id ?_; refine op_call rfl (c_l21Copy w q ps ss ms (hat.mono (by exact kS)) hlim) rfl ?_; rintro _ _ ⟨q1, ps1, ss1, ms1, ek1, ec1, ca1, es1, sa1, el1, la1, rfl, ho1, rfl⟩) | (refine op_call_id ?_; refine op_call rfl (hdo q1 ps1 ss1 ms1 ek1 ec1 ca1 es1 sa1 el1 la1 (by exact kE) ho1 (hm.mono (by exact kS))) rfl ?_; rintro _ _ ⟨q3, ps3, ss3, ms3, ek3, ec3, ca3, es3, sa3, el3, la3, rfl, ho3, rfl⟩)) | refine nY ?_ | refine WA_alt ?_ ?_ | refine nR ?_ | refine WC_draw (id := 3) (ops := o52x3N10) ([(b2, cellsO (worldC w q) 33), (b3, cellsO (eventC e0 se) 58)]) r52x3N10 (by kernel_rfl) rfl ?_))
  refine ret_ret (by exact kR) ?_; exact ⟨wldE ek3 ec3 ca3 es3 sa3 el3 la3 ++ L, by exact kP, q3, ps3, ss3, ms3, ek3, ec3, ca3, es3, sa3, el3, la3, rfl, ho3, rfl⟩
end Go.Proofs.YtkdlkclanlkebaaGreat
/- What drawn laws meet. -/
set_option linter.unusedVariables false
set_option linter.unusedSectionVars false
set_option linter.unusedSimpArgs false
namespace Go.Proofs.YtkdlkclanlkebaaGreat
open Go Go.Proofs Go.Proofs.YtkdlkclanlkebaaGreat.VE
attribute [local irreducible] Val Op1 WO WR WA WC seqQ blockQ loopQ retQ
set_option maxHeartbeats 8000000
/-- What may grow from one moment to the next. -/
structure Grow (w x : World) : Prop where
  l1 : w.log.length ≤ x.log.length
  l2 : x.log.length ≤ w.log.length + 1
  n1 : w.now ≤ x.now
  n2 : x.now ≤ w.now + 1
  k1 : w.kdc.next ≤ x.kdc.next
  k2 : x.kdc.next ≤ w.kdc.next + 1
  bad : x.bad = w.bad
  pre : ∀ (i : Nat) m, w.log[i]? = some m → x.log[i]? = some m
theorem bringMsg_now (w : World) (m : Msg) : (bringMsg w m).now = w.now := by
  unfold bringMsg
  split
  · exact (send_log _ _).2.2.2.1
  split
  · exact (send_log _ _).2.2.2.1
  split
  · exact (send_log _ _).2.2.2.1
  split
  · rfl
  · rfl
theorem bringMsg_next (w : World) (m : Msg) : w.kdc.next ≤ (bringMsg w m).kdc.next ∧ (bringMsg w m).kdc.next ≤ w.kdc.next + 1 := by
  unfold bringMsg
  split
  · rw [(send_log _ _).2.2.2.2.2.2]
    rcases kdcAs_cases w.kdc m w.now with g | ⟨_, _, _, g⟩ <;> rw [g] <;> dsimp only <;> omega
  split
  · rw [(send_log _ _).2.2.2.2.2.2]
    rcases kdcTgs_cases w.kdc m w.now with g | ⟨_, _, _, _, ⟨_, g⟩ | ⟨_, g⟩⟩ <;> rw [g] <;> dsimp only <;> omega
  split
  · rw [(send_log _ _).2.2.2.2.2.2]; exact ⟨Int.le_refl _, by simp only [setServ]; omega⟩
  split
  · omega
  · exact ⟨Int.le_refl _, by simp only [setClient]; omega⟩
theorem step_grow {w : World} (h : WOk w) (e : Event) : Grow w (step w e) := by
  obtain ⟨g1, g2, g3⟩ := step_log w e
  obtain ⟨l, hl⟩ := step_prefix w e
  have hnow := h.now
  have hrest : (w.now ≤ (step w e).now ∧ (step w e).now ≤ w.now + 1) ∧ w.kdc.next ≤ (step w e).kdc.next ∧ (step w e).kdc.next ≤ w.kdc.next + 1 := by
    clear g1 g2 g3 hl
    unfold step
    split
    · obtain ⟨_, h1, h2, _⟩ := asks_others (w := w) (k := e.kind) (a := e.a) (b := e.b)
      rw [h1, h2]; omega
    split
    · rcases bring_cases w e.a with g | ⟨_, _, m, _, _, g⟩ <;> rw [g]
      · omega
      · rw [bringMsg_now]; exact ⟨by omega, bringMsg_next w m⟩
    split
    · split
      · obtain ⟨_, _, _, h1, _, _, h2⟩ := send_log w (some e.msg)
        rw [h1, h2]; omega
      · omega
    split
    · simp only [tick]; split <;> omega
    split
    · unfold fall
      split
      · simp only [setServ]; omega
      · omega
    · omega
  refine ⟨g2, g1, hrest.1.1, hrest.1.2, hrest.2.1, hrest.2.2, g3, fun i m hm => ?_⟩
  rw [hl, List.getElem?_append_left (List.getElem?_eq_some_iff.1 hm).1]; exact hm
end Go.Proofs.YtkdlkclanlkebaaGreat
