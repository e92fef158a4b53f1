/- The law on packs: drawn numbers that are packed are unpacked, what is unpacked is packed so, and polynomials come back from their bytes. -/
import Derived.Test.YthkbgflbbnjcpaaMJ3
import Derived.Test.YthkbgflbbnjcpaaMJP
import Derived.Test.YthkbgflbbnjcpaaMPK
import Derived.Test.YthkbgflbbnjcpaaMVV
import Derived.Test.YthkbgflbbnjcpaaPx1
import Derived.Test.YthkbgflbbnjcpaaPx7
import Derived.Test.YthkbgflbbnjcpaaPx8
import Derived.Test.YthkbgflbbnjcpaaPx11
import Derived.Test.YthkbgflbbnjcpaaPx14
import Derived.Test.YthkbgflbbnjcpaaPx15
import Derived.Test.YthkbgflbbnjcpaaPx17
import Derived.Test.YthkbgflbbnjcpaaPx18
import Derived.Test.YthkbgflbbnjcpaaPx19
namespace Go.Proofs.Ythkbgflbbnjcpaa.Pure
open Go.RowKit Go.Proofs.YthkbgflbbnjcpaaW.PrintWords Go.Proofs.YthkbgflbbnjcpaaW.PrintLast Go.Proofs.YthkbgflbbnjcpaaW.PrintMore Go.Proofs.Ythkbgflbbnjcpaa.P

theorem FnPacks : laws_FnPacks.Pure := by
  intro l _ _ _
  refine Ev.rounds ?_
  unfold laws_FnPacks.f laws_big.f
  simp only [Option.bind_some]
  by_cases h : (l.length : Int) > 1048576
  · exact Ev.pos (decide_eq_true h) (Ev.now _)
  refine Ev.neg (by rw [decide_eq_false h]; decide) ?_
  have hl : l.length ≤ 1048576 := by omega
  have rest : Ev (fun k => laws_FnPacks.j0 k l false) true := by
    obtain ⟨t, b, n, et, ht⟩ := drawUnpack_some l hl
    obtain ⟨a, _, _, ed, ha, _, _⟩ := polys_some l hl
    have hok := vec_ok (f := a) fun i _ => ha i
    have hfit := polyOk_fits hok
    have hlen := vec_length a
    have epb : polyBytesV (vec a) = packV 12 (vec a) := by unfold polyBytesV; rw [if_pos hok]
    have eun := unpack_pack 12 (vec a) (by decide) (by decide) (by omega) hfit
    rw [hlen] at eun
    have epf : polyFromR (packV 12 (vec a)) = (vec a, true) := by
      unfold polyFromR
      have e2 : unpackR (packV 12 (vec a)) 12 256 = (vec a, true) := eun
      rw [e2]
      exact if_pos ⟨rfl, hok⟩
    have hpb := impl_PolyBytes_ev (vec a) (by omega)
    rw [epb] at hpb
    have hpf := impl_PolyFrom_ev (packV 12 (vec a))
    rw [epf] at hpf
    have hsz : (packV 12 (vec a)).size = 384 := by rw [(bnum_packV 12 (vec a) hfit).2, hlen]
    have hsame := sameInts_refl (vec a) (by omega)
    have hx := unpackR_len t b n
    refine Ev.step (f := fun k => (spec_DrawUnpack.f k l).bind fun bt328 => ((impl_Unpack.f k bt328.1 bt328.2.1 bt328.2.2).bind fun bt331 => ((impl_Pack.f k bt331.1 bt328.2.1).bind fun bt335 => ((spec_Unpack.f k bt328.1 bt328.2.1 bt328.2.2).bind fun bt337 => ((spec_DrawPolys.f k l).bind fun bt341 => ((impl_PolyBytes.f k bt341.1).bind fun t350 => ((impl_PolyFrom.f k t350).bind fun bt351 => (if (bt331.2 == bt337.2) = true then (if bt331.2 = true then (if bt335.1.toList = bt328.1.toList then (if bt351.2 = true then ((laws_sameInts.f k bt351.1 bt341.1).bind fun t355 => (if t355 = true then ((impl_PolyBytes.f k bt341.1).bind fun t356 => (some ((t356.size : Int) == 384))) else (some false))) else (some false)) else (some false)) else (if bt351.2 = true then ((laws_sameInts.f k bt351.1 bt341.1).bind fun t357 => (if t357 = true then ((impl_PolyBytes.f k bt341.1).bind fun t358 => (some ((t358.size : Int) == 384))) else (some false))) else (some false))) else (some false))))))))) (fun k => ?_) ?_
    · simp only [laws_FnPacks.j0]
      rw [if_neg (by decide)]
    refine Ev.bind et (Ev.bind (impl_Unpack_ev t b n) (Ev.bind (impl_Pack_ev (unpackR t b n).1 b (by omega)) (Ev.bind (spec_Unpack_ev t b n) (Ev.bind ed (Ev.bind hpb (Ev.bind hpf (Ev.pos (by simp) ?_)))))))
    have last : Ev (fun k => (laws_sameInts.f k (vec a) (vec a)).bind fun t355 => (if t355 = true then ((impl_PolyBytes.f k (vec a)).bind fun t356 => (some ((t356.size : Int) == 384))) else (some false))) true := by
      refine Ev.bind hsame (Ev.pos rfl (Ev.bind hpb ?_))
      rw [hsz]
      exact Ev.now _
    by_cases hm : (unpackR t b n).2 = true
    · refine Ev.pos hm (Ev.pos ?_ (Ev.pos rfl last))
      rw [pack_unpack t b n hm]
    · exact Ev.neg hm (Ev.pos rfl last)
  obtain ⟨q, b, eq, hq, hb0, hb1⟩ := drawPack_some l hl
  have ip := impl_Pack_ev q b (by omega)
  have sp := spec_Pack_ev q b (by omega)
  have iu := impl_Unpack_ev (packR q b).1 b (q.length : Int)
  refine Ev.bind eq (Ev.bind ip (Ev.bind iu (Ev.bind sp (Ev.neg (by simp) ?_))))
  by_cases hk : (packR q b).2 = true
  · have hcond : (1 ≤ b ∧ b ≤ 12) ∧ q.all (fitsB b.toNat) = true := by
      unfold packR at hk
      by_cases hc : (1 ≤ b ∧ b ≤ 12) ∧ q.all (fitsB b.toNat) = true
      · exact hc
      · rw [if_neg hc] at hk
        exact absurd hk (by decide)
    have er : packR q b = (packV b.toNat q, true) := by unfold packR; rw [if_pos hcond]
    have eu := unpack_pack b q hcond.1.1 hcond.1.2 (by omega) hcond.2
    rw [er, eu]
    refine Ev.pos rfl (Ev.pos rfl (Ev.bind (sameInts_refl q (by omega)) ?_))
    exact rest
  · exact Ev.neg hk rest
end Go.Proofs.Ythkbgflbbnjcpaa.Pure
