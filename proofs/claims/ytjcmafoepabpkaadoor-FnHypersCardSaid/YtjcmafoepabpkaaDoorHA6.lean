/- Walks by hand: the public part that a signature leads to (closures that read a row of the call's own). -/
import Derived.Test.YtjcmafoepabpkaaDoorMW2
import Derived.Test.YtjcmafoepabpkaaDoorMW0
import Derived.Test.YtjcmafoepabpkaaDoorHA3
import Derived.Test.YtjcmafoepabpkaaDoorPx0
import Derived.Test.YtjcmafoepabpkaaDoorPx5
namespace Go.Proofs.YtjcmafoepabpkaaDoor.Kit
open Go.RowKit Go.Proofs.YtjcmafoepabpkaaDoorW.PrintWords Go.Proofs.YtjcmafoepabpkaaDoorW.PrintLast Go.Proofs.YtjcmafoepabpkaaDoorW.PrintMore
section
variable {P : Program} {ops : Array Oper} {Q : Exit → Act → World → Prop}
/-- A call through a variable of a function value that captures. -/
theorem goesC_ (x : Operand) {rest : List Oper} {oi : Oper} {a : Act} {w : World} (N : Option Tmp) (hd : oi.dst = N) (hg : oi.guard = none) {f : FuncId} {fn : Func} {ars : Array Operand} {ts : Array TypeId} (hf : P.funcs[f]? = some fn) (hname : (fn.name == "runtime.NumGoroutine") = false) (hb : fn.body.isSome = true) (args cap all : Array Value)
    (hop : oi.op = .call { callee := .value x, args := ars, argTypes := ts }) (hargs : ars.map a.eval = args) (hx : a.eval x = .func (.func f) #[] cap) (hall : args ++ cap = all)
    (h : Calls P f all w fun e w' => ∃ v, e = .returned v ∧ wpList P ops Q rest (a.put N v) w') : wpList P ops Q (oi :: rest) a w := by
  subst hall
  refine wpList_plain hg fun K hK => ?_
  have he := enters_ hf hname hb (args ++ cap) w
  have hrun : (execOp a.eval oi).run P w = .ok (.enter f (args ++ cap)) w := by
    unfold execOp
    simp [hop, resolve, Deferred.ofValue, invoke, hargs, hx, he]
  unfold Oper.wp
  rw [hrun, Oper.upon_enter]
  refine h.mono fun e w'' hh => ?_
  obtain ⟨v, rfl, hk⟩ := hh
  subst hd
  exact hK _ _ hk
end
end Go.Proofs.YtjcmafoepabpkaaDoor.Kit
namespace Go.Proofs.YtjcmafoepabpkaaDoor.P
open Go.RowKit Go.Proofs.YtjcmafoepabpkaaDoorW.PrintWords Go.Proofs.YtjcmafoepabpkaaDoorW.PrintLast Go.Proofs.YtjcmafoepabpkaaDoorW.PrintMore Go.Proofs.YtjcmafoepabpkaaDoor.Kit
set_option linter.unusedVariables false
set_option linter.unusedSimpArgs false

set_option maxHeartbeats 1000000 in
theorem dig1.calls (i : Int) (ds : List Int) (B : Nat) (A : Option Addr) (n c : Nat) (w : World) (hB : w.cell? ⟨B, 0, none⟩ = some (.slice A n c)) (hR : Kd.C (Kd.int .i64) w A n ds) (h0 : 0 ≤ i) (h1 : i < (n : Int)) :
    Calls Tryd.prog 75 #[.int .i64 i, .pointer (some ⟨B, 0, none⟩)] w fun e w' => e = .returned (.int .i64 (rd ds i)) ∧ Drawn0 w w' := by
  obtain ⟨ad, rfl, hx⟩ := Kd.at_int hR i h0 h1
  replace h0 := eq_true h0
  replace h1 := eq_true h1
  go_enter Tryd.func75, Tryd.ntmps75
  go_wp2
  go_ret
  exact ⟨rfl, by repeat (first | exact Drawn0.refl _ | apply Drawn0.step)⟩
set_option maxHeartbeats 1000000 in
theorem dig2.calls (i : Int) (ds : List Int) (B : Nat) (A : Option Addr) (n c : Nat) (w : World) (hB : w.cell? ⟨B, 0, none⟩ = some (.slice A n c)) (hR : Kd.C (Kd.int .i64) w A n ds) (h0 : 0 ≤ i) (h1 : i < (n : Int)) :
    Calls Tryd.prog 76 #[.int .i64 i, .pointer (some ⟨B, 0, none⟩)] w fun e w' => e = .returned (.int .i64 (wrap64 (15 - rd ds i))) ∧ Drawn0 w w' := by
  obtain ⟨ad, rfl, hx⟩ := Kd.at_int hR i h0 h1
  replace h0 := eq_true h0
  replace h1 := eq_true h1
  go_enter Tryd.func76, Tryd.ntmps76
  go_wp2
  go_ret
  exact ⟨rfl, by repeat (first | exact Drawn0.refl _ | apply Drawn0.step)⟩

def impl_OnceFound.l0 (ds : List Int) : Nat → Int → ByteArray → List ByteArray → Int → Int → Option (ByteArray)
  | 0, _, _, _, _, _ => none
  | k + 1, x1, x9, x15, x16, x17 => if x17 < x16 then (if 0 ≤ x17 then (if x17 < (x15.length : Int) then (if x17 < (ds.length : Int) then ((impl_ChainOf.f k (rdOf ByteArray.empty x15 x17) x1 x17 (rd ds x17) (wrap64 (15 - rd ds x17))).bind fun t => (if x9.size + t.size ≤ 9223372036854775807 then (impl_OnceFound.l0 ds k x1 (x9 ++ t) x15 x16 (wrap64 (x17 + 1))) else none)) else none) else none) else none) else ((impl_Chop.f x9).bind fun t => some t)
def impl_OnceFound.f (k : Nat) (l0 : List ByteArray) (a1 : Int) (a2 : ByteArray) : Option (ByteArray) := (impl_DigitsOf.f k a2).bind fun ds => if (l0.length : Int) = 10 then (impl_OnceFound.l0 ds k a1 (⟨#[]⟩ : ByteArray) l0 (l0.length : Int) 0) else (some (⟨#[]⟩ : ByteArray))
theorem impl_OnceFound.mono_l (ds : List Int) : ∀ k, (∀ y0 y1 y2 y3 y4, LeO (impl_OnceFound.l0 ds k y0 y1 y2 y3 y4) (impl_OnceFound.l0 ds (k + 1) y0 y1 y2 y3 y4))
  | 0 => fun _ _ _ _ _ r h => by simp [impl_OnceFound.l0] at h
  | k + 1 => by
    have ih0 := impl_OnceFound.mono_l ds k
    intro y0 y1 y2 y3 y4
    unfold impl_OnceFound.l0
    repeat' first
    | (with_reducible exact ih0 _ _ _ _ _)
    | (with_reducible exact impl_ChainOf.mono _ _ _ _ _ _)
    | (with_reducible exact LeO.refl _)
    | (with_reducible exact LeO.none _)
    | (with_reducible refine LeO.ite ?_ ?_)
    | (with_reducible refine LeO.bind ?_ (fun _ => ?_))
theorem impl_OnceFound.mono : ∀ a0 a1 a2 k, LeO (impl_OnceFound.f k a0 a1 a2) (impl_OnceFound.f (k + 1) a0 a1 a2) := by
  intro a0 a1 a2 k
  unfold impl_OnceFound.f
  refine LeO.bind (impl_DigitsOf.mono _ k) (fun ds => ?_)
  exact LeO.ite (impl_OnceFound.mono_l ds k _ _ _ _ _) (LeO.refl _)
set_option maxHeartbeats 4000000 in
set_option maxRecDepth 100000 in
theorem chopFound.calls (ds : List Int) (B : Nat) (A : Option Addr) (cc : Nat) (k : Nat) (A0 : Option Addr) (c0 : Nat) (l0 : List ByteArray) (a1 : Int) (r : ByteArray) (w : World) (hr0 : Kd.C Kd.string w A0 l0.length l0) (hc0 : l0.length ≤ c0) (hB : w.cell? ⟨B, 0, none⟩ = some (.slice A ds.length cc)) (hBl : B < w.heap.size) (hR : Kd.C (Kd.int .i64) w A ds.length ds)
    (h : (if (l0.length : Int) = 10 then (impl_OnceFound.l0 ds k a1 (⟨#[]⟩ : ByteArray) l0 (l0.length : Int) 0) else (some (⟨#[]⟩ : ByteArray))) = some r) (hLD : Laid w) :
    Calls Tryd.prog 74 #[.slice A0 l0.length c0, .int .i64 a1, .func (.func 75) #[] #[.pointer (some ⟨B, 0, none⟩)], .func (.func 76) #[] #[.pointer (some ⟨B, 0, none⟩)]] w fun e w' => e = .returned (.string r) ∧ Below w.heap.size w w' := by
  have HLD := Aside0.mk hLD
  have HR0 := Aside0.mk hr0
  have HC0 := Aside0.mk hc0
  have HCB := Aside0.mk hB
  have HBL := Aside0.mk hBl
  have HDS := Aside0.mk hR
  clear hr0 hc0 hB hBl hR hLD
  have HB := Aside0.mk (Below.refl w.heap.size w)
  have H := h
  clear h
  by_cases c3 : (l0.length : Int) = 10
  · rw [if_pos c3] at H
    have c3b0 : ((l0.length : Int) == 10) = true := beq_iff_eq.mpr c3
    have c3b1 : ((l0.length : Int) != 10) = false := bne_eq_false_iff_eq.mpr c3
    clear c3
    have H' := Aside0.mk H
    clear H
    go_enter Tryd.func74, Tryd.ntmps74
    go_wp2
    go_loopg [9, 17] k (fun kq v9 v17 w' => ∃ (x9_1 : ByteArray) (x17_1 : Int), v9 = .string x9_1 ∧ v17 = .int .i64 x17_1 ∧ Aside0 (impl_OnceFound.l0 ds kq a1 x9_1 l0 (l0.length : Int) x17_1 = some r) ∧ Aside0 (kq ≤ k) ∧ Aside0 (Below w.heap.size w w'))
    case atStart => exact ⟨((⟨#[]⟩ : ByteArray)), (0), (by first | rfl | (simp; done) | (simp [*]; done)), (by first | rfl | (simp; done) | (simp [*]; done)), H', ⟨Nat.le_refl _⟩, ⟨by repeat (first | (with_reducible first | exact HB.out | apply below_alloc | apply pw_below_drewN | apply below_drew1) | exact HB.out)⟩⟩
    case round =>
      clear H'
      try clear c3b0
      try clear c3b1
      obtain ⟨x9_1, x17_1, rfl, rfl, HA, HK1, HB⟩ := hrel
      cases gk with
      | zero => exact absurd HA.out (by simp [impl_OnceFound.l0])
      | succ k1 =>
        have H := HA.out
        clear HA
        simp only [impl_OnceFound.l0] at H
        by_cases c4 : x17_1 < (l0.length : Int)
        · rw [if_pos c4] at H
          have c4b0 : decide (x17_1 < (l0.length : Int)) = true := decide_eq_true c4
          by_cases c5 : 0 ≤ x17_1
          · rw [if_pos c5, if_pos c4] at H
            by_cases c6 : x17_1 < (ds.length : Int)
            · rw [if_pos c6] at H
              obtain ⟨t452, A90, H⟩ := Option.bind_eq_some_iff.mp H
              have A9 := Aside0.mk A90
              clear A90
              by_cases c10 : x9_1.size + t452.size ≤ 9223372036854775807
              · rw [if_pos c10] at H
                have c10b0 := eq_true c10
                have c10b2 : (9223372036854775807 < x9_1.size + t452.size) = False := eq_false (Nat.not_lt.2 c10)
                have H' := Aside0.mk H
                clear H
                obtain ⟨ad449, e449, hx449_0⟩ := Kd.at_string HR0.out x17_1 c5 c4
                cases e449
                replace hx449_0 := (HB.out.cell (World.block_lt_of_cell? w _ hx449_0)).trans hx449_0
                have HCW := Aside0.mk ((HB.out.cell (p := ⟨B, 0, none⟩) HBL.out).trans HCB.out)
                have HDW := Aside0.mk (Kd.C_below HDS.out HB.out)
                have HX := Aside0.mk (show 0 ≤ x17_1 ∧ x17_1 < (ds.length : Int) from ⟨c5, c6⟩)
                have p449 := eq_true c5
                have q449 := eq_true c4
                clear c4 c5 c6
                go_wp2_with (first
                  | (go_at_call 75
                     (with_reducible refine (dig1.calls x17_1 ds B A _ cc _ HCW.out HDW.out HX.out.1 HX.out.2).mono ?_)
                     rintro e w' ⟨rfl, ⟨nd, rfl⟩⟩)
                  | (go_at_call 76
                     (refine (dig2.calls x17_1 ds B A _ cc _ (show (World.drewN _ nd).cell? _ = _ from HCW.out) (Kd.C_drewN HDW.out nd) HX.out.1 HX.out.2).mono ?_)
                     rintro e w' ⟨rfl, ⟨nd2, rfl⟩⟩)
                  | (go_at_call 81
                     (with_reducible refine (impl_ChainOf.calls k1 (rdOf ByteArray.empty l0 x17_1) a1 x17_1 (rd ds x17_1) (wrap64 (15 - rd ds x17_1)) t452 _ A9.out (HLD.out.below HLD.out.pos (by repeat (first | (with_reducible first | exact HB.out | apply below_alloc | apply pw_below_drewN | apply below_drew1) | exact HB.out)))).mono ?_)
                     rintro e w11 ⟨rfl, hb⟩
                     have n0_ := Aside0.mk (below_step (by repeat (first | (with_reducible first | exact HB.out | apply below_alloc | apply pw_below_drewN | apply below_drew1) | exact HB.out)) hb)
                     clear HB
                     have HB := n0_
                     clear n0_ hb))
                go_roundg k1
                case measure => have := HK1.out; omega
                case rel => exact ⟨(x9_1 ++ t452), (wrap64 (x17_1 + 1)), (by first | rfl | (simp; done) | (simp [*]; done)), (by first | rfl | (simp; done) | (simp [*]; done)), H', ⟨by have := HK1.out; omega⟩, ⟨by repeat (first | (with_reducible first | exact HB.out | apply below_alloc | apply pw_below_drewN | apply below_drew1) | exact HB.out)⟩⟩
              · rw [if_neg c10] at H
                exact absurd H (by simp)
            · rw [if_neg c6] at H
              exact absurd H (by simp)
          · rw [if_neg c5] at H
            exact absurd H (by simp)
        · rw [if_neg c4] at H
          have c4b0 : decide (x17_1 < (l0.length : Int)) = false := decide_eq_false c4
          clear c4
          obtain ⟨t453, A120, H⟩ := Option.bind_eq_some_iff.mp H
          have A12 := Aside0.mk A120
          clear A120
          obtain rfl := Option.some.inj H
          go_wp2_with (first | ((with_reducible refine gate_callee (f := 84) rfl ?_); refine goesL_ (some 36) rfl rfl Tryd.func84 (by kernel_rfl) rfl #[.string x9_1] rfl (by (try simp only [List.map_toArray, List.map_cons, List.map_nil]); first | done | rfl | (simp only [List.length_drop, List.length_take]; rfl)) ?_; (with_reducible refine (impl_Chop.calls x9_1 t453 _ A12.out (HLD.out.below HLD.out.pos (by repeat (first | (with_reducible first | exact HB.out | apply below_alloc | apply pw_below_drewN | apply below_drew1) | exact HB.out)))).mono ?_); rintro e w13 ⟨rfl, hb⟩; refine ⟨_, rfl, ?_⟩; have n0_ := Aside0.mk (below_step (by repeat (first | (with_reducible first | exact HB.out | apply below_alloc | apply pw_below_drewN | apply below_drew1) | exact HB.out)) hb); clear HB; have HB := n0_; clear n0_; (try clear hb)))
          go_ret
          exact ⟨by first | rfl | (simp; done), by repeat (first | (with_reducible first | exact HB.out | apply below_alloc | apply pw_below_drewN | apply below_drew1) | exact HB.out)⟩
  · rw [if_neg c3] at H
    have c3b0 : ((l0.length : Int) == 10) = false := beq_eq_false_iff_ne.mpr c3
    have c3b1 : ((l0.length : Int) != 10) = true := bne_iff_ne.mpr c3
    obtain rfl := Option.some.inj H
    go_enter Tryd.func74, Tryd.ntmps74
    go_wp2
    go_ret
    exact ⟨by first | rfl | (simp; done), by repeat (first | (with_reducible first | exact HB.out | apply below_alloc | apply pw_below_drewN | apply below_drew1) | exact HB.out)⟩
set_option maxHeartbeats 4000000 in
set_option maxRecDepth 100000 in
theorem impl_OnceFound.calls (k : Nat) (A0 : Option Addr) (c0 : Nat) (l0 : List ByteArray) (a1 : Int) (a2 : ByteArray) (r : ByteArray) (w : World) (hr0 : Kd.C Kd.string w A0 l0.length l0) (hc0 : l0.length ≤ c0) (h : impl_OnceFound.f k l0 a1 a2 = some r) (hLD : Laid w) :
    Calls Tryd.prog 18 #[.slice A0 l0.length c0, .int .i64 a1, .string a2] w fun e w' => e = .returned (.string r) ∧ Below w.heap.size w w' := by
  obtain ⟨ds, h1, h2⟩ := Option.bind_eq_some_iff.mp h
  have HD := Aside0.mk h1
  have HH := Aside0.mk h2
  have HLD := Aside0.mk hLD
  have HR0 := Aside0.mk hr0
  have HC0 := Aside0.mk hc0
  clear h h1 h2 hr0 hc0 hLD
  have hmf : ∀ (fn : Fn) (first cap : Array Value) (w : World), (Instr.makeFunc fn first cap).run Tryd.prog w = .ok (.func fn first cap) w := fun _ _ _ _ => rfl
  go_enter Tryd.func18, Tryd.ntmps18
  go_wp2_with (first
    | (go_at_call 73
       (with_reducible refine (impl_DigitsOf.calls k a2 ds _ HD.out HLD.out).mono ?_)
       rintro e w1 ⟨v1, rfl, ho1, hb1⟩
       obtain ⟨A1, c1, e1⟩ := Kd.R_slice ho1
       subst e1
       have HO1 := Aside0.mk (Kd.R_reads' ho1).2.2
       have HB1 := Aside0.mk hb1
       clear ho1 hb1)
    | (go_at_call 74
       have hb2 : Below w.heap.size w (w1.alloc (.cells #[.slice A1 ds.length c1] 61)) := HB1.out.alloc HB1.out.size _
       have hcell : (w1.alloc (.cells #[.slice A1 ds.length c1] 61)).cell? ⟨w1.heap.size, 0, none⟩ = some (.slice A1 ds.length c1) := cell_of_row _ _ 0 _ _ _ (heap_alloc_new w1 _)
       have hlt : w1.heap.size < (w1.alloc (.cells #[.slice A1 ds.length c1] 61)).heap.size := by simp
       (with_reducible refine (chopFound.calls ds w1.heap.size A1 c1 k A0 c0 l0 a1 r _ (Kd.C_below HR0.out hb2) HC0.out hcell hlt (Kd.C_alloc HO1.out _) HH.out (HLD.out.below HLD.out.pos hb2)).mono ?_)
       rintro e w2 ⟨rfl, hb3⟩
       have HB2 := Aside0.mk (hb2.trans (hb3.mono hb2.size))
       clear hb2 hb3 hcell hlt))
  go_ret
  exact ⟨rfl, HB2.out⟩
end Go.Proofs.YtjcmafoepabpkaaDoor.P
