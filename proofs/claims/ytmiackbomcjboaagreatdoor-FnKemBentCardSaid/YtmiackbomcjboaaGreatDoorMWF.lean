/- Words of the eighth pass: whole arms of a walk. -/
import Derived.Test.YtmiackbomcjboaaGreatDoorMWE
namespace Go.Proofs.YtmiackbomcjboaaGreatDoor.P
open Go.RowKit YtmiackbomcjboaaGreatDoorW.PrintWords YtmiackbomcjboaaGreatDoorW.PrintLast YtmiackbomcjboaaGreatDoorW.PrintMore
set_option linter.unusedVariables false
section
variable {P : Program} {ops : Array Oper} {Q : Exit → Act → World → Prop} {rest : List Oper} {oi : Oper} {a : Act} {w w0 : World} {f : FuncId} {as_ : Array Operand} {ts : Array TypeId} {args : Array Value} {N : Option Tmp}
def GG (P : Program) (f : FuncId) (fn : Func) (oi : Oper) (as_ : Array Operand) (ts : Array TypeId) (N : Option Tmp) : Prop := (P.funcs[f]? = some fn ∧ oi.op = .call { callee := .value (.func f), args := as_, argTypes := ts }) ∧ oi.dst = N
theorem k_ {fn : Func} (M : Tmp) (hf : P.funcs[f]? = some fn) (hd : oi.dst = some M := by exact rfl) (hop : oi.op = .call { callee := .value (.func f), args := as_, argTypes := ts } := by exact rfl) : GG P f fn oi as_ ts (some M) := ⟨⟨hf, hop⟩, hd⟩
theorem k0_ {fn : Func} (hf : P.funcs[f]? = some fn) (hd : oi.dst = none := by exact rfl) (hop : oi.op = .call { callee := .value (.func f), args := as_, argTypes := ts } := by exact rfl) : GG P f fn oi as_ ts none := ⟨⟨hf, hop⟩, hd⟩
theorem gr_ {fn : Func} (hf : GG P f fn oi as_ ts N) {R : Ending → World → Prop} (hc : Calls P f args w R) (h : ∀ e w', R e w' → ∃ v, e = .returned v ∧ wpList P ops Q rest (a.put N v) w')
    (hg : oi.guard = none := by exact rfl)
    (hargs : as_.map a.eval = args := by (try simp only [List.map_toArray, List.map_cons, List.map_nil]); first | done | rfl | (simp only [List.length_drop, List.length_take]; rfl))
    (hname : (fn.name == "runtime.NumGoroutine") = false := by kernel_rfl) (hbody : fn.body.isSome = true := by exact rfl) : wpList P ops Q (oi :: rest) a w :=
  gq_ f N hf.1.1 args hc h hf.1.2 hf.2 hg hname hbody hargs
theorem gp_ {fn : Func} (hf : GG P f fn oi as_ ts N) {v : Value} (hc : Calls P f args w fun e w' => e = .returned v ∧ cx w w') (h : ∀ n, wpList P ops Q rest (a.put N v) (w.drewN n))
    (hg : oi.guard = none := by exact rfl)
    (hargs : as_.map a.eval = args := by (try simp only [List.map_toArray, List.map_cons, List.map_nil]); first | done | rfl | (simp only [List.length_drop, List.length_take]; rfl))
    (hname : (fn.name == "runtime.NumGoroutine") = false := by kernel_rfl) (hbody : fn.body.isSome = true := by exact rfl) : wpList P ops Q (oi :: rest) a w :=
  gr_ hf hc (by rintro e w' ⟨rfl, ⟨nd, rfl⟩⟩; exact ⟨_, rfl, h nd⟩) hg hargs hname hbody
theorem gc_ {fn : Func} (hf : GG P f fn oi as_ ts N) {v : Value} (hc : Calls P f args w fun e w' => e = .returned v ∧ Below w.heap.size w w') (h : ∀ w', Below w.heap.size w w' → wpList P ops Q rest (a.put N v) w')
    (hg : oi.guard = none := by exact rfl)
    (hargs : as_.map a.eval = args := by (try simp only [List.map_toArray, List.map_cons, List.map_nil]); first | done | rfl | (simp only [List.length_drop, List.length_take]; rfl))
    (hname : (fn.name == "runtime.NumGoroutine") = false := by kernel_rfl) (hbody : fn.body.isSome = true := by exact rfl) : wpList P ops Q (oi :: rest) a w :=
  gr_ hf hc (by rintro e w' ⟨rfl, hb⟩; exact ⟨_, rfl, h w' hb⟩) hg hargs hname hbody
theorem gb_ {fn : Func} (hf : GG P f fn oi as_ ts N) {v : Value} (hc : Calls P f args w fun e w' => e = .returned v ∧ Below w.heap.size w w') (h : ∀ w', aa (Below w0.heap.size w0 w') → wpList P ops Q rest (a.put N v) w')
    (hg : oi.guard = none := by exact rfl)
    (hargs : as_.map a.eval = args := by (try simp only [List.map_toArray, List.map_cons, List.map_nil]); first | done | rfl | (simp only [List.length_drop, List.length_take]; rfl))
    (hname : (fn.name == "runtime.NumGoroutine") = false := by kernel_rfl) (hbody : fn.body.isSome = true := by exact rfl) (HB0 : Below w0.heap.size w0 w := by (repeat (first | (with_reducible first | exact HB.o | apply co | apply bH | apply bE | refine dP ?_ (aa.o (by assumption))) | exact HB.o)); first | done | fail) : wpList P ops Q (oi :: rest) a w :=
  gc_ hf hc (fun w' hb => h w' ⟨du HB0 hb⟩) hg hargs hname hbody
theorem gR_ {fn : Func} (hf : GG P f fn oi as_ ts N) {g : Value → Value} {K : Value → World → Prop} (hc : Calls P f args w fun e w' => ∃ m : Value, e = .returned (g m) ∧ K m w' ∧ Below w.heap.size w w') (h : ∀ m w', K m w' → Below w.heap.size w w' → wpList P ops Q rest (a.put N (g m)) w')
    (hg : oi.guard = none := by exact rfl)
    (hargs : as_.map a.eval = args := by (try simp only [List.map_toArray, List.map_cons, List.map_nil]); first | done | rfl | (simp only [List.length_drop, List.length_take]; rfl))
    (hname : (fn.name == "runtime.NumGoroutine") = false := by kernel_rfl) (hbody : fn.body.isSome = true := by exact rfl) : wpList P ops Q (oi :: rest) a w :=
  gr_ hf hc (by rintro e w' ⟨m, rfl, hk, hb⟩; exact ⟨_, rfl, h m w' hk hb⟩) hg hargs hname hbody
theorem li_ (N : Tmp) (k : IntKind) (e : Nat) {xs y : List Int} (ny : aa (y = xs)) (h : ∀ v1 w1, (Kd.int k).R e w1 w.heap.size (fun _ => True) v1 y → Below w.heap.size w w1 → wpList P ops Q rest (a.put (some N) v1) w1)
    (hd : oi.dst = some N := by exact rfl) (hg : oi.guard = none := by exact rfl)
    (hrun : (execOp a.eval oi).run P w = .ok (.value (.slice (some ⟨w.heap.size, 0, none⟩) xs.length xs.length)) (w.alloc (.cells (xs.map (Value.int k)).toArray e)) := by (try simp only [List.map_cons, List.map_nil]); first | (go_simp; done) | (go_simp; rfl))
    (hm : xs.length ≤ 9223372036854775807 := by simp) : wpList P ops Q (oi :: rest) a w := by
  refine Kd.wX (Kd.int k) w.heap.size e hg hd (xs := xs) (ok := fun _ => True) (okp := fun _ => True) hrun ?_ (fun _ hk => hk) trivial (Below.refl _ _) (Nat.le_refl _) hm (fun v1 w1 hr hb _ _ => ?_)
  · clear hrun hm ny h
    induction xs with
    | nil => exact eM.none _ _
    | cons x xs ih => exact eM.one rfl ih
  · rw [hd]
    rw [← ny.o] at hr
    exact h v1 w1 hr hb
theorem lj_ (N : Tmp) (k : IntKind) (e : Nat) {xs y : List Int} (ny : aa (y = xs)) (h : ∀ v1 w1, aa ((Kd.int k).R e w1 w0.heap.size (fun _ => True) v1 y) → aa (Below w0.heap.size w0 w1) → wpList P ops Q rest (a.put (some N) v1) w1)
    (hd : oi.dst = some N := by exact rfl) (hg : oi.guard = none := by exact rfl)
    (hrun : (execOp a.eval oi).run P w = .ok (.value (.slice (some ⟨w.heap.size, 0, none⟩) xs.length xs.length)) (w.alloc (.cells (xs.map (Value.int k)).toArray e)) := by (try simp only [List.map_cons, List.map_nil]); first | (go_simp; done) | (go_simp; rfl))
    (hm : xs.length ≤ 9223372036854775807 := by simp) (HB0 : Below w0.heap.size w0 w := by (repeat (first | (with_reducible first | exact HB.o | apply co | apply bH | apply bE | refine dP ?_ (aa.o (by assumption))) | exact HB.o)); first | done | fail) : wpList P ops Q (oi :: rest) a w :=
  li_ N k e ny (fun v1 w1 hr hb => h v1 w1 ⟨Kd.uY hr (av HB0)⟩ ⟨du HB0 hb⟩) hd hg hrun hm
theorem bq_ (N : Tmp) (cs : Array Value) (t : TypeId) (h : ∀ g w1, g = w.heap.size → Below w.heap.size w w1 → aa (Below w0.heap.size w0 w1) → aa (w1.heap[g]? = some (.cells cs t (0, 0))) → aa (w0.heap.size ≤ g) → wpList P ops Q rest (a.put (some N) (.pointer (some ⟨g, 0, none⟩))) w1)
    (hd : oi.dst = some N := by exact rfl) (hg : oi.guard = none := by exact rfl)
    (hrun : (execOp a.eval oi).run P w = .ok (.value (.pointer (some ⟨w.heap.size, 0, none⟩))) (w.alloc (.cells cs t (0, 0))) := by first | (go_simp; done) | (go_simp; rfl))
    (HB0 : Below w0.heap.size w0 w := by (repeat (first | (with_reducible first | exact HB.o | apply co | apply bH | apply bE | refine dP ?_ (aa.o (by assumption))) | exact HB.o)); first | done | fail) : wpList P ops Q (oi :: rest) a w :=
  nt hg hd hrun fun g e w1 hx hb => by rw [hd]; exact h g w1 e hb ⟨du HB0 hb⟩ ⟨hx⟩ ⟨by rw [e]; exact av HB0⟩
theorem bx_ (N : Tmp) (cs : Array Value) (t : TypeId) (h : ∀ g w1, Below w.heap.size w w1 → aa (Below w0.heap.size w0 w1) → aa (w1.heap[g]? = some (.cells cs t (0, 0))) → aa (w0.heap.size ≤ g) → wpList P ops Q rest (a.put (some N) (.pointer (some ⟨g, 0, none⟩))) w1)
    (hd : oi.dst = some N := by exact rfl) (hg : oi.guard = none := by exact rfl)
    (hrun : (execOp a.eval oi).run P w = .ok (.value (.pointer (some ⟨w.heap.size, 0, none⟩))) (w.alloc (.cells cs t (0, 0))) := by first | (go_simp; done) | (go_simp; rfl))
    (HB0 : Below w0.heap.size w0 w := by (repeat (first | (with_reducible first | exact HB.o | apply co | apply bH | apply bE | refine dP ?_ (aa.o (by assumption))) | exact HB.o)); first | done | fail) : wpList P ops Q (oi :: rest) a w :=
  nt hg hd hrun fun g e w1 hx hb => by rw [hd]; exact h g w1 hb ⟨du HB0 hb⟩ ⟨hx⟩ ⟨by rw [e]; exact av HB0⟩
theorem ga_ (i j : Nat) (h : wpList P ops Q (oi :: rest) a w) (ho : oi.op = .call { callee := .builtin .append, args := #[.tmp i, .tmp j], argTypes := ts } := by exact rfl) : wpList P ops Q (oi :: rest) a w := h
theorem ap_ {W : World} {k : IntKind} {s x : Nat} {t e : TypeId} {bytes n : Nat} {v : Value} {xs y : List Int} {p : Int} {q : Prop} (HO : aa q) (ny : aa (y = xs ++ [p])) (lm : aa (xs.length < n))
    (hu : P.underlying t = some (.slice e)) (hi : (P.info? e).map (fun i => (i.zero, i.size, i.bytes)) = some (some (.int k 0), 1, bytes))
    (h : ∀ v1 w1, aa ((Kd.int k).R e w1 w0.heap.size (fun _ => True) v1 y) → aa (Below w0.heap.size w0 w1) → W.grownBy w1 v.ownBlock → (v1.ownBlock = v.ownBlock ∨ ∃ b, v1.ownBlock = some b ∧ W.heap.size ≤ b) → wpList P ops Q rest (a.put N v1) w1)
    (ho : oi.op = .call { callee := .builtin .append, args := #[.tmp s, .tmp x], argTypes := #[t, t] } := by exact rfl) (hd : oi.dst = N := by (try dsimp only); first | done | exact rfl) (hg : oi.guard = none := by exact rfl)
    (hx : a.eval (.tmp x) = .slice (some ⟨W.heap.size, 0, none⟩) 1 1 := by exact rfl)
    (hq : q → (Kd.int k).R e W w0.heap.size (fun _ => True) v xs := by intro x_; (with_reducible repeat (first | apply Kd.R_alloc | apply Kd.vH | apply Kd.vh)); exact x_)
    (hs : a.eval (.tmp s) = v := by exact rfl)
    (hb0 : 0 < bytes := by omega) (hl : n * bytes ≤ 140737488355328 := by omega)
    (HB0 : Below w0.heap.size w0 W := by (repeat (first | (with_reducible first | exact HB.o | apply co | apply bH | apply bE | refine dP ?_ (aa.o (by assumption))) | exact HB.o)); first | done | fail) : wpList P ops Q (oi :: rest) a (W.alloc (.cells #[.int k p] e)) :=
  Kd.vK (Kd.int k) (w0 := w0) (W := W) w0.heap.size hg (.tmp s) (.tmp x) t e (.int k 0) bytes ho hu hi rfl (by show 0 < 1; decide) hb0 v xs p [.int k p] (fun _ => True) (fun _ => False) hs hx rfl (fun _ hk => hk.elim) (fun _ _ => trivial) (hq HO.o) HB0 (av HB0)
    (Nat.le_trans (Nat.mul_le_mul_right bytes lm.o) hl) (fun v1 w1 hr hb hgr hat => by rw [← ny.o] at hr; rw [hd]; exact h v1 w1 ⟨hr⟩ ⟨hb⟩ hgr hat)
theorem st_ {α : Type} {d : Kd α} {W w1 : World} (t : TypeId) (p : Tmp) {vo : Operand} {g e base : Nat} {ok : Nat → Prop} {v : Value} {xs y : List α} (HP : d.R e w1 base ok v xs ∧ W.grownBy w1 (some g)) (ny : aa (y = xs)) (GB : aa (w0.heap.size ≤ g))
    (h : ∀ w', w' = w1 → d.R e w' base ok v y → W.grownBy w' (some g) → aa (Below w0.heap.size w0 w') → wpList P ops Q rest a w')
    (ho : oi.op = .store t (.tmp p) vo := by exact rfl) (hn : oi.dst = none := by exact rfl) (hg : oi.guard = none := by exact rfl)
    (hrun : (execOp a.eval oi).run P W = .ok .skip w1 := by first | (go_simp; done) | (go_simp; rfl))
    (HB0 : Below w0.heap.size w0 w1 := by refine dP ?_ (aa.o (by assumption)); exact HB.o) : wpList P ops Q (oi :: rest) a W :=
  oS hg ho hn hrun fun w' hw => by subst hw; exact h w' rfl (by rw [ny.o]; exact HP.1) HP.2 ⟨HB0⟩
end
section
variable {P : Program} {f : FuncId} {args args' : Array Value} {w w0 : World} {R R' : Ending → World → Prop} {v : Value}
theorem ma_ (hc : Calls P f args w R) (h : ∀ e w', R e w' → R' e w') (ha : args = args' := by with_reducible rfl) : Calls P f args' w R' := ha ▸ hc.mono h
theorem mp_ (hc : Calls P f args w fun e w' => e = .returned v ∧ cx w w') (h : ∀ n, R' (.returned v) (w.drewN n)) (ha : args = args' := by with_reducible rfl) : Calls P f args' w R' := ma_ hc (by rintro e w' ⟨rfl, ⟨nd, rfl⟩⟩; exact h nd) ha
theorem mb_ (hc : Calls P f args w fun e w' => e = .returned v ∧ Below w.heap.size w w') (h : ∀ w', Below w.heap.size w w' → R' (.returned v) w') (ha : args = args' := by with_reducible rfl) : Calls P f args' w R' := ma_ hc (by rintro e w' ⟨rfl, hb⟩; exact h w' hb) ha
theorem mB_ (hc : Calls P f args w fun e w' => e = .returned v ∧ Below w.heap.size w w') (h : ∀ w', aa (Below w0.heap.size w0 w') → R' (.returned v) w') (ha : args = args' := by with_reducible rfl) (HB0 : Below w0.heap.size w0 w := by (repeat (first | (with_reducible first | exact HB.o | apply co | apply bH | apply bE | refine dP ?_ (aa.o (by assumption))) | exact HB.o)); first | done | fail) : Calls P f args' w R' := mb_ hc (fun w' hb => h w' ⟨du HB0 hb⟩) ha
theorem mR_ {g : Value → Value} {K : Value → World → Prop} (hc : Calls P f args w fun e w' => ∃ m : Value, e = .returned (g m) ∧ K m w' ∧ Below w.heap.size w w') (h : ∀ m w', K m w' → Below w.heap.size w w' → R' (.returned (g m)) w') (ha : args = args' := by with_reducible rfl) : Calls P f args' w R' := ma_ hc (by rintro e w' ⟨m, rfl, hk, hb⟩; exact h m w' hk hb) ha
end
section
variable {α β : Type} {d : Kd α} {d2 : Kd β} {e e2 base base2 g t : Nat} {W w1 w0 wz : World} {ok okv : Nat → Prop} {u v : Value} {xs : List α} {ys : List β} {a : Prop} {o : Obj} {cells : Array Value}
theorem fR_ (x : aa a) (hb : Below W.heap.size W w1 := by exact hb) (h : a → d.R e W base ok v xs := by intro x_; (with_reducible repeat (first | apply Kd.R_alloc | apply Kd.vH | apply Kd.vh)); exact x_) : aa (d.R e w1 base ok v xs) := ⟨Kd.vE (h x.o) hb⟩
theorem fS_ (x : aa a) (hb : Below W.heap.size W w1 := by exact hb) (h : a → d.S e W base ok v xs := by intro x_; (with_reducible repeat (first | apply Kd.S_alloc | apply Kd.S_drewN | apply Kd.vM)); exact x_) : aa (d.S e w1 base ok v xs) := ⟨Kd.wM (h x.o) hb⟩
theorem fV_ (x : aa a) (hb : Below W.heap.size W w1 := by exact hb) (h : a → d.V e W base ok v xs := by intro x_; (with_reducible repeat (first | apply Kd.V_alloc | apply Kd.V_drewN | apply Kd.V_drew)); exact x_) : aa (d.V e w1 base ok v xs) := ⟨Kd.xv (h x.o) hb⟩
theorem cJ (x : aa a) (ho : d2.R e2 w1 W.heap.size okv v ys := by exact ho_) (hb : Below W.heap.size W w1 := by exact hb) (h : a → d.R e W base ok u xs := by intro x_; (with_reducible repeat (first | apply Kd.R_alloc | apply Kd.vH | apply Kd.vh)); exact x_) : aa (d.R e w1 base (fun k => ok k ∧ some k ≠ v.ownBlock) u xs) := ⟨Kd.vg (h x.o) (Kd.vd ho) hb⟩
theorem dr (x : aa a) (ho : d2.R e2 w1 W.heap.size okv v ys := by exact ho_) (hb : Below W.heap.size W w1 := by exact hb) (h : a → d.S e W base ok u xs := by intro x_; (with_reducible repeat (first | apply Kd.S_alloc | apply Kd.S_drewN | apply Kd.vM)); exact x_) : aa (d.S e w1 base (fun k => ok k ∧ some k ≠ v.ownBlock) u xs) := ⟨Kd.vc (h x.o) (Kd.vd ho) hb⟩
theorem qU (x : aa a) (ho : d2.S e2 w1 W.heap.size okv v ys := by exact ho_) (hb : Below W.heap.size W w1 := by exact hb) (h : a → d.S e W base ok u xs := by intro x_; (with_reducible repeat (first | apply Kd.S_alloc | apply Kd.S_drewN | apply Kd.vM)); exact x_) : aa (d.S e w1 base (fun k => ok k ∧ some k ≠ v.ownBlock) u xs) := ⟨Kd.vc (h x.o) (Kd.vT ho) hb⟩
theorem tR (x : aa a) (ho : d2.R e2 w1 W.heap.size okv v ys := by exact ho_) (hb : Below W.heap.size W w1 := by exact hb) (h : a → d.V e W base ok u xs := by intro x_; (with_reducible repeat (first | apply Kd.V_alloc | apply Kd.V_drewN | apply Kd.V_drew)); exact x_) : aa (d.V e w1 base (fun k => ok k ∧ some k ≠ v.ownBlock) u xs) := ⟨Kd.xc (h x.o) (Kd.vd ho) hb⟩
theorem lR_ (x : d.R e w1 W.heap.size ok v xs) (h : Below w0.heap.size w0 W := by (repeat (first | (with_reducible first | exact HB.o | apply co | apply bH | apply bE | refine dP ?_ (aa.o (by assumption))) | exact HB.o)); first | done | fail) : aa (d.R e w1 w0.heap.size ok v xs) := ⟨Kd.uY x (av h)⟩
theorem lS_ (x : d.S e w1 W.heap.size ok v xs) (h : Below w0.heap.size w0 W := by (repeat (first | (with_reducible first | exact HB.o | apply co | apply bH | apply bE | refine dP ?_ (aa.o (by assumption))) | exact HB.o)); first | done | fail) : aa (d.S e w1 w0.heap.size ok v xs) := ⟨Kd.vI x (av h)⟩
theorem cN (x : d.R e w1 W.heap.size ok v xs) (y : aa a) (h : a → d2.R e2 W base2 okv u ys := by intro x_; (with_reducible repeat (first | apply Kd.R_alloc | apply Kd.vH | apply Kd.vh)); exact x_) : d.R e w1 W.heap.size (fun k => ok k ∧ some k ≠ u.ownBlock) v xs := Kd.vq x (Kd.vF (h y.o))
theorem rh (x : d.S e w1 W.heap.size ok v xs) (y : aa a) (h : a → d2.S e2 W base2 okv u ys := by intro x_; (with_reducible repeat (first | apply Kd.S_alloc | apply Kd.S_drewN | apply Kd.vM)); exact x_) : d.S e w1 W.heap.size (fun k => ok k ∧ some k ≠ u.ownBlock) v xs := Kd.vN x (Kd.wV (h y.o))
theorem fC_ {A : Option Addr} {n : Nat} (x : aa a) (hb : Below W.heap.size W w1 := by exact hb) (h : a → d.C W A n xs := by intro x_; (repeat (first | exact x_ | (with_reducible refine Kd.C_alloc ?_ _) | (with_reducible refine Kd.C_drewN ?_ _) | (with_reducible refine Kd.C_drew ?_))); first | done | fail) : aa (d.C w1 A n xs) := ⟨Kd.vb (h x.o) hb⟩
theorem fK_ (x : aa a) (hb : Below W.heap.size W w1 := by exact hb) (h : a → W.heap[g]? = some o := by intro x_; (with_reducible repeat (first | refine jI ?_ _ | refine iG ?_ | refine blk_alloc ?_ _)); exact x_) : aa (w1.heap[g]? = some o) := ⟨eX (h x.o) hb⟩
theorem gK_ (x : aa (wz.heap[g]? = some (.cells cells t))) (y : aa (d.R e wz base ok v xs)) (hg : W.grownBy w1 v.ownBlock := by exact hg) (h : wz.heap[g]? = some (.cells cells t) → W.heap[g]? = some (.cells cells t) := by intro x_; (with_reducible repeat (first | refine jI ?_ _ | refine iG ?_ | refine blk_alloc ?_ _)); exact x_) (hn : e ≠ t := by decide) : aa (w1.heap[g]? = some (.cells cells t)) := ⟨fF (h x.o) hg (Kd.wU y.o x.o hn)⟩
theorem sB_ (hb : Below W.heap.size W w1 := by exact hb) (h : Below w0.heap.size w0 W := by (repeat (first | (with_reducible first | exact HB.o | apply co | apply bH | apply bE | refine dP ?_ (aa.o (by assumption))) | exact HB.o)); first | done | fail) : aa (Below w0.heap.size w0 w1) := ⟨du h hb⟩
end
theorem n_ {p q : Prop} (x : p) (y : q) : p ∧ q := ⟨x, y⟩
theorem dD_ {p : Prop} (h : p := by first | exact ⟨rfl, _, World.drewN_drewN _ _ _⟩ | exact ⟨rfl, _, Eq.trans (World.drewN_drewN _ _ _) (congrArg (World.drewN _) (Nat.add_assoc _ _ _))⟩) : p := h
end Go.Proofs.YtmiackbomcjboaaGreatDoor.P
