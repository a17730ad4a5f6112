/-
  Short rules for walks: what is plain is done by itself. No condition: these are rules over any program; Short rules for walks: maps, as lists of keys and values. No condition: these are rules over any program.
-/
import Derived.Test.YtfoabgljfikklaaGreatDoorWaf
set_option linter.unusedVariables false
set_option linter.unusedSimpArgs false
namespace Go.Proofs.YtfoabgljfikklaaGreatDoor.V.M
attribute [local irreducible] GX GO
section
variable {P : Program} {ops : Array Oper} {Q : Exit → Act → World → Prop} {S : World → Prop} {n : Nat}
variable {i : Nat} {p : Plan} {e : Env} {w : World} {k : Kd} {dst : Option Tmp} {ty : TypeId} {pos : String} {aft : Array Edge} {g : Option (Nat × Bool)}
def effs : Nat → Nat → Plan
  | _, 0 => .done
  | i, m + 1 => .eff i (effs (i + 1) m)
theorem planIdx_effs : ∀ (m i : Nat), planIdx (effs i m) = some (List.range' i m)
  | 0, _ => rfl
  | m + 1, i => by simp [effs, planIdx, planIdx_effs m (i + 1), List.range'_succ]
theorem GC.regionE [Fr] {id : Nat} {ops : Array Oper} {m : Nat} (hm : ops.size = m) (h : GX P ops Q (fun _ => True) n (effs 0 m) e w) : GC P (.region id ops false) Q n e w := by
  subst hm
  exact GC.region (effs 0 ops.size) (by rw [planIdx_effs, List.range_eq_range']) h
theorem GX.next [Fr] {m : Nat} {o : Oper} (ho : ops[i]? = some o) (h : GO P ops Q S n .eff i o (effs (i + 1) m) e w) : GX P ops Q S n (effs i (m + 1)) e w := GX.eff ho h
theorem GX.stop [Fr] (h : GQ Q .normal n e w) : GX P ops Q S n (effs i 0) e w := GX.done h
theorem GC.condT [Fr] {c : Operand} {x y : Code} (hc : ev e c = some (.bool true)) (h : GC P x Q n e w) : GC P (.cond c x y) Q n e w := GC.cond hc (fun _ => h) fun h => by cases h
theorem GC.condF [Fr] {c : Operand} {x y : Code} (hc : ev e c = some (.bool false)) (h : GC P y Q n e w) : GC P (.cond c x y) Q n e w := GC.cond hc (fun h => by cases h) fun _ => h
theorem GC.condD [Fr] {c : Operand} {x y : Code} {p : Prop} [Decidable p] (hc : ev e c = some (.bool (decide p))) (h1 : p → GC P x Q n e w) (h2 : ¬ p → GC P y Q n e w) : GC P (.cond c x y) Q n e w :=
  GC.cond hc (fun h => h1 (of_decide_eq_true h)) fun h => h2 (of_decide_eq_false h)
theorem GC.condN [Fr] {c : Operand} {x y : Code} {p : Prop} [Decidable p] (hc : ev e c = some (.bool (!decide p))) (h1 : ¬ p → GC P x Q n e w) (h2 : p → GC P y Q n e w) : GC P (.cond c x y) Q n e w :=
  GC.cond hc (fun h => h1 (by simpa using h)) fun h => h2 (by simpa using h)
theorem GX.caseD [Fr] {m : Nat} {o oj : Oper} {j t : Nat} {want : Bool} {p : Prop} [Decidable p] (ho : ops[i]? = some o) (hg : o.guard = some (j, want)) (hj : ops[j]? = some oj) (ht : oj.dst = some t) (hl : look t e = some (.bool (decide p)))
    (h1 : p → GX P ops Q S n (effs i m) ((t, .bool true) :: e) w) (h2 : ¬ p → GX P ops Q S n (effs i m) ((t, .bool false) :: e) w) : GX P ops Q S n (effs i m) e w :=
  GX.case t hl (fun h => h1 (of_decide_eq_true h)) fun h => h2 (of_decide_eq_false h)
theorem GX.caseN [Fr] {m : Nat} {o oj : Oper} {j t : Nat} {want : Bool} {p : Prop} [Decidable p] (ho : ops[i]? = some o) (hg : o.guard = some (j, want)) (hj : ops[j]? = some oj) (ht : oj.dst = some t) (hl : look t e = some (.bool (!decide p)))
    (h1 : ¬ p → GX P ops Q S n (effs i m) ((t, .bool true) :: e) w) (h2 : p → GX P ops Q S n (effs i m) ((t, .bool false) :: e) w) : GX P ops Q S n (effs i m) e w :=
  GX.case t hl (fun h => h1 (by simpa using h)) fun h => h2 (by simpa using h)
theorem GX.call [Fr] {m : Nat} {x : Operand} {args : Array Operand} {ts : Array TypeId} {f : FuncId} {fs cs : Array Value} {vs : List Value} {R : Value → World → Prop} {al : List Value} (hc : Ret P f al.toArray w R)
    (ho : ops[i]? = some ⟨dst, .call ⟨.value x, args, ts⟩, ty, pos, aft, g⟩) (hw : wantedE ops e ⟨dst, .call ⟨.value x, args, ts⟩, ty, pos, aft, g⟩ = some true) (hx : ev e x = some (.func (.func f) fs cs)) (hy : evs e args.toList = some vs) (hd : fits n dst = true)
    (hal : fs.toList ++ vs ++ cs.toList = al) [hf : CaF P f]
    (h : ∀ v w', R v w' → GX P ops Q (fun _ => True) n (effs (i + 1) m) (e.put dst v) w') : GX P ops Q (fun _ => True) n (effs i (m + 1)) e w :=
  GX.eff ho (GO.callL hw hx hy hd hal hc fun v w' hR => ⟨fun _ _ => trivial, h v w' hR⟩)
theorem GX.store [Fr] {m : Nat} {t : TypeId} {agg : Bool} {sz : Nat} [hf : TyF P t agg sz] {x y : Operand} {b o : Nat} {v : Value} {vs l l' : List Value} (hB : Blk w b l)
    (ho : ops[i]? = some ⟨none, .store t x y, ty, pos, aft, g⟩) (hw : wantedE ops e ⟨none, .store t x y, ty, pos, aft, g⟩ = some true) (hx : ev e x = some (.pointer (some ⟨b, o, none⟩))) (hy : ev e y = some v)
    (hv : v.cells.toList = vs) (hl : vs.length = sz) (hlen : Nat.ble (o + sz) l.length = true) (h1 : ∀ u ∈ vs, u.oneCell' = true) (hl' : l.take o ++ vs ++ l.drop (o + vs.length) = l')
    (h : ∀ w', Blk w' b l' → Mod (· = b) w w' → GX P ops Q (fun _ => True) n (effs (i + 1) m) e w') : GX P ops Q (fun _ => True) n (effs i (m + 1)) e w :=
  GX.eff ho (GO.store (hB.wr (Nat.le_of_ble_eq_true hlen)) hv hl h1 hw hx hy fun w' hp => ⟨fun _ _ => trivial, h w' (hl' ▸ hp.blk hB) hp.mod⟩)
theorem GX.box [Fr] {m : Nat} {t : TypeId} {x : Operand} {v : Value} {l : List Value}
    (ho : ops[i]? = some ⟨dst, .box t x, ty, pos, aft, g⟩) (hw : wantedE ops e ⟨dst, .box t x, ty, pos, aft, g⟩ = some true) (hx : ev e x = some v) (hd : fits n dst = true) (hv : v.cells.toList = l)
    (h : ∀ b w', b = w.heap.size → Blk w' b l → Ext w w' → GX P ops Q (fun _ => True) n (effs (i + 1) m) (e.put dst (.pointer (some ⟨b, 0, none⟩))) w') : GX P ops Q (fun _ => True) n (effs i (m + 1)) e w :=
  GX.eff ho (GO.box hv hw hx hd fun b w' h1 h2 h3 => ⟨fun _ _ => trivial, h b w' h1 h2 h3⟩)
theorem GX.alloc [Fr] {m : Nat} {t : TypeId} {l : List Value} [hz : ZeF P t l]
    (ho : ops[i]? = some ⟨dst, .alloc t, ty, pos, aft, g⟩) (hw : wantedE ops e ⟨dst, .alloc t, ty, pos, aft, g⟩ = some true) (hd : fits n dst = true)
    (h : ∀ b w', b = w.heap.size → Blk w' b l → Ext w w' → GX P ops Q (fun _ => True) n (effs (i + 1) m) (e.put dst (.pointer (some ⟨b, 0, none⟩))) w') : GX P ops Q (fun _ => True) n (effs i (m + 1)) e w :=
  GX.eff ho (GO.alloc hw hd fun b w' h1 h2 h3 => ⟨fun _ _ => trivial, h b w' h1 h2 h3⟩)
theorem GX.buildSlice [Fr] {m : Nat} {t : TypeId} {len : Nat} {parts : Array (Nat × Operand)} {vs : List (Nat × Value)} {pl : List (Nat × List Value)} {out : List Value} {el : TypeId} {sz by_ : Nat}
    (ho : ops[i]? = some ⟨dst, .buildSlice t len parts, ty, pos, aft, g⟩) [hf : SlF P t el sz by_] (hw : wantedE ops e ⟨dst, .buildSlice t len parts, ty, pos, aft, g⟩ = some true)
    (hx : parts.toList.mapM (fun x => (ev e x.2).map fun v => (x.1, v)) = some vs) (hp : vs.map (fun x => (x.1, x.2.cells.toList)) = pl) (hb : sliceL P t len pl = some out) (hfit : Nat.ble (len * by_) 140737488355328 = true ∧ Nat.ble len 140737488355328 = true) (hlen : out.length = len * sz) (hd : fits n dst = true)
    (h : ∀ b w', b = w.heap.size → OwnS w' el sz (some b) (some ⟨b, 0, none⟩) len len out → Ext w w' → GX P ops Q (fun _ => True) n (effs (i + 1) m) (e.put dst (.slice (some ⟨b, 0, none⟩) len len)) w') : GX P ops Q (fun _ => True) n (effs i (m + 1)) e w :=
  GX.eff ho (GO.buildSlice hb ⟨Nat.le_of_ble_eq_true hfit.1, by have := Nat.le_of_ble_eq_true hfit.2; simp only [maxLen]; omega⟩ hw hx hp hlen hd fun b w' h1 h2 h3 => ⟨fun _ _ => trivial, h b w' h1 h2 h3⟩)
theorem GX.makeSlice [Fr] {m : Nat} {t : TypeId} {x y : Operand} {k1 k2 : IntKind} {l c : Int} {el : TypeId} {sz by_ : Nat} {zl : List Value}
    (ho : ops[i]? = some ⟨dst, .makeSlice t x y, ty, pos, aft, g⟩) [hf : SlF P t el sz by_] (hz0 : zeroB P el = some zl) (hw : wantedE ops e ⟨dst, .makeSlice t x y, ty, pos, aft, g⟩ = some true) (hx : ev e x = some (.int k1 l)) (hy : ev e y = some (.int k2 c)) (hd : fits n dst = true)
    (h0 : 0 ≤ l) (hlc : l ≤ c) (hb : (by_ : Int) * c ≤ 281474976710656) (h63 : c ≤ 4611686018427387904)
    (h : ∀ b w', b = w.heap.size → OwnS w' el sz (some b) (some ⟨b, 0, none⟩) l.toNat c.toNat ((List.replicate l.toNat zl).flatten) → Ext w w' → GX P ops Q (fun _ => True) n (effs (i + 1) m) (e.put dst (.slice (some ⟨b, 0, none⟩) l.toNat c.toNat)) w') : GX P ops Q (fun _ => True) n (effs i (m + 1)) e w :=
  GX.eff ho (GO.makeSlice hz0 hw hx hy h0 hlc hb h63 hd fun b w' h1 h2 h3 => ⟨fun _ _ => trivial, h b w' h1 h2 h3⟩)
theorem GX.append [Fr] {m : Nat} {x y : Operand} {t el : TypeId} {sz by_ : Nat} {ob : Option Nat} {a a2 : Option Addr} {len cap m2 c2 : Nat} {cs news : List Value} (hO : OwnS w el sz ob a len cap cs) (hN : SlA w a2 news)
    (ho : ops[i]? = some ⟨dst, .call ⟨.builtin .append, #[x, y], #[t, t]⟩, ty, pos, aft, g⟩) [hf : SlF P t el sz by_] (hw : wantedE ops e ⟨dst, .call ⟨.builtin .append, #[x, y], #[t, t]⟩, ty, pos, aft, g⟩ = some true) (hx : ev e x = some (.slice a len cap)) (hy : ev e y = some (.slice a2 m2 c2)) (hd : fits n dst = true)
    (hz : Nat.blt 0 sz = true) (hnl : news.length = m2 * sz) (h1 : ∀ u ∈ news, u.oneCell' = true) (hb : (len + m2) * by_ ≤ 140737488355328) (hm : len + m2 ≤ 140737488355328)
    (h : ∀ ob' a' c' w', OwnS w' el sz ob' a' (len + m2) c' (cs ++ news) → Mod (fun k => some k = ob) w w' → (∀ x, ob' = some x → ob = some x ∨ w.heap.size ≤ x) → (∀ x, a' = some x → ob' = some x.block ∨ (a = some x ∧ ob' = ob)) →
      GX P ops Q (fun _ => True) n (effs (i + 1) m) (e.put dst (.slice a' (len + m2) c')) w') : GX P ops Q (fun _ => True) n (effs i (m + 1)) e w :=
  GX.eff ho (GO.append hO hN hnl h1 hb hm hz hw hx hy hd fun ob' a' c' w' q1 q2 q3 q4 => ⟨fun _ _ => trivial, h ob' a' c' w' q1 q2 q3 q4⟩)
theorem GX.load1 [Fr] {m : Nat} {t : TypeId} {x : Operand} {b o : Nat} {v : Value} {l : List Value} (hA : At w b o (v :: l)) (ho : ops[i]? = some ⟨dst, .load t x, ty, pos, aft, g⟩) [hf : TyF P t false 1] (hw : wantedE ops e ⟨dst, .load t x, ty, pos, aft, g⟩ = some true) (hx : ev e x = some (.pointer (some ⟨b, o, none⟩))) (hd : fits n dst = true)
    (h : GX P ops Q S n (effs (i + 1) m) (e.put dst v) w) : GX P ops Q S n (effs i (m + 1)) e w := GX.eff ho (GO.load1 hA hw hx hd h)
theorem GX.loadN [Fr] {m : Nat} {t : TypeId} {sz : Nat} {x : Operand} {b o : Nat} {l : List Value} (hA : At w b o l) (ho : ops[i]? = some ⟨dst, .load t x, ty, pos, aft, g⟩) [hf : TyF P t true sz] (hl : l.length = sz) (hw : wantedE ops e ⟨dst, .load t x, ty, pos, aft, g⟩ = some true) (hx : ev e x = some (.pointer (some ⟨b, o, none⟩))) (hd : fits n dst = true)
    (h : GX P ops Q S n (effs (i + 1) m) (e.put dst (.agg l.toArray)) w) : GX P ops Q S n (effs i (m + 1)) e w := GX.eff ho (GO.loadN hA hl hw hx hd h)
theorem GO.ldB1 [Fr] {t : TypeId} [hf : TyF P t false 1] {x : Operand} {b o : Nat} {v : Value} {l l' : List Value} (hw : wantedE ops e ⟨dst, .load t x, ty, pos, aft, g⟩ = some true) (hx : ev e x = some (.pointer (some ⟨b, o, none⟩))) (hd : fits n dst = true)
    (hB : Blk w b l) (hv : l.drop o = v :: l') (h : GX P ops Q S n p (e.put dst v) w) : GO P ops Q S n .eff i ⟨dst, .load t x, ty, pos, aft, g⟩ p e w := GO.load1 (hB.get hv) hw hx hd h
theorem GO.ldBN [Fr] {t : TypeId} {sz : Nat} [hf : TyF P t true sz] {x : Operand} {b o : Nat} {l l' : List Value} (hw : wantedE ops e ⟨dst, .load t x, ty, pos, aft, g⟩ = some true) (hx : ev e x = some (.pointer (some ⟨b, o, none⟩))) (hd : fits n dst = true)
    (hB : Blk w b l) (hl : (l.drop o).take sz = l') (hz : l'.length = sz) (h : GX P ops Q S n p (e.put dst (.agg l'.toArray)) w) : GO P ops Q S n .eff i ⟨dst, .load t x, ty, pos, aft, g⟩ p e w := by
  subst hl
  have h1 := (hB.get (o := o) rfl).take 0 sz
  rw [Nat.add_zero, List.drop_zero] at h1
  exact GO.loadN h1 hz hw hx hd h
theorem GO.ldA1 [Fr] {t : TypeId} [hf : TyF P t false 1] {x : Operand} {b o : Nat} {v : Value} {l : List Value} (hw : wantedE ops e ⟨dst, .load t x, ty, pos, aft, g⟩ = some true) (hx : ev e x = some (.pointer (some ⟨b, o, none⟩))) (hd : fits n dst = true)
    (hA : At w b o (v :: l)) (h : GX P ops Q S n p (e.put dst v) w) : GO P ops Q S n .eff i ⟨dst, .load t x, ty, pos, aft, g⟩ p e w := GO.load1 hA hw hx hd h
theorem GO.ldAN [Fr] {t : TypeId} {sz : Nat} [hf : TyF P t true sz] {x : Operand} {b o : Nat} {l : List Value} (hw : wantedE ops e ⟨dst, .load t x, ty, pos, aft, g⟩ = some true) (hx : ev e x = some (.pointer (some ⟨b, o, none⟩))) (hd : fits n dst = true)
    (hA : At w b o l) (hl : l.length = sz) (h : GX P ops Q S n p (e.put dst (.agg l.toArray)) w) : GO P ops Q S n .eff i ⟨dst, .load t x, ty, pos, aft, g⟩ p e w := GO.loadN hA hl hw hx hd h
theorem GQ.r1 {fn : Func} {t : Tmp} {v : Value} {R : Value → World → Prop} (hr : fn.results = #[.tmp t]) (hl : look t e = some v) (hR : R v w) : GQ (bodyPost P fn (fun en w' => ∃ v, en = .returned v ∧ R v w')) .ret n e w := GQ.ret1 (.inl rfl) hr hl hR
theorem GQ.r0 {fn : Func} {R : Value → World → Prop} (hr : fn.results = #[]) (hR : R (.tuple #[]) w) : GQ (bodyPost P fn (fun en w' => ∃ v, en = .returned v ∧ R v w')) .ret n e w := GQ.ret0 (.inl rfl) hr hR
theorem GQ.r0n {fn : Func} {R : Value → World → Prop} (hr : fn.results = #[]) (hR : R (.tuple #[]) w) : GQ (bodyPost P fn (fun en w' => ∃ v, en = .returned v ∧ R v w')) .normal n e w := GQ.ret0 (.inr rfl) hr hR
theorem GQ.r2 {fn : Func} {t u : Tmp} {v v' : Value} {R : Value → World → Prop} (hr : fn.results = #[.tmp t, .tmp u]) (hl : look t e = some v) (hl' : look u e = some v') (hR : R (.tuple #[v, v']) w) : GQ (bodyPost P fn (fun en w' => ∃ v, en = .returned v ∧ R v w')) .ret n e w := GQ.ret2 (.inl rfl) hr hl hl' hR
theorem GQ.r3 {fn : Func} {t u s : Tmp} {v v' v'' : Value} {R : Value → World → Prop} (hr : fn.results = #[.tmp t, .tmp u, .tmp s]) (hl : look t e = some v) (hl' : look u e = some v') (hl'' : look s e = some v'') (hR : R (.tuple #[v, v', v'']) w) : GQ (bodyPost P fn (fun en w' => ∃ v, en = .returned v ∧ R v w')) .ret n e w := GQ.ret3 (.inl rfl) hr hl hl' hl'' hR
def keysE : Env → List Nat
  | [] => []
  | x :: r => x.1 :: keysE r
theorem Sub.app {e e1 e2 : Env} (h1 : Sub e1 e) (h2 : Sub e2 e) : Sub (e1 ++ e2) e := by
  intro t v hv
  have key : ∀ (l : Env), look t (l ++ e2) = (match look t l with | some u => some u | none => look t e2) := by
    intro l
    induction l with
    | nil => rfl
    | cons x l ih =>
      simp only [List.cons_append, look]
      cases hb : Nat.beq x.1 t with
      | true => rfl
      | false => exact ih
  rw [key] at hv
  cases hl : look t e1 with
  | some u => rw [hl] at hv; cases hv; exact h1 t _ hl
  | none => rw [hl] at hv; exact h2 t v hv
theorem GC.loopN [Fr] {X : Type} {c : Code} (ks : List Nat) (E : X → Env) (J : X → World → Prop) (μ : X → Nat) (x0 : X) {e0 : Env} (h0 : pickE e ks = some e0) (hx : pickE e (keysE (E x0)) = some (E x0)) (hJ : J x0 w)
    (round : ∀ x w, J x w → GC P c (Exit.then (Again (fun x => E x ++ e0) J μ n (μ x)) Q) n (E x ++ e0) w) : GC P (.loop c) Q n e w :=
  GC.loop (fun x => E x ++ e0) J μ x0 (Sub.app (sub_pick hx) (sub_pick h0)) hJ round
theorem GQ.againN [Fr] {X : Type} {E : X → Env} {J : X → World → Prop} {μ : X → Nat} {m : Nat} (x : X) (hs : pickE e (keysE (E x)) = some (E x)) (hJ : J x w) (hm : μ x < m) : GQ (Exit.then (Again E J μ n m) Q) .normal n e w :=
  GQ.again x (sub_pick hs) hJ hm
end
end Go.Proofs.YtfoabgljfikklaaGreatDoor.V.M
namespace Go.Proofs.YtfoabgljfikklaaGreatDoor.V.M
attribute [local irreducible] GX GO
set_option linter.unusedSectionVars false
section
variable {κ ν : Type} [DecidableEq κ]
def mget : List (κ × ν) → κ → Option ν
  | [], _ => none
  | (a, v) :: r, k => if k = a then some v else mget r k
def mput : List (κ × ν) → κ → ν → List (κ × ν)
  | [], k, v => [(k, v)]
  | (a, u) :: r, k, v => if k = a then (k, v) :: r else (a, u) :: mput r k v
def mdel : List (κ × ν) → κ → List (κ × ν)
  | [], _ => []
  | (a, u) :: r, k => if k = a then r else (a, u) :: mdel r k
end
section
variable {κ ν : Type} [DecidableEq κ] {kv : κ → Value} {vv : ν → Value}
def EM (kv : κ → Value) (vv : ν → Value) : List MapEntry → List (κ × ν) → Prop
  | [], [] => True
  | x :: E, y :: M => x.key = kv y.1 ∧ x.val = vv y.2 ∧ EM kv vv E M
  | _, _ => False
def MapB (w : World) (b : Nat) (kv : κ → Value) (vv : ν → Value) (M : List (κ × ν)) : Prop :=
  ∃ (E : List MapEntry) (clock : Nat), w.heap[b]? = some (.map E.toArray clock) ∧ EM kv vv E M ∧ (E.map (·.born)).Nodup ∧ ∀ x ∈ E, x.born < clock
theorem MapB.mod {S : Nat → Prop} {w w' : World} {b : Nat} {M : List (κ × ν)} (h : MapB w b kv vv M) (hm : Mod S w w') (hn : ¬ S b) : MapB w' b kv vv M :=
  let ⟨E, c, h1, h2⟩ := h; ⟨E, c, hm.row h1 hn, h2⟩
theorem MapB.ext {w w' : World} {b : Nat} {M : List (κ × ν)} (h : MapB w b kv vv M) (hm : Ext w w') : MapB w' b kv vv M := h.mod hm id
theorem MapB.lt {w : World} {b : Nat} {M : List (κ × ν)} (h : MapB w b kv vv M) : b < w.heap.size := let ⟨_, _, h1, _⟩ := h; (Array.getElem?_eq_some_iff.1 h1).1
theorem EM.length : ∀ {E : List MapEntry} {M : List (κ × ν)}, EM kv vv E M → E.length = M.length
  | [], [], _ => rfl
  | _ :: _, _ :: _, h => by simp [EM.length h.2.2]
def wrE (k v : Value) (y : MapEntry) : MapEntry := { y with key := k, val := v }
def setAt : List MapEntry → Nat → (MapEntry → MapEntry) → List MapEntry
  | [], _, _ => []
  | x :: l, 0, f => f x :: l
  | x :: l, i + 1, f => x :: setAt l i f
theorem setAt_get (f : MapEntry → MapEntry) : ∀ (E : List MapEntry) (i j : Nat), (setAt E i f)[j]? = if i = j then (E[j]?).map f else E[j]?
  | [], i, j => by simp [setAt]
  | x :: l, 0, j => by cases j <;> simp [setAt]
  | x :: l, i + 1, j => by
    cases j with
    | zero => simp [setAt]
    | succ j => simp [setAt, setAt_get f l i j]
theorem setAt_eq (f : MapEntry → MapEntry) (E : List MapEntry) (i : Nat) : E.toArray.modify i f = (setAt E i f).toArray := by
  apply Array.ext_getElem?
  intro j
  rw [Array.getElem?_modify]
  simp [setAt_get]
theorem setAt_born {f : MapEntry → MapEntry} (hf : ∀ x, (f x).born = x.born) : ∀ (E : List MapEntry) (i : Nat), (setAt E i f).map (·.born) = E.map (·.born)
  | [], _ => rfl
  | x :: l, 0 => by simp [setAt, hf]
  | x :: l, i + 1 => by simp [setAt, setAt_born hf l i]
class KeyV (P : Program) (kv : κ → Value) (kt : TypeId) : Prop where
  out : ∃ d, P.underlying kt = some d ∧ (∀ a b, Instr.sameNow d (kv a) (kv b) = some (decide (a = b))) ∧ (∀ em a w, (Instr.checkKey em 10000 kt (kv a)).run P w = .ok () w) ∧ ∀ a, Instr.sameBits 10000 (kv a) (kv a) = true
variable {P : Program}
theorem find_no {d : TypeDesc} (hs : ∀ a b, Instr.sameNow d (kv a) (kv b) = some (decide (a = b))) {k : κ} : ∀ {E : List MapEntry} {M : List (κ × ν)} (i : Nat), EM kv vv E M → mget M k = none → Instr.findNow d (kv k) E i = some none
  | [], [], _, _, _ => rfl
  | x :: E, (a, u) :: M, i, h, hn => by
    obtain ⟨h1, _, h3⟩ := h
    simp only [mget] at hn
    split at hn
    · cases hn
    · rename_i hk
      simp only [Instr.findNow, h1, hs, hk, decide_false]
      exact find_no hs (i + 1) h3 hn
theorem find_yes {d : TypeDesc} (hs : ∀ a b, Instr.sameNow d (kv a) (kv b) = some (decide (a = b))) {k : κ} {v : ν} : ∀ {E : List MapEntry} {M : List (κ × ν)} (i : Nat), EM kv vv E M → mget M k = some v →
    ∃ j x, Instr.findNow d (kv k) E i = some (some (i + j, vv v)) ∧ E[j]? = some x ∧ x.key = kv k ∧ (∀ u, EM kv vv (setAt E j (wrE (kv k) (vv u))) (mput M k u)) ∧ EM kv vv (E.eraseIdx j) (mdel M k)
  | [], [], _, _, hn => nomatch hn
  | [], _ :: _, _, h, _ => nomatch h
  | x :: E, (a, u) :: M, i, h, hn => by
    obtain ⟨h1, h2, h3⟩ := h
    simp only [mget] at hn
    split at hn
    · rename_i hk
      subst hk
      cases hn
      exact ⟨0, x, by simp only [Instr.findNow, h1, hs, decide_true, h2, Nat.add_zero], rfl, h1, fun u => by simp only [mput, if_true, setAt]; exact ⟨rfl, rfl, h3⟩, by simp only [mdel, if_true, List.eraseIdx_cons_zero]; exact h3⟩
    · rename_i hk
      obtain ⟨j, y, q1, q2, q3, q4, q5⟩ := find_yes hs (i + 1) h3 hn
      refine ⟨j + 1, y, ?_, by simpa using q2, q3, fun u' => ?_, ?_⟩
      · simp only [Instr.findNow, h1, hs, hk, decide_false, q1]
        rw [show i + 1 + j = i + (j + 1) by omega]
      · simp only [mput, hk, if_false, setAt]; exact ⟨h1, h2, q4 u'⟩
      · simp only [mdel, hk, if_false, List.eraseIdx_cons_succ]; exact ⟨h1, h2, q5⟩
theorem EM.push {k : κ} {v : ν} {c : Nat} : ∀ {E : List MapEntry} {M : List (κ × ν)}, EM kv vv E M → mget M k = none → EM kv vv (E ++ [⟨kv k, vv v, c⟩]) (mput M k v)
  | [], [], _, _ => ⟨rfl, rfl, trivial⟩
  | x :: E, (a, u) :: M, h, hn => by
    simp only [mget] at hn
    split at hn
    · cases hn
    · rename_i hk
      simp only [mput, hk, if_false, List.cons_append]
      exact ⟨h.1, h.2.1, h.2.2.push hn⟩
def putB (w : World) (b : Nat) (o : Obj) : World := { w with heap := w.heap.setIfInBounds b o }
theorem mod_putB (w : World) (b : Nat) (o : Obj) : Mod (· = b) w (putB w b o) :=
  ⟨rfl, rfl, rfl, by simp [putB], fun k _ hk => by simp only [putB]; rw [Array.getElem?_setIfInBounds_ne (fun h => hk h.symm)]⟩
theorem putB_same {w : World} {b : Nat} (o : Obj) (h : b < w.heap.size) : (putB w b o).heap[b]? = some o := by simp [putB, h]
theorem getMap {w : World} {B clock : Nat} {E : Array MapEntry} (h : w.heap[B]? = some (.map E clock)) : (getObj B).run P w = .ok (.map E clock) w := by simp [getObj, Sem.run, h]
theorem setMap {w : World} {B clock : Nat} {E : Array MapEntry} (h : w.heap[B]? = some (.map E clock)) (o : Obj) : (setObj B o).run P w = .ok () (putB w B o) := by simp [setObj, Sem.run, h, putB]
theorem getIt {w : World} {B s c : Nat} {M : Option Nat} {sn : Array Nat} (h : w.heap[B]? = some (.mapIter M s sn c)) : (getObj B).run P w = .ok (.mapIter M s sn c) w := by simp [getObj, Sem.run, h]
def lookV (vv : ν → Value) (Z : Value) (ok : Bool) : Option ν → Value
  | some v => if ok then .tuple #[vv v, .bool true] else vv v
  | none => if ok then .tuple #[Z, .bool false] else Z
theorem run_lookup {w : World} {b : Nat} {M : List (κ × ν)} (hM : MapB w b kv vv M) {t kt el : TypeId} (hu : P.underlying t = some (.map kt el)) (hk : KeyV P kv kt) {Z : Value} (hz : ∀ w, (zeroValue el).run P w = .ok Z w) (k : κ) (ok : Bool) :
    (Instr.lookup t (.map (some b)) (kv k) ok).run P w = .ok (lookV vv Z ok (mget M k)) w := by
  obtain ⟨d, hd, hs, hc, _⟩ := hk.out
  obtain ⟨E, c, h1, h2, _, _⟩ := hM
  cases hg : mget M k with
  | none =>
    have hf := find_no hs 0 h2 hg
    have hfk : (Instr.findKey kt (kv k) E).run P w = .ok none w := by simp [Instr.findKey, run_underlying hd, hf]
    cases ok <;> simp [Instr.lookup, run_underlying hu, getMap h1, hc, hfk, hz, lookV]
  | some v =>
    obtain ⟨j, x, hf, _⟩ := find_yes hs 0 h2 hg
    have hfk : (Instr.findKey kt (kv k) E).run P w = .ok (some (0 + j, vv v)) w := by simp [Instr.findKey, run_underlying hd, hf]
    cases ok <;> simp [Instr.lookup, run_underlying hu, getMap h1, hc, hfk, lookV]
theorem run_update {w : World} {b : Nat} {M : List (κ × ν)} (hM : MapB w b kv vv M) {t kt el : TypeId} (hu : P.underlying t = some (.map kt el)) (hk : KeyV P kv kt) (k : κ) (v : ν) :
    ∃ w', (Instr.mapUpdate t (.map (some b)) (kv k) (vv v)).run P w = .ok () w' ∧ MapB w' b kv vv (mput M k v) ∧ Mod (· = b) w w' := by
  obtain ⟨d, hd, hs, hc, hb⟩ := hk.out
  have hlt := hM.lt
  obtain ⟨E, c, h1, h2, h3, h4⟩ := hM
  cases hg : mget M k with
  | none =>
    have hf := find_no hs 0 h2 hg
    have hfk : (Instr.findKey kt (kv k) E).run P w = .ok none w := by simp [Instr.findKey, run_underlying hd, hf]
    refine ⟨putB w b (.map (E ++ [(⟨kv k, vv v, c⟩ : MapEntry)]).toArray (c + 1)), ?_, ⟨_, _, putB_same _ hlt, h2.push hg, ?_, ?_⟩, mod_putB _ _ _⟩
    · simp only [Instr.mapUpdate, Sem.run_bind, run_underlying hu, Result.andThen_ok, getMap h1, hc, List.toList_toArray, hfk]
      rw [setMap h1]
      simp
    · rw [List.map_append, List.nodup_append]
      refine ⟨h3, by simp, fun a ha q hq e => ?_⟩
      simp at hq
      subst hq
      subst e
      obtain ⟨x, hx, he⟩ := List.mem_map.1 ha
      have := h4 x hx
      omega
    · intro x hx
      rcases List.mem_append.1 hx with hx | hx
      · have := h4 x hx; omega
      · simp at hx; subst hx; exact Nat.lt_succ_self _
  | some u =>
    obtain ⟨j, x, hf, hx, hxk, hput, _⟩ := find_yes hs 0 h2 hg
    have hfk : (Instr.findKey kt (kv k) E).run P w = .ok (some (0 + j, vv u)) w := by simp [Instr.findKey, run_underlying hd, hf]
    refine ⟨putB w b (.map (setAt E j (wrE (kv k) (vv v))).toArray c), ?_, ⟨_, _, putB_same _ hlt, hput v, ?_, ?_⟩, mod_putB _ _ _⟩
    · simp only [Instr.mapUpdate, Sem.run_bind, run_underlying hu, Result.andThen_ok, getMap h1, hc, List.toList_toArray, hfk]
      simp only [Nat.zero_add, List.getElem?_toArray, hx, Option.map_some, Option.getD_some, hxk]
      rw [show (Instr.keyThatStays (kv k) (kv k)).run P w = .ok (kv k) w by simp [Instr.keyThatStays, hb]]
      simp only [Result.andThen_ok]
      rw [show (fun e : MapEntry => ({ e with key := kv k, val := vv v } : MapEntry)) = wrE (kv k) (vv v) from rfl, setAt_eq]
      rw [setMap h1]
    · rw [setAt_born (f := wrE (kv k) (vv v)) fun _ => rfl]; exact h3
    · intro y hy
      have : y.born ∈ (setAt E j (wrE (kv k) (vv v))).map (·.born) := List.mem_map.2 ⟨y, hy, rfl⟩
      rw [setAt_born (f := wrE (kv k) (vv v)) fun _ => rfl] at this
      obtain ⟨z, hz, he⟩ := List.mem_map.1 this
      have := h4 z hz
      omega
end
end Go.Proofs.YtfoabgljfikklaaGreatDoor.V.M
