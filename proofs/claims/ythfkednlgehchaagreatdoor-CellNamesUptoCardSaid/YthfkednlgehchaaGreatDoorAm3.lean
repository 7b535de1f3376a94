/- The abstract machine: regions in any order, code, calls; how a walk and a start are told. -/
import Derived.Test.YthfkednlgehchaaGreatDoorAm2
import Derived.Orders
import Derived.LoopN
import Derived.Scope
import Derived.Defers
import Derived.Below
import Derived.Laws.Externs
set_option linter.unusedVariables false
set_option linter.unusedSimpArgs false
/-! One operation of the abstract machine, against the model's. -/
namespace Go.Am
open Go
variable {P : Program}

structure FrR (ρ : Rho) (N : Nat) (fr : Fr) (a : Act) : Prop where
  size : N ≤ a.tmps.size
  tmp : ∀ t, VR ρ (Fr.at fr t) (a.tmps.getD t Am.undef)

theorem FrR.mono {ρ ρ' : Rho} (hle : ρ.le ρ') {N : Nat} {fr : Fr} {a : Act} (h : FrR ρ N fr a) : FrR ρ' N fr a := ⟨h.size, fun t => (h.tmp t).mono hle⟩

theorem Fr.at_put (fr : Fr) (d : Option Tmp) (v : Value) (t : Nat) : Fr.at (fr.put d v) t = if d = some t then v else Fr.at fr t := by
  cases d with
  | none => simp [Fr.put]
  | some d =>
    simp only [Fr.put, Fr.at, T.get_set, Option.some.injEq]
    by_cases e : d = t
    · rw [if_pos (congrArg Nat.succ e), if_pos e]
    · rw [if_neg (fun h => e (Nat.succ.inj h)), if_neg e]

theorem Fr.late_put (fr : Fr) (d : Option Tmp) (v : Value) : (fr.put d v).late = fr.late := by
  cases d with
  | none => rfl
  | some d => simp only [Fr.put, Fr.late, T.get_set]; rw [if_neg (Nat.succ_ne_zero d)]

theorem Fr.at_late (fr : Fr) (v : Value) (t : Nat) : Fr.at (fr.set 0 v) t = Fr.at fr t := by
  simp only [Fr.at, T.get_set]; rw [if_neg (Nat.succ_ne_zero t).symm]

/-- A call that was put off, in the model's words. -/
def lateOf : Value → Deferred
  | .func fn args cap => { target := .fn fn cap, args := args }
  | _ => { target := .nil, args := #[] }

/-- The calls that a frame has put off. -/
def DfR (ρ : Rho) (fr : Fr) (a : Act) : Prop := ∃ vs, VR ρ fr.late (.tuple vs) ∧ a.defers = vs.toList.map lateOf

theorem DfR.mono {ρ ρ' : Rho} (hle : ρ.le ρ') {fr : Fr} {a : Act} (h : DfR ρ fr a) : DfR ρ' fr a :=
  let ⟨vs, h1, h2⟩ := h; ⟨vs, h1.mono hle, h2⟩

theorem DfR.same {ρ : Rho} {fr fr' : Fr} {a a' : Act} (h : DfR ρ fr a) (hl : fr'.late = fr.late) (hd : a'.defers = a.defers) : DfR ρ fr' a' :=
  let ⟨vs, h1, h2⟩ := h; ⟨vs, by rw [hl]; exact h1, by rw [hd]; exact h2⟩

theorem FrR.put {ρ : Rho} {N : Nat} {fr : Fr} {a : Act} (h : FrR ρ N fr a) {d : Option Tmp} (hd : ∀ t, d = some t → t < N) {v v' : Value} (hv : VR ρ v v') : FrR ρ N (fr.put d v) (a.put d v') := by
  cases d with
  | none => exact ⟨h.size, fun t => by rw [Fr.at_put]; simpa [Act.put] using h.tmp t⟩
  | some d =>
    have hlt := Nat.lt_of_lt_of_le (hd d rfl) h.size
    refine ⟨by simpa [Act.put] using h.size, fun t => ?_⟩
    rw [Fr.at_put]
    simp only [Act.put, Option.some.injEq]
    by_cases e : d = t
    · subst e
      rw [if_pos rfl]
      have : (a.tmps.setIfInBounds d v').getD d Am.undef = v' := by simp [Array.getD_eq_getD_getElem?, hlt]
      rw [this]; exact hv
    · rw [if_neg e]
      have : (a.tmps.setIfInBounds d v').getD t Am.undef = a.tmps.getD t Am.undef := by simp [Array.getD_eq_getD_getElem?, Array.getElem?_setIfInBounds_ne e]
      rw [this]; exact h.tmp t

/-- An operand that the abstract machine takes. -/
def opOk (P : Program) : Operand → Bool
  | .const v => plainV 20 v
  | .global g => g.blt P.globals.size
  | _ => true

theorem ev_ok {H : AH} {ρ : Rho} {h : Array Obj} (hW : WR P H ρ h) {N : Nat} {fr : Fr} {a : Act} (hF : FrR ρ N fr a) {x : Operand} (hx : opOk P x = true) : VR ρ (ev fr x) (a.eval x) := by
  cases x with
  | tmp t => exact hF.tmp t
  | const v => exact VR.plain ρ 20 v hx
  | global g =>
    have hlt : g < P.globals.size := Nat.le_of_ble_eq_true hx
    obtain ⟨m, hm, h1, h2⟩ := hW.glob g hlt
    have := VR.ptr (ρ := ρ) 0 hm
    rw [h1, h2] at this
    exact this
  | func f => exact VR.func_of (.func f) .nil .nil

/-- What an operation leaves. -/
def OkN (P : Program) (H : AH) (ρ : Rho) (w : World) (s : Sem Next) (v : Value) (H' : AH) : Prop :=
  ∃ v' w' ρ', (s.run P w = .ok (.value v') w' ∨ (s.run P w = .ok .skip w' ∧ v' = Am.undef)) ∧ VR ρ' v v' ∧ WR P H' ρ' w'.heap ∧ Grw H ρ w H' ρ' w'

theorem OkV.next {H H' : AH} {ρ : Rho} {w : World} {s : Sem Value} {v : Value} (h : OkV P H ρ w s v H') : OkN P H ρ w (do pure (.value (← s))) v H' := by
  obtain ⟨v', w', ρ', h1, h2⟩ := h
  exact ⟨v', w', ρ', .inl (by simp [h1]), h2⟩

theorem OkU.next {H H' : AH} {ρ : Rho} {w : World} {s : Sem Unit} (h : OkU P H ρ w s H') : OkN P H ρ w (do s; pure .skip) Am.undef H' := by
  obtain ⟨w', ρ', h1, h2⟩ := h
  exact ⟨Am.undef, w', ρ', .inr ⟨by simp [h1], rfl⟩, VR.undef ρ', h2⟩

theorem OkN.val {H : AH} {ρ : Rho} {w : World} (hW : WR P H ρ w.heap) {v v' : Value} (h : VR ρ v v') : OkN P H ρ w (pure (.value v')) v H :=
  ⟨v', w, ρ, .inl rfl, h, hW, hW.refl⟩

theorem map_LR {ρ : Rho} {f g : Operand → Value} : ∀ (xs : List Operand), (∀ x ∈ xs, VR ρ (f x) (g x)) → LR ρ (xs.map f) (xs.map g)
  | [], _ => .nil
  | x :: xs, h => .cons (h x (by simp)) (map_LR xs fun y hy => h y (by simp [hy]))

theorem map_PR {ρ : Rho} {f g : Operand → Value} : ∀ (xs : List (Nat × Operand)), (∀ x ∈ xs, VR ρ (f x.2) (g x.2)) → PR ρ (xs.map fun p => (p.1, f p.2)) (xs.map fun p => (p.1, g p.2))
  | [], _ => .nil
  | x :: xs, h => .cons (h x (by simp)) (map_PR xs fun y hy => h y (by simp [hy]))

theorem map_OR {ρ : Rho} {f g : Operand → Value} {x : Option Operand} (h : ∀ y, x = some y → VR ρ (f y) (g y)) : OR ρ (x.map f) (x.map g) := by
  cases x with
  | none => exact .none
  | some y => exact .some (h y rfl)

theorem ofH_spec {o : Option AH} {v : Value} {H : AH} (h : AR.ofH o = some (.val v H)) : o = some H ∧ v = Am.undef := by cases o <;> simp_all [AR.ofH]
theorem ofB_spec {o : Option (Value × AH)} {v : Value} {H : AH} (h : AR.ofB o = some (.val v H)) : o = some (v, H) := by
  cases o with
  | none => simp [AR.ofB] at h
  | some p => obtain ⟨a, b⟩ := p; simp only [AR.ofB, Option.some.injEq, AR.val.injEq] at h; obtain ⟨rfl, rfl⟩ := h; rfl
theorem of_spec {H0 : AH} {o : Option Value} {v : Value} {H : AH} (h : AR.of H0 o = some (.val v H)) : o = some v ∧ H = H0 := by
  cases o <;> simp_all [AR.of]

theorem builtin_ok (hz : ZOk P) {H H' : AH} {ρ : Rho} {w : World} (hW : WR P H ρ w.heap) {b : Builtin} {ts : Array TypeId} {ty : TypeId} {cs : Array Bool} {args args' : List Value} {v : Value}
    (h : aBuiltin P H b ts.toList args = some (.val v H')) (ha : LR ρ args args') : OkN P H ρ w (builtin b ts ty cs args'.toArray) v H' := by
  unfold aBuiltin at h
  split at h
  · split at h
    · rename_i t ts' x xs hts
      obtain ⟨h1, rfl⟩ := of_spec h
      cases ha with
      | cons hx ht =>
        have ht0 : ts[0]? = some t := by rw [← Array.getElem?_toList, hts]; rfl
        exact ((len_ok (ty := ty) hW ht0 (by simp) h1 hx).okV hW).next
    · cases h
  · exact (append_ok hz hW (ofB_spec h) ha).next
  · exact (copy_ok hW (ofB_spec h) ha).next
  · obtain ⟨h1, rfl⟩ := of_spec h
    exact ((max_ok h1 ha).okV hW).next
  · obtain ⟨h1, rfl⟩ := of_spec h
    exact ((min_ok h1 ha).okV hW).next
  · cases h

theorem nilCheck_ok {H H' : AH} {ρ : Rho} {w : World} (hW : WR P H ρ w.heap) {x v : Value} {f : Operand → Value} {y : Operand} {d : Option Tmp} {t : TypeId} {p : String} {af : Array Edge} {g : Option (Nat × Bool)}
    (h : (match x with | .pointer none | .nilIface | .nilFunc | .func (.method _) _ _ => none | v => some (AR.val v H)) = some (.val v H')) (hx : VR ρ x (f y)) :
    OkN P H ρ w (execOp f ⟨d, .nilCheck y, t, p, af, g⟩) v H' := by
  unfold execOp
  simp only
  generalize f y = x' at hx
  cases hx with
  | func fn h1 h2 h3 h4 =>
    cases fn with
    | method nm => cases h
    | _ => cases h; exact .val hW (.func _ h1 h2 h3 h4)
  | pnil => cases h
  | nilFunc => cases h
  | nilIface => cases h
  | bool => cases h; exact .val hW (.bool _)
  | int => cases h; exact .val hW (.int _ _)
  | float => cases h; exact .val hW (.float _ _)
  | complex => cases h; exact .val hW (.complex _ _ _)
  | string => cases h; exact .val hW (.string _)
  | ptr o hm => cases h; exact .val hW (.ptr o hm)
  | opq r o => cases h; exact .val hW (.opq r o)
  | snil => cases h; exact .val hW .snil
  | smt => cases h; exact .val hW (.smt _ _)
  | sz => cases h; exact .val hW (.sz _)
  | sl _ _ _ _ hm hc hl hR => cases h; exact .val hW (.sl _ _ _ _ hm hc hl hR)
  | mnil => cases h; exact .val hW .mnil
  | map hm => cases h; exact .val hW (.map hm)
  | chnil => cases h; exact .val hW .chnil
  | iface _ hx => cases h; exact .val hW (.iface _ hx)
  | agg h1 h2 => cases h; exact .val hW (.agg h1 h2)
  | tuple h1 h2 => cases h; exact .val hW (.tuple h1 h2)

set_option maxHeartbeats 4000000 in
theorem op_val (hz : ZOk P) {H H' : AH} {ρ : Rho} {w : World} (hW : WR P H ρ w.heap) {fr : Fr} {a : Act} {o : Oper} (E : ∀ x ∈ o.op.operands, VR ρ (ev fr x) (a.eval x)) {v : Value}
    (h : aOp P fr H o = some (.val v H')) : OkN P H ρ w (execOp a.eval o) v H' := by
  obtain ⟨dst, op, oty, pos, after, guard⟩ := o
  cases op <;> simp only [aOp] at h <;> simp only [Op.operands] at E
  case nilCheck x => exact nilCheck_ok hW h (E x (by simp))
  all_goals simp only [execOp]
  case move x => cases h; exact .val hW (E x (by simp))
  case assign x => cases h; exact .val hW (E x (by simp))
  case pick c x y =>
    have hc := E c (by simp)
    split at h
    · rename_i e0; rw [e0] at hc
      generalize a.eval c = c' at hc
      cases hc; cases h
      exact ⟨_, w, ρ, .inl (by simp [asBool]), E x (by simp), hW, hW.refl⟩
    · rename_i e0; rw [e0] at hc
      generalize a.eval c = c' at hc
      cases hc; cases h
      exact ⟨_, w, ρ, .inl (by simp [asBool]), E y (by simp), hW, hW.refl⟩
    · cases h
  case alloc t =>
    split at h
    · rename_i z hzt; cases h; exact (alloc_ok hz hW hzt).next
    · cases h
  case box t x => cases h; exact (box_ok hW t (E x (by simp))).next
  case build t ps =>
    obtain ⟨h1, rfl⟩ := of_spec h
    refine ((build_ok hz (ps' := ps.map fun (i, x) => (i, a.eval x)) h1 ?_).okV hW).next
    rw [Array.toList_map]
    exact map_PR _ fun p hp => E p.2 (by simp; exact ⟨p.1, by simpa using hp⟩)
  case buildSlice t n ps =>
    refine (buildSlice_ok hz hW (ps' := ps.map fun (i, x) => (i, a.eval x)) (ofB_spec h) ?_).next
    rw [Array.toList_map]
    exact map_PR _ fun p hp => E p.2 (by simp; exact ⟨p.1, by simpa using hp⟩)
  case insert t m k x =>
    obtain ⟨h1, rfl⟩ := ofH_spec h
    exact (mapUpdate_ok hW h1 (E m (by simp)) (E k (by simp)) (E x (by simp))).next
  case mapUpdate t m k x =>
    obtain ⟨h1, rfl⟩ := ofH_spec h
    exact (mapUpdate_ok hW h1 (E m (by simp)) (E k (by simp)) (E x (by simp))).next
  case load t x =>
    obtain ⟨h1, rfl⟩ := of_spec h
    exact ((load_ok hW h1 (E x (by simp))).okV hW).next
  case store t x y =>
    obtain ⟨h1, rfl⟩ := ofH_spec h
    exact (store_ok hW h1 (E x (by simp)) (E y (by simp))).next
  case binOp op t x y yt =>
    obtain ⟨h1, rfl⟩ := of_spec h
    exact ((bin_ok h1 (E x (by simp)) (E y (by simp)) w).okV hW).next
  case unOp op t x =>
    obtain ⟨h1, rfl⟩ := of_spec h
    exact ((un_ok h1 (E x (by simp)) w).okV hW).next
  case convert s d x => exact (convert_ok hW (ofB_spec h) (E x (by simp))).next
  case makeInterface t x =>
    split at h
    · cases h
    · rename_i d hn hu
      cases h
      exact ((makeInterface_ok hu (fun ms e => hn ms (e ▸ rfl)) (E x (by simp))).okV hW).next
    · cases h
  case makeFunc fn first captured =>
    cases h
    refine ⟨.func fn (first.map a.eval) (captured.map a.eval), w, ρ, .inl rfl, VR.func_of fn ?_ ?_, hW, hW.refl⟩
    · rw [Array.toList_map, Array.toList_map]; exact map_LR _ fun x hx => E x (by simp; exact .inl (by simpa using hx))
    · rw [Array.toList_map, Array.toList_map]; exact map_LR _ fun x hx => E x (by simp; exact .inr (by simpa using hx))
  case makeMap t r =>
    cases r with
    | some r => simp at h
    | none =>
      cases h
      obtain ⟨g1, g2⟩ := hW.new (w' := { w with heap := w.heap.push (.map #[] 0) }) (k := .map [] 0 true) rfl (obj := .map #[] 0) 0 0
        ⟨rfl, #[], by simp, rfl, fun i e e' h _ => by simp at h⟩ rfl rfl rfl rfl
      exact ⟨.map (some w.heap.size), _, _, .inl (by simp [Instr.makeMap]), .map (m := ⟨w.heap.size, 0, 0, 0⟩) (Rho.set_same ..), g1, g2⟩
  case makeSlice t l c => exact (makeSlice_ok hz hW (ofB_spec h) (E l (by simp)) (E c (by simp))).next
  case slice t x lo hi mx =>
    obtain ⟨h1, rfl⟩ := of_spec h
    refine ((slice_ok hW h1 (E x (by simp)) (map_OR fun y hy => E y ?_) (map_OR fun y hy => E y ?_) (map_OR fun y hy => E y ?_)).okV hW).next <;> (subst hy; simp)
  case fieldAddr s x f =>
    obtain ⟨h1, rfl⟩ := of_spec h
    exact ((fieldAddr_ok h1 (E x (by simp))).okV hW).next
  case field t x f =>
    obtain ⟨h1, rfl⟩ := of_spec h
    exact ((field_ok h1 (E x (by simp))).okV hW).next
  case indexAddr t x i =>
    obtain ⟨h1, rfl⟩ := of_spec h
    exact ((indexAddr_ok h1 (E x (by simp)) (E i (by simp))).okV hW).next
  case index t x i =>
    obtain ⟨h1, rfl⟩ := of_spec h
    exact ((index_ok h1 (E x (by simp)) (E i (by simp))).okV hW).next
  case lookup t x i ok =>
    obtain ⟨h1, rfl⟩ := of_spec h
    exact ((lookup_ok hz hW h1 (E x (by simp)) (E i (by simp))).okV hW).next
  case range t x => exact (range_ok hW (ofB_spec h) (E x (by simp))).next
  case next it s => exact (next_ok hW (ofB_spec h) (E it (by simp))).next
  case entry it =>
    obtain ⟨h1, rfl⟩ := of_spec h
    exact ((entry_ok hW h1 (E it (by simp))).okV hW).next
  case typeAssert x xt t ok =>
    obtain ⟨h1, rfl⟩ := of_spec h
    exact ((assert_ok hz h1 (E x (by simp))).okV hW).next
  case extract x i =>
    have hx := E x (by simp)
    split at h
    · rename_i vs e0
      obtain ⟨h1, rfl⟩ := of_spec h
      rw [e0] at hx
      exact ((extract_ok h1 hx).okV hW).next
    · cases h
  case call c =>
    split at h
    · split at h <;> cases h
    · split at h
      · split at h <;> cases h
      · cases h
    · rename_i b hb
      have ha : LR ρ (c.args.toList.map (ev fr)) (c.args.toList.map a.eval) := map_LR _ fun x hx => E x (by
        unfold Call.operands
        rw [hb]
        exact Array.mem_append.2 (.inr (Array.mem_toList_iff.1 hx)))
      have := builtin_ok (ty := oty) (cs := c.args.map fun | .const _ => true | _ => false) hz hW h ha
      have e1 : (c.args.toList.map a.eval).toArray = c.args.map a.eval := by apply Array.ext'; rw [Array.toList_map]
      rw [e1] at this
      unfold resolve
      rw [hb]
      exact this
  all_goals cases h

/-! ### Calls -/

/-- A function that may be entered. -/
def FnOk (P : Program) (f : FuncId) : Prop := ∃ fn, P.funcs[f]? = some fn ∧ fn.name ≠ "runtime.NumGoroutine" ∧ fn.body.isSome = true

theorem run_callFunc {f : FuncId} (h : FnOk P f) (args : Array Value) (w : World) : (callFunc f args).run P w = .ok (.enter f args) w := by
  obtain ⟨fn, h1, h2, h3⟩ := h
  unfold callFunc
  have hb : fn.body.isNone = false := by cases hf : fn.body <;> simp_all
  have hn : (fn.name == "runtime.NumGoroutine") = false := by simpa using h2
  simp only [Sem.run_bind, run_program, Result.andThen_ok, h1, hn, hb, Bool.false_eq_true, if_false, Sem.run_pure]

theorem op_enter {H : AH} {ρ : Rho} {w : World} {fr : Fr} {a : Act} {o : Oper} (E : ∀ x ∈ o.op.operands, VR ρ (ev fr x) (a.eval x)) {f : FuncId} {args : List Value}
    (h : aOp P fr H o = some (.enter f args)) : ∃ args', (execOp a.eval o).run P w = (callFunc f args'.toArray).run P w ∧ LR ρ args args' := by
  have o1 : ∀ (H0 : AH) (o : Option Value), AR.of H0 o ≠ some (.enter f args) := by intro H0 o; cases o <;> simp [AR.of]
  have o2 : ∀ (o : Option AH), AR.ofH o ≠ some (.enter f args) := by intro o; cases o <;> simp [AR.ofH]
  have o3 : ∀ (o : Option (Value × AH)), AR.ofB o ≠ some (.enter f args) := by
    intro o
    cases o with
    | none => simp [AR.ofB]
    | some p => obtain ⟨x, y⟩ := p; simp [AR.ofB]
  obtain ⟨dst, op, oty, pos, after, guard⟩ := o
  cases op
  case call c =>
    simp only [aOp] at h
    simp only [Op.operands] at E
    have hargs : LR ρ (c.args.toList.map (ev fr)) (c.args.toList.map a.eval) := map_LR _ fun x hx => E x (by
      unfold Call.operands
      exact Array.mem_append.2 (.inr (Array.mem_toList_iff.1 hx)))
    have e1 : c.args.map a.eval = (c.args.toList.map a.eval).toArray := by apply Array.ext'; rw [Array.toList_map]
    split at h
    · rename_i x hx
      have hv := E x (by unfold Call.operands; rw [hx]; simp)
      split at h
      · rename_i k first captured hk
        cases h
        rw [hk] at hv
        obtain ⟨ys, vs, hq, h1, h2⟩ := hv.func_inv
        refine ⟨ys.toList ++ (c.args.toList.map a.eval ++ vs.toList), ?_, h1.append (hargs.append h2)⟩
        simp only [execOp]
        unfold resolve
        rw [hx]
        simp only [hq, Deferred.ofValue, Sem.run_bind, Sem.run_pure, Result.andThen_ok, invoke]
        congr 2
        apply Array.ext'
        simp
      · cases h
    · rename_i x nm hx
      have hv := E x (by unfold Call.operands; rw [hx]; simp)
      split at h
      · rename_i t v hk
        rw [hk] at hv
        generalize hq : a.eval x = y at hv
        cases hv with
        | @iface _ _ v' hv =>
          split at h
          · rename_i k recv hm
            cases h
            obtain ⟨r', h1, h2⟩ := method_ok (w := w) hm hv (P.types.size + Made.depth - 1)
            have hdep : P.types.size + Made.depth - 1 + 1 = P.types.size + Made.depth := by
              have : 0 < Made.depth := by decide
              omega
            rw [hdep] at h1
            refine ⟨r' :: c.args.toList.map a.eval, ?_, .cons h2 hargs⟩
            simp only [execOp]
            unfold resolve
            rw [hx]
            simp only [hq, Sem.run_bind, Sem.run_pure, Result.andThen_ok, invoke]
            have ha0 : (#[Value.iface t v'] ++ c.args.map a.eval)[0]? = some (.iface t v') := by rw [Array.getElem?_append_left (show 0 < 1 from Nat.zero_lt_one)]; rfl
            simp only [ha0]
            have hex : (#[Value.iface t v'] ++ c.args.map a.eval).extract 1 (#[Value.iface t v'] ++ c.args.map a.eval).size = c.args.map a.eval := by
              apply Array.ext'
              rw [Array.toList_extract, Array.toList_append, List.extract_eq_take_drop]
              simp only [Array.toList_map, Array.size_append, Array.size_map, List.size_toArray, List.length_cons, List.length_nil, List.cons_append, List.nil_append, List.drop_succ_cons, List.drop_zero]
              rw [List.take_of_length_le (by simp)]
            unfold callMethod
            simp only [Sem.run_bind, run_program, Result.andThen_ok, h1, hex]
            congr 2
            apply Array.ext'
            simp
          · cases h
      · cases h
    · unfold aBuiltin at h
      split at h
      · split at h
        · exact absurd h (o1 _ _)
        · cases h
      · exact absurd h (o3 _)
      · exact absurd h (o3 _)
      · exact absurd h (o1 _ _)
      · exact absurd h (o1 _ _)
      · cases h
  all_goals revert h
  all_goals simp only [aOp]
  case pick => split <;> (intro h; cases h)
  case alloc => split <;> (intro h; cases h)
  case nilCheck => split <;> (intro h; cases h)
  case makeInterface => split <;> (intro h; cases h)
  case makeMap t r => cases r <;> (intro h; cases h)
  case extract =>
    split
    · exact fun h => absurd h (o1 _ _)
    · intro h; cases h
  all_goals first
    | exact fun h => absurd h (o1 _ _)
    | exact fun h => absurd h (o2 _)
    | exact fun h => absurd h (o3 _)
    | (intro h; cases h)

end Go.Am

/-! A region's operations: in the text's order, and in any order that its edges allow. -/
namespace Go.Am
open Go
variable {P : Program}

/-- What a call answers. -/
def CallPost (P : Program) (H : AH) (ρ : Rho) (w : World) (v : Value) (H' : AH) : Ending → World → Prop := fun e w' =>
  ∃ v' ρ', e = .returned v' ∧ VR ρ' v v' ∧ WR P H' ρ' w'.heap ∧ Grw H ρ w H' ρ' w'

/-- A call of a function with a body, or of one that the model answers by itself. -/
def CallsN (P : Program) (f : FuncId) (args : Array Value) (H : AH) (ρ : Rho) (w : World) (v : Value) (H' : AH) : Prop :=
  (FnOk P f ∧ Calls P f args w (CallPost P H ρ w v H')) ∨
    ∃ v' w' ρ', (callFunc f args).run P w = .ok (.value v') w' ∧ VR ρ' v v' ∧ WR P H' ρ' w'.heap ∧ Grw H ρ w H' ρ' w'

def CallOk (P : Program) (call : Callf) : Prop := ∀ f args H v H', call f args H = some (v, H') →
  ∀ ρ w args', WR P H ρ w.heap → LR ρ args args' → CallsN P f args'.toArray H ρ w v H'

def AH.wb (H : AH) (β : Nat) : AH := { H with base := β }

/-- One operation's value: with its guard. -/
def aVal (P : Program) (call : Callf) (fence : Bool) (ops : Array Oper) (fr : Fr) (H : AH) (o : Oper) : Option (Value × AH) :=
  match aWanted ops fr o with
  | true => match aOp P fr H o with
    | some (.val v H') => some (v, H')
    | some (.enter f args) => match fence with
      | true => match call f args (H.wb H.next) with
        | some (v, H') => some (v, H'.wb H.base)
        | none => none
      | false => call f args H
    | none => none
  | false => some (undef, H)

theorem aOps_cons {call : Callf} {fence : Bool} {ops : Array Oper} {o : Oper} {rest : List Oper} {fr : Fr} {H : AH} :
    aOps P call fence ops (o :: rest) fr H = match aVal P call fence ops fr H o with
      | some (v, H') => aOps P call fence ops rest (fr.put o.dst v) H'
      | none => match aWanted ops fr o && (aOp P fr H o).isNone && !fence with
        | true => match aDefer fr o with
          | some fr' => aOps P call fence ops rest fr' H
          | none => none
        | false => none := by
  unfold aVal
  simp only [aOps]
  cases aWanted ops fr o with
  | false => rfl
  | true =>
    simp only [aStep]
    cases aOp P fr H o with
    | none =>
      cases fence with
      | true => rfl
      | false => simp only [Option.isNone_none, Bool.and_self, Bool.not_false]; cases aDefer fr o <;> rfl
    | some r =>
      cases r with
      | val v H' => rfl
      | enter f args =>
        cases fence with
        | true =>
          simp only [AH.wb]
          cases call f args { blk := H.blk, fam := H.fam, next := H.next, base := H.next } with
          | none => rfl
          | some p => rfl
        | false =>
          simp only
          cases call f args H with
          | none => rfl
          | some p => rfl

/-- no call is put off -/
def opNoD (o : Oper) : Bool := match o.op with
  | .defer _ => false
  | _ => true

theorem aDefer_none {fr : Fr} {o : Oper} (h : opNoD o = true) : aDefer fr o = none := by
  unfold aDefer
  unfold opNoD at h
  split at h
  · cases h
  · rename_i hne
    split
    · rename_i c hc; exact absurd hc (hne c)
    · rfl

theorem aOps_late {call : Callf} {draw : Bool} {ops : Array Oper} : ∀ (l : List Oper) (fr : Fr) (H : AH) (fr' : Fr) (H' : AH), (draw = true ∨ l.all opNoD = true) → aOps P call draw ops l fr H = some (fr', H') → fr'.late = fr.late := by
  intro l
  induction l with
  | nil =>
    intro fr H fr' H' _ h
    simp only [aOps, Option.some.injEq, Prod.mk.injEq] at h
    rw [h.1]
  | cons o l ih =>
    intro fr H fr' H' hd h
    have hd' : draw = true ∨ l.all opNoD = true := by
      rcases hd with h1 | h1
      · exact .inl h1
      · simp only [List.all_cons, Bool.and_eq_true] at h1; exact .inr h1.2
    rw [aOps_cons] at h
    split at h
    · rw [ih _ _ _ _ hd' h, Fr.late_put]
    · split at h
      · rename_i hc
        simp only [Bool.and_eq_true] at hc
        rcases hd with h1 | h1
        · subst h1; simp at hc
        · simp only [List.all_cons, Bool.and_eq_true] at h1
          rw [aDefer_none h1.1] at h
          cases h
      · cases h

/-- The temporaries that an operation looks at. -/
def LooksR (ρ : Rho) (ops : Array Oper) (fr : Fr) (a : Act) (o : Oper) : Prop := ∀ t ∈ o.looksAt ops, VR ρ (Fr.at fr t) (a.tmps.getD t Am.undef)

theorem yield_ok {ρ : Rho} {ops : Array Oper} {fr : Fr} {a : Act} {o : Oper} {j : Nat} {want : Bool} (hg : o.guard = some (j, want)) (hE : LooksR ρ ops fr a o)
    (hN : ∀ (i : Nat) (o : Oper) (d : Tmp), ops[i]? = some o → o.dst = some d → d < a.tmps.size) : yielded ops a.tmps j = aYield ops fr j := by
  unfold yielded aYield
  cases ho : ops[j]? with
  | none => rfl
  | some oj =>
    simp only [Option.bind_some]
    cases hd : oj.dst with
    | none => rfl
    | some d =>
      simp only [Option.bind_some]
      have hlt := hN j oj d ho hd
      have := hE d (by unfold Oper.looksAt; rw [hg]; simp [ho, hd])
      have hget : a.tmps[d]? = some (a.tmps.getD d Am.undef) := by simp [Array.getD_eq_getD_getElem?, hlt]
      rw [hget]
      revert this
      generalize a.tmps.getD d Am.undef = y
      generalize Fr.at fr d = x
      intro this
      cases this <;> rfl

theorem wanted_ok {ρ : Rho} {ops : Array Oper} {fr : Fr} {a : Act} {o : Oper} (hE : LooksR ρ ops fr a o) (hN : ∀ (i : Nat) (o : Oper) (d : Tmp), ops[i]? = some o → o.dst = some d → d < a.tmps.size) :
    Region.wanted o (yielded ops a.tmps) = aWanted ops fr o := by
  unfold Region.wanted aWanted
  cases hg : o.guard with
  | none => rfl
  | some p =>
    obtain ⟨j, want⟩ := p
    simp only [yield_ok hg hE hN]
    cases aYield ops fr j with
    | none => cases want <;> rfl
    | some b => simp

theorem operands_ok {H : AH} {ρ : Rho} {h : Array Obj} (hW : WR P H ρ h) {ops : Array Oper} {fr : Fr} {a : Act} {o : Oper} (hE : LooksR ρ ops fr a o) (ho : ∀ x ∈ o.op.operands, opOk P x = true) :
    ∀ x ∈ o.op.operands, VR ρ (ev fr x) (a.eval x) := by
  intro x hx
  cases x with
  | tmp t => exact hE t (by unfold Oper.looksAt; simp only [List.mem_append, List.mem_filterMap]; exact .inl ⟨.tmp t, by simpa using hx, rfl⟩)
  | const v => exact VR.plain ρ 20 v (ho _ hx)
  | global g =>
    have hlt : g < P.globals.size := Nat.le_of_ble_eq_true (ho _ hx)
    obtain ⟨m, hm, h1, h2⟩ := hW.glob g hlt
    have := VR.ptr (ρ := ρ) 0 hm
    rw [h1, h2] at this
    exact this
  | func f => exact VR.func_of (.func f) .nil .nil

/-- One operation, unfenced. -/
theorem step_ok (hz : ZOk P) {call : Callf} (hcall : CallOk P call) {H H' : AH} {ρ : Rho} {w : World} (hW : WR P H ρ w.heap) {ops : Array Oper} {fr : Fr} {a : Act} {i : Nat} {o : Oper} (hi : ops[i]? = some o)
    (hE : LooksR ρ ops fr a o) (hN : ∀ (i : Nat) (o : Oper) (d : Tmp), ops[i]? = some o → o.dst = some d → d < a.tmps.size) (ho : ∀ x ∈ o.op.operands, opOk P x = true) {v : Value}
    (h : aVal P call false ops fr H o = some (v, H')) {Q : Exit → Act → World → Prop} {K : Act → World → Prop}
    (hK : ∀ v' w' ρ', VR ρ' v v' → WR P H' ρ' w'.heap → Grw H ρ w H' ρ' w' → K (a.put o.dst v') w') : wpOp P ops Q i K a w := by
  have hO := operands_ok hW hE ho
  unfold wpOp
  rw [hi]
  simp only
  rw [wanted_ok hE hN]
  unfold aVal at h
  split at h
  · rename_i hwant
    rw [hwant]
    simp only [if_true]
    left
    unfold Oper.wp
    split at h
    · rename_i v0 H0 hop
      cases h
      obtain ⟨v', w', ρ', h1, h2, h3, h4⟩ := op_val hz hW hO hop
      rcases h1 with h1 | ⟨h1, rfl⟩
      · rw [h1]; exact hK v' w' ρ' h2 h3 h4
      · rw [h1]; exact hK _ w' ρ' h2 h3 h4
    · rename_i f args hop
      simp only at h
      obtain ⟨args', h1, h2⟩ := op_enter (w := w) hO hop
      rw [h1]
      rcases hcall f args H v H' h ρ w args' hW h2 with ⟨hf, hc⟩ | ⟨v', w', ρ', k1, k2, k3, k4⟩
      · rw [run_callFunc hf]
        simp only [Oper.upon]
        refine hc.mono ?_
        rintro e w' ⟨v', ρ', rfl, h3, h4, h5⟩
        exact hK v' w' ρ' h3 h4 h5
      · rw [k1]
        exact hK v' w' ρ' k2 k3 k4
    · cases h
  · rename_i hwant
    rw [hwant]
    simp only [Bool.false_eq_true, if_false]
    cases h
    exact hK _ w ρ (VR.undef ρ) hW (hW.refl)

/-! ### In the text's order -/

/-- What a text's region must be: constants plain, targets among the frame's slots. -/
def opsOk (P : Program) (N : Nat) (ops : Array Oper) : Bool :=
  ops.toList.all fun o => o.op.operands.toList.all (opOk P) && (match o.dst with | some d => d.blt N | none => true)

theorem opsOk_spec {N : Nat} {ops : Array Oper} (h : opsOk P N ops = true) {i : Nat} {o : Oper} (hi : ops[i]? = some o) : (∀ x ∈ o.op.operands, opOk P x = true) ∧ (∀ d, o.dst = some d → d < N) := by
  have hm : o ∈ ops.toList := List.mem_of_getElem? (by simpa using hi)
  have := List.all_eq_true.1 h o hm
  simp only [Bool.and_eq_true] at this
  refine ⟨fun x hx => List.all_eq_true.1 this.1 x (by simpa using hx), fun d hd => ?_⟩
  have h2 := this.2
  rw [hd] at h2
  exact Nat.le_of_ble_eq_true h2

theorem put_size (a : Act) (d : Option Tmp) (v : Value) : (a.put d v).tmps.size = a.tmps.size := by cases d <;> simp [Act.put]
theorem put_defers (a : Act) (d : Option Tmp) (v : Value) : (a.put d v).defers = a.defers := by cases d <;> rfl

/-- A call put off. -/
theorem defer_ok {H : AH} {ρ : Rho} {w : World} (hW : WR P H ρ w.heap) {N : Nat} {ops : Array Oper} {fr fr' : Fr} {a : Act} {i : Nat} {o : Oper} (hi : ops[i]? = some o)
    (hF : FrR ρ N fr a) (hD : DfR ρ fr a) (hN : ∀ (i : Nat) (o : Oper) (d : Tmp), ops[i]? = some o → o.dst = some d → d < N) (ho : ∀ x ∈ o.op.operands, opOk P x = true)
    (hw : aWanted ops fr o = true) (h : aDefer fr o = some fr') {Q : Exit → Act → World → Prop} {K : Act → World → Prop}
    (hK : ∀ a', FrR ρ N fr' a' → DfR ρ fr' a' → K a' w) : wpOp P ops Q i K a w := by
  have hE : LooksR ρ ops fr a o := fun t _ => hF.tmp t
  have hO := operands_ok hW hE ho
  have hN' : ∀ (i : Nat) (o : Oper) (d : Tmp), ops[i]? = some o → o.dst = some d → d < a.tmps.size := fun i o d h1 h2 => Nat.lt_of_lt_of_le (hN i o d h1 h2) hF.size
  unfold wpOp
  rw [hi]
  simp only
  rw [wanted_ok hE hN', hw]
  simp only [if_true]
  left
  unfold aDefer at h
  split at h
  · rename_i c hop
    split at h
    · rename_i f hc
      split at h
      · rename_i k first captured vs hv hl
        simp only [Option.some.injEq] at h
        subst h
        have hf := hO f (by rw [hop]; simp only [Op.operands, Call.operands, hc]; simp)
        have hargs : LR ρ (c.args.toList.map (ev fr)) (c.args.toList.map a.eval) := map_LR _ fun x hx => hO x (by
          rw [hop]; simp only [Op.operands, Call.operands]
          exact Array.mem_append.2 (.inr (Array.mem_toList_iff.1 hx)))
        rw [hv] at hf
        obtain ⟨ys, us, hq, h1, h2⟩ := hf.func_inv
        obtain ⟨ws, h3, h4⟩ := hD
        rw [hl] at h3
        have hrun : (execOp a.eval o).run P w = .ok (.defer { target := .fn (.func k) us, args := ys ++ c.args.map a.eval }) w := by
          simp only [execOp, hop]
          unfold resolve
          rw [hc]
          simp only [hq, Deferred.ofValue, Sem.run_bind, Sem.run_pure, Result.andThen_ok]
        unfold Oper.wp
        rw [hrun]
        rw [Oper.upon_defer]
        have hF2 : FrR ρ N (fr.set 0 (.tuple (.func (.func k) (first.toList ++ c.args.toList.map (ev fr)).toArray captured :: vs.toList).toArray)) { a with defers := { target := .fn (.func k) us, args := ys ++ c.args.map a.eval } :: a.defers } :=
          ⟨hF.size, fun t => by rw [Fr.at_late]; exact hF.tmp t⟩
        refine hK _ (hF2.put (fun t ht => hN i o t hi ht) (VR.undef ρ)) ?_
        obtain ⟨zs, hz1, hz2⟩ := h3.tuple_inv
        cases hz1
        refine ⟨(.func (.func k) (ys ++ c.args.map a.eval) us :: ws.toList).toArray, ?_, ?_⟩
        · rw [Fr.late_put]
          have : Fr.late (fr.set 0 (.tuple (.func (.func k) (first.toList ++ c.args.toList.map (ev fr)).toArray captured :: vs.toList).toArray)) = .tuple (.func (.func k) (first.toList ++ c.args.toList.map (ev fr)).toArray captured :: vs.toList).toArray := by
            simp only [Fr.late, T.get_set_same]
          rw [this]
          refine VR.tuple_of ?_
          simp only
          refine .cons (VR.func_of _ ?_ h2) hz2
          have e1 : (ys ++ c.args.map a.eval).toList = ys.toList ++ c.args.toList.map a.eval := by simp
          rw [e1]
          exact h1.append hargs
        · rw [put_defers]
          simp [lateOf, h4]
      · cases h
    · cases h
  · cases h

theorem ops_text (hz : ZOk P) {call : Callf} (hcall : CallOk P call) {N : Nat} {ops : Array Oper} (hok : opsOk P N ops = true) {Q : Exit → Act → World → Prop} :
    ∀ (k : Nat) (fr fr' : Fr) (H H' : AH) (ρ : Rho) (a : Act) (w : World), k ≤ ops.size → aOps P call false ops (ops.toList.drop (ops.size - k)) fr H = some (fr', H') → FrR ρ N fr a → DfR ρ fr a → WR P H ρ w.heap →
      (∀ a' w' ρ', FrR ρ' N fr' a' → WR P H' ρ' w'.heap → Grw H ρ w H' ρ' w' → DfR ρ' fr' a' → Q .normal a' w') →
      wpOps P ops Q ((List.range ops.size).drop (ops.size - k)) a w := by
  intro k
  induction k with
  | zero =>
    intro fr fr' H H' ρ a w _ h hF hD hW hQ
    rw [List.drop_of_length_le (by simp)] at h
    rw [List.drop_of_length_le (by simp)]
    simp only [aOps, Option.some.injEq, Prod.mk.injEq] at h
    obtain ⟨rfl, rfl⟩ := h
    exact hQ a w ρ hF hW (hW.refl) hD
  | succ k ih =>
    intro fr fr' H H' ρ a w hk h hF hD hW hQ
    have hlt : ops.size - (k + 1) < ops.size := by omega
    have hnext : ops.size - (k + 1) + 1 = ops.size - k := by omega
    rw [List.drop_eq_getElem_cons (by simpa using hlt), hnext] at h
    rw [List.drop_eq_getElem_cons (by simpa using hlt), hnext, List.getElem_range, wpOps_cons]
    rw [aOps_cons] at h
    have hi : ops[ops.size - (k + 1)]? = some (ops.toList[ops.size - (k + 1)]'(by simpa using hlt)) := by simp [hlt]
    generalize ops.toList[ops.size - (k + 1)]'(by simpa using hlt) = o at h hi
    obtain ⟨h1, h2⟩ := opsOk_spec hok hi
    split at h
    · rename_i v H1 hv
      refine step_ok hz hcall hW hi (fun t _ => hF.tmp t) (fun i o d ho hd => Nat.lt_of_lt_of_le ((opsOk_spec hok ho).2 d hd) hF.size) h1 hv ?_
      intro v' w' ρ' g1 g2 g3
      refine ih _ _ _ _ ρ' _ w' (by omega) h ((hF.mono g3.rho).put h2 g1) ((hD.mono g3.rho).same (Fr.late_put ..) (put_defers ..)) g2 ?_
      intro a' w'' ρ'' k1 k2 k3 k4
      exact hQ a' w'' ρ'' k1 k2 (g3.trans hW.dom hW.wf.base k3) k4
    · split at h
      · rename_i hc
        simp only [Bool.and_eq_true] at hc
        split at h
        · rename_i fr1 hd
          refine defer_ok hW hi hF hD (fun i o d ho hd => (opsOk_spec hok ho).2 d hd) h1 hc.1.1 hd ?_
          intro a1 hF1 hD1
          exact ih _ _ _ _ ρ a1 w (by omega) h hF1 hD1 hW hQ
        · cases h
      · cases h

theorem region_text (hz : ZOk P) {call : Callf} (hcall : CallOk P call) {N : Nat} {ops : Array Oper} (hok : opsOk P N ops = true) {Q : Exit → Act → World → Prop} {id : Nat} {fr fr' : Fr} {H H' : AH} {ρ : Rho} {a : Act} {w : World}
    (h : aOps P call false ops ops.toList fr H = some (fr', H')) (hF : FrR ρ N fr a) (hD : DfR ρ fr a) (hW : WR P H ρ w.heap)
    (hQ : ∀ a' w' ρ', FrR ρ' N fr' a' → WR P H' ρ' w'.heap → Grw H ρ w H' ρ' w' → DfR ρ' fr' a' → Q .normal a' w') : (Code.region id ops false).wp P Q a w := by
  apply wp_region
  have := ops_text hz hcall hok (Q := Q) ops.size fr fr' H H' ρ a w (Nat.le_refl _) (by simpa using h) hF hD hW hQ
  simpa using this

end Go.Am

/-! A region whose order is open: whatever order its edges allow, it comes to what the text's order comes to. -/
namespace Go.Am
open Go
variable {P : Program}

/-- Operations that write what was there. -/
def isEff : Op → Bool
  | .store .. | .insert .. | .mapUpdate .. | .next .. => true
  | .call c => match c.callee with
    | .builtin .append | .builtin .copy => true
    | _ => false
  | _ => false

/-- Operations that come to the heap. -/
def isHT : Op → Bool
  | .move _ | .assign _ | .pick .. | .binOp .. | .unOp .. | .field .. | .index .. | .extract .. | .makeInterface .. | .makeFunc .. | .build .. | .fieldAddr .. | .indexAddr .. | .nilCheck _ | .typeAssert .. => false
  | _ => true

theorem HT_of_eff {op : Op} (h : isEff op = true) : isHT op = true := by cases op <;> simp_all [isEff, isHT]

theorem of_inv {H : AH} {x : Option Value} {r : AR} (h : AR.of H x = some r) : ∃ v, x = some v ∧ r = .val v H := by
  cases x with
  | none => cases h
  | some v => cases h; exact ⟨v, rfl, rfl⟩

/-- An operation that does not come to the heap. -/
theorem pure_op {fr : Fr} {H : AH} {o : Oper} {r : AR} (hp : isHT o.op = false) (h : aOp P fr H o = some r) : ∃ v, r = .val v H ∧ ∀ H2, aOp P fr H2 o = some (.val v H2) := by
  have O : ∀ x : Option Value, AR.of H x = some r → ∃ v, r = .val v H ∧ ∀ H2 : AH, AR.of H2 x = some (.val v H2) := fun x h => by
    obtain ⟨v, rfl, rfl⟩ := of_inv h; exact ⟨v, rfl, fun _ => rfl⟩
  obtain ⟨dst, op, oty, pos, after, guard⟩ := o
  cases op
  all_goals simp only [isHT, Bool.true_eq_false] at hp
  all_goals revert h
  all_goals simp only [aOp]
  case pick =>
    split
    · intro h; cases h; exact ⟨_, rfl, fun _ => rfl⟩
    · intro h; cases h; exact ⟨_, rfl, fun _ => rfl⟩
    · intro h; cases h
  case nilCheck =>
    split
    · intro h; cases h
    · intro h; cases h
    · intro h; cases h
    · intro h; cases h
    · intro h; cases h; exact ⟨_, rfl, fun _ => rfl⟩
  case makeInterface =>
    split
    · intro h; cases h
    · intro h; cases h; exact ⟨_, rfl, fun _ => rfl⟩
    · intro h; cases h
  case extract =>
    split
    · exact O _
    · intro h; cases h
  all_goals first
    | exact O _
    | (intro h; cases h; exact ⟨_, rfl, fun _ => rfl⟩)

theorem pure_val {call : Callf} {ops : Array Oper} {fr : Fr} {H H' : AH} {o : Oper} {v : Value} (hp : isHT o.op = false) (h : aVal P call true ops fr H o = some (v, H')) :
    H' = H ∧ ∀ H2, aVal P call false ops fr H2 o = some (v, H2) := by
  unfold aVal at h ⊢
  split at h
  · rename_i hw
    split at h
    · rename_i v0 H0 ho
      obtain ⟨v1, h1, h2⟩ := pure_op hp ho
      cases h; cases h1
      exact ⟨rfl, fun H2 => by simp only [h2 H2]⟩
    · rename_i f args ho
      obtain ⟨v1, h1, h2⟩ := pure_op hp ho
      cases h1
    · cases h
  · rename_i hw
    cases h
    exact ⟨rfl, fun _ => rfl⟩

/-! ### Behind a fence -/

def AR.wb (β : Nat) : AR → AR
  | .val v H => .val v (H.wb β)
  | .enter f args => .enter f args

theorem loads_wb (H : AH) (β b : Nat) : ∀ (n o : Nat), (H.wb β).loads b o n = H.loads b o n := by
  intro n
  induction n with
  | zero => intro o; rfl
  | succ n ih =>
    intro o
    unfold AH.loads
    rw [ih]
    rfl

theorem of_wb (H : AH) (β : Nat) (x : Option Value) : AR.of (H.wb β) x = (AR.of H x).map (AR.wb β) := by cases x <;> rfl

theorem aOp_wb {fr : Fr} {H : AH} {o : Oper} (β : Nat) (hn : isEff o.op = false) : aOp P fr (H.wb β) o = (aOp P fr H o).map (AR.wb β) := by
  obtain ⟨dst, op, oty, pos, after, guard⟩ := o
  cases op
  all_goals simp only [isEff, Bool.true_eq_false] at hn
  all_goals simp only [aOp]
  case load t a =>
    have : aLoad P (H.wb β) t (ev fr a) = aLoad P H t (ev fr a) := by unfold aLoad; simp only [loads_wb]; rfl
    rw [this]; exact of_wb H β _
  case slice t x lo hi mx =>
    have : ∀ x lo hi mx, aSlice P (H.wb β) t x lo hi mx = aSlice P H t x lo hi mx := fun _ _ _ _ => rfl
    rw [this]; exact of_wb H β _
  case lookup t x i ok =>
    have : ∀ x i, aLookup P (H.wb β) t x i ok = aLookup P H t x i ok := fun _ _ => rfl
    rw [this]; exact of_wb H β _
  case pick => split <;> rfl
  case alloc => split <;> rfl
  case nilCheck => split <;> rfl
  case makeInterface => split <;> rfl
  case makeMap t r => cases r <;> rfl
  case extract =>
    split
    · exact of_wb H β _
    · rfl
  case buildSlice t len ps =>
    generalize (ps.toList.map fun p => (p.1, ev fr p.2)) = l
    unfold aBuildSlice
    split
    · split
      · split
        · rfl
        · split <;> rfl
      · rfl
    · rfl
  case makeSlice t l c =>
    unfold aMakeSlice
    split
    · split
      · split <;> rfl
      · rfl
    · rfl
  case range t x =>
    unfold aRange
    split
    · rfl
    · rfl
    · have hb : (H.wb β).blk = H.blk := rfl
      simp only [hb]
      split <;> rfl
    · rfl
  case convert s d x =>
    unfold aConvert
    simp only [loads_wb]
    split
    · rfl
    · rfl
    · split <;> rfl
    · split
      · split
        · rfl
        · split
          · split <;> rfl
          · rfl
        · split <;> rfl
      · rfl
    · rfl
  case call c =>
    split
    · split <;> rfl
    · split
      · split <;> rfl
      · rfl
    · rename_i b hb
      rw [hb] at hn
      generalize c.argTypes.toList = ts
      generalize c.args.toList.map (ev fr) = args
      cases b <;> simp only [Bool.true_eq_false] at hn <;> simp only [aBuiltin]
      case len =>
        have : ∀ t x, aLen P (H.wb β) t x = aLen P H t x := fun _ _ => rfl
        simp only [this]
        split
        · exact of_wb H β _
        · rfl
      all_goals first | rfl | exact of_wb H β _
  all_goals first | rfl | exact of_wb H β _

theorem wb_self (H : AH) : H.wb H.base = H := rfl

theorem noneff_val {call : Callf} {ops : Array Oper} {fr : Fr} {H H' : AH} {o : Oper} {v : Value} (hn : isEff o.op = false) (h : aVal P call true ops fr H o = some (v, H')) :
    ∃ H1, aVal P call false ops fr (H.wb H.next) o = some (v, H1) ∧ H' = H1.wb H.base := by
  unfold aVal at h ⊢
  split at h
  · rename_i hw
    have h1 := aOp_wb (P := P) (fr := fr) (H := H) H.next hn
    have h2 := aOp_wb (P := P) (fr := fr) (H := H) H.base hn
    rw [wb_self] at h2
    split at h
    · rename_i v0 H0 ho
      cases h
      rw [ho] at h1 h2
      simp only [Option.map_some, AR.wb, Option.some.injEq, AR.val.injEq, true_and] at h1 h2
      exact ⟨H'.wb H.next, by simp only [h1], h2⟩
    · rename_i f args ho
      rw [ho] at h1
      simp only [Option.map_some, AR.wb] at h1
      simp only at h
      split at h
      · rename_i v1 H1 hc
        cases h
        exact ⟨H1, by simp only [h1]; exact hc, rfl⟩
      · cases h
    · cases h
  · rename_i hw
    cases h
    exact ⟨H.wb H.next, rfl, rfl⟩

theorem eff_val {call : Callf} {ops : Array Oper} {fr : Fr} {H H' : AH} {o : Oper} {v : Value} (hn : isEff o.op = true) (h : aVal P call true ops fr H o = some (v, H')) :
    aVal P call false ops fr H o = some (v, H') := by
  unfold aVal at h ⊢
  split at h
  · rename_i hw
    split at h
    · rename_i v0 H0 ho; exact h
    · rename_i f args ho
      exfalso
      obtain ⟨dst, op, oty, pos, after, guard⟩ := o
      cases op <;> simp only [isEff, Bool.false_eq_true] at hn
      case store => simp only [aOp] at ho; cases hx : aStore P H _ _ _ <;> rw [hx] at ho <;> simp [AR.ofH] at ho
      case insert => simp only [aOp] at ho; cases hx : aMapUpdate P H _ _ _ _ <;> rw [hx] at ho <;> simp [AR.ofH] at ho
      case mapUpdate => simp only [aOp] at ho; cases hx : aMapUpdate P H _ _ _ _ <;> rw [hx] at ho <;> simp [AR.ofH] at ho
      case next =>
        simp only [aOp] at ho
        cases hx : aNext H _ _ with
        | none => rw [hx] at ho; simp [AR.ofB] at ho
        | some p => rw [hx] at ho; obtain ⟨p1, p2⟩ := p; simp [AR.ofB] at ho
      case call c =>
        simp only [aOp] at ho
        split at hn
        · rename_i hb
          rw [hb] at ho
          simp only [aBuiltin] at ho
          cases hx : aAppend P H _ _ with
          | none => rw [hx] at ho; simp [AR.ofB] at ho
          | some p => rw [hx] at ho; obtain ⟨p1, p2⟩ := p; simp [AR.ofB] at ho
        · rename_i hb
          rw [hb] at ho
          simp only [aBuiltin] at ho
          cases hx : aCopy P H _ _ with
          | none => rw [hx] at ho; simp [AR.ofB] at ho
          | some p => rw [hx] at ho; obtain ⟨p1, p2⟩ := p; simp [AR.ofB] at ho
        · cases hn
    · cases h
  · exact h

end Go.Am

/-! A region whose order is open (2): what is asked of its text, and that every order comes to the same. -/
namespace Go.Am
open Go
variable {P : Program}

/-! ### What is asked of the text -/

/-- which operations stand ahead of one, as bits, by its edges -/
def bm (acc : List Nat) : List Edge → Nat
  | [] => 0
  | e :: es => match Region.binds .any e with
    | true => (2 ^ e.on ||| acc.getD e.on 0) ||| bm acc es
    | false => bm acc es

def bms : List Oper → List Nat → List Nat
  | [], acc => acc
  | o :: os, acc => bms os (acc ++ [bm acc o.after.toList])

def edgesOk : List Oper → Nat → Bool
  | [], _ => true
  | o :: os, i => (o.after.toList.all fun e => !(Region.binds .any e) || e.on.blt i) && edgesOk os (i + 1)

def comp (b : List Nat) (i j : Nat) : Bool := match i.blt j with
  | true => (b.getD j 0).testBit i
  | false => (b.getD i 0).testBit j

def writersOk (b : List Nat) (j : Nat) (t : Tmp) : List Oper → Nat → Bool
  | [], _ => true
  | o :: os, i => (match o.dst with
    | some d => !(d.beq t) || i.beq j || comp b i j
    | none => true) && writersOk b j t os (i + 1)

def namesOf (ops : Array Oper) (o : Oper) : List Tmp := o.dst.toList ++ o.looksAt ops

/-- the one operation that gives slot t its value, if it is a new variable -/
def bornAt (t : Tmp) : List Oper → Nat → Option Nat
  | [], _ => none
  | o :: os, i => match o.dst with
    | some d => match d.beq t with
      | true => match o.op, os.all fun o => match o.dst with
          | some d => !(d.beq t)
          | none => true with
        | .alloc _, true => some i
        | _, _ => none
      | false => bornAt t os (i + 1)
    | none => bornAt t os (i + 1)

/-- a store into a variable that is born behind operation i -/
def late (ops : List Oper) (i j : Nat) (oj : Oper) : Bool := match oj.op with
  | .store _ (.tmp t) _ => match bornAt t ops 0 with
    | some k => i.blt k && k.blt j
    | none => false
  | _ => false

def effsOk (b : List Nat) (ops : List Oper) (j : Nat) (oj : Oper) : List Oper → Nat → Bool
  | [], _ => true
  | o :: os, i => (!(isHT o.op) || i.beq j || comp b i j || (!(isEff o.op) && late ops i j oj)) && effsOk b ops j oj os (i + 1)

def opersOk (b : List Nat) (ops : Array Oper) : List Oper → Nat → Bool
  | [], _ => true
  | o :: os, j => ((namesOf ops o).all fun t => writersOk b j t ops.toList 0) && (!(isEff o.op) || effsOk b ops.toList j o ops.toList 0) && opersOk b ops os (j + 1)

def regOk (ops : Array Oper) : Bool :=
  let b := bms ops.toList []
  edgesOk ops.toList 0 && opersOk b ops ops.toList 0

/-! what the checks say -/

theorem edgesOk_spec : ∀ (os : List Oper) (k i : Nat) (o : Oper), edgesOk os k = true → os[i]? = some o → ∀ e ∈ o.after, Region.binds .any e = true → e.on < k + i := by
  intro os
  induction os with
  | nil => intro k i o _ h; simp at h
  | cons x os ih =>
    intro k i o h hi e he hb
    simp only [edgesOk, Bool.and_eq_true] at h
    cases i with
    | zero =>
      simp at hi; subst hi
      have := List.all_eq_true.1 h.1 e (by simpa using he)
      rw [hb] at this
      have h5 : e.on < k := by simpa using this
      omega
    | succ i =>
      have := ih (k + 1) i o h.2 (by simpa using hi) e he hb
      omega

theorem bm_spec (acc : List Nat) : ∀ (es : List Edge) (j : Nat), (bm acc es).testBit j = true ↔ ∃ e ∈ es, Region.binds .any e = true ∧ (j = e.on ∨ (acc.getD e.on 0).testBit j = true) := by
  intro es
  induction es with
  | nil => intro j; simp [bm]
  | cons x es ih =>
    intro j
    unfold bm
    cases hx : Region.binds .any x with
    | true =>
      simp only [Nat.testBit_or, Bool.or_eq_true, ih, Nat.testBit_two_pow, decide_eq_true_eq]
      constructor
      · rintro ((h | h) | ⟨e, h1, h2, h3⟩)
        · exact ⟨x, by simp, hx, .inl h.symm⟩
        · exact ⟨x, by simp, hx, .inr h⟩
        · exact ⟨e, by simp [h1], h2, h3⟩
      · rintro ⟨e, h1, h2, h3⟩
        rcases List.mem_cons.1 h1 with rfl | h1
        · rcases h3 with h3 | h3
          · exact .inl (.inl h3.symm)
          · exact .inl (.inr h3)
        · exact .inr ⟨e, h1, h2, h3⟩
    | false =>
      simp only [ih]
      constructor
      · rintro ⟨e, h1, h2, h3⟩; exact ⟨e, by simp [h1], h2, h3⟩
      · rintro ⟨e, h1, h2, h3⟩
        rcases List.mem_cons.1 h1 with rfl | h1
        · rw [hx] at h2; cases h2
        · exact ⟨e, h1, h2, h3⟩

theorem bms_prefix : ∀ (os : List Oper) (acc : List Nat), ∃ l, bms os acc = acc ++ l := by
  intro os
  induction os with
  | nil => intro acc; exact ⟨[], by simp [bms]⟩
  | cons o os ih =>
    intro acc
    obtain ⟨l, hl⟩ := ih (acc ++ [bm acc o.after.toList])
    exact ⟨bm acc o.after.toList :: l, by unfold bms; rw [hl]; simp⟩

theorem bms_spec : ∀ (os : List Oper) (acc : List Nat) (i : Nat) (o : Oper), edgesOk os acc.length = true → os[i]? = some o →
    ∀ j, ((bms os acc).getD (acc.length + i) 0).testBit j = true ↔ ∃ e ∈ o.after, Region.binds .any e = true ∧ (j = e.on ∨ ((bms os acc).getD e.on 0).testBit j = true) := by
  intro os
  induction os with
  | nil => intro acc i o _ h; simp at h
  | cons x os ih =>
    intro acc i o he hi j
    cases i with
    | zero =>
      simp at hi; subst hi
      have hx := edgesOk_spec _ _ 0 x he (by simp)
      obtain ⟨l, hl⟩ := bms_prefix os (acc ++ [bm acc x.after.toList])
      have hb : bms (x :: os) acc = acc ++ (bm acc x.after.toList :: l) := by unfold bms; rw [hl]; simp
      rw [hb]
      have h0 : (acc ++ (bm acc x.after.toList :: l)).getD (acc.length + 0) 0 = bm acc x.after.toList := by
        rw [List.getD_eq_getElem?_getD, List.getElem?_append_right (by omega)]; simp
      rw [h0, bm_spec]
      have hg : ∀ e ∈ x.after, Region.binds .any e = true → (acc ++ (bm acc x.after.toList :: l)).getD e.on 0 = acc.getD e.on 0 := by
        intro e he' hb'
        have := hx e he' hb'
        rw [List.getD_eq_getElem?_getD, List.getD_eq_getElem?_getD, List.getElem?_append_left (by omega)]
      constructor
      · rintro ⟨e, h1, h2, h3⟩
        exact ⟨e, by simpa using h1, h2, by rw [hg e (by simpa using h1) h2]; exact h3⟩
      · rintro ⟨e, h1, h2, h3⟩
        exact ⟨e, by simpa using h1, h2, by rw [hg e h1 h2] at h3; exact h3⟩
    | succ i =>
      have h2 : edgesOk os (acc ++ [bm acc x.after.toList]).length = true := by
        simp only [edgesOk, Bool.and_eq_true] at he
        simpa using he.2
      have := ih (acc ++ [bm acc x.after.toList]) i o h2 (by simpa using hi) j
      unfold bms
      rw [show acc.length + (i + 1) = (acc ++ [bm acc x.after.toList]).length + i by simp; omega]
      exact this

theorem writersOk_spec {b : List Nat} {j : Nat} {t : Tmp} : ∀ (os : List Oper) (k i : Nat) (o : Oper), writersOk b j t os k = true → os[i]? = some o → o.dst = some t → k + i ≠ j → comp b (k + i) j = true := by
  intro os
  induction os with
  | nil => intro k i o _ h; simp at h
  | cons x os ih =>
    intro k i o h hi hd hne
    simp only [writersOk, Bool.and_eq_true] at h
    cases i with
    | zero =>
      simp at hi; subst hi
      have h1 := h.1
      rw [hd] at h1
      simp only [Nat.beq_refl, Bool.not_true, Bool.false_or, Bool.or_eq_true] at h1
      rcases h1 with h1 | h1
      · exact absurd (T.beq_t.1 h1) hne
      · exact h1
    | succ i =>
      have := ih (k + 1) i o h.2 (by simpa using hi) hd (by omega)
      rw [show k + (i + 1) = k + 1 + i by omega]; exact this

/-- Operation j stores into a variable that is born behind operation i. -/
def Late (ops : Array Oper) (i j : Nat) : Prop := ∃ k ok oj t tt ty x, ops[k]? = some ok ∧ ok.op = .alloc tt ∧ ok.dst = some t ∧ ops[j]? = some oj ∧ oj.op = .store ty (.tmp t) x ∧ i < k ∧ k < j ∧
  ∀ m om, ops[m]? = some om → om.dst = some t → m = k

theorem bornAt_spec {t : Tmp} : ∀ (os : List Oper) (i k : Nat), bornAt t os i = some k → i ≤ k ∧ ∃ ok tt, os[k - i]? = some ok ∧ ok.op = .alloc tt ∧ ok.dst = some t ∧ ∀ m om, os[m]? = some om → om.dst = some t → m = k - i := by
  intro os
  induction os with
  | nil => intro i k h; cases h
  | cons o os ih =>
    intro i k h
    have skip : (∀ d, o.dst = some d → d ≠ t) → bornAt t os (i + 1) = some k → i ≤ k ∧ ∃ ok tt, (o :: os)[k - i]? = some ok ∧ ok.op = .alloc tt ∧ ok.dst = some t ∧ ∀ m om, (o :: os)[m]? = some om → om.dst = some t → m = k - i := by
      intro hne h
      obtain ⟨h1, ok, tt, h2, h3, h4, h5⟩ := ih (i + 1) k h
      obtain ⟨n, rfl⟩ : ∃ n, k = i + 1 + n := ⟨k - (i + 1), by omega⟩
      rw [show i + 1 + n - (i + 1) = n by omega] at h2 h5
      refine ⟨by omega, ok, tt, ?_, h3, h4, fun m om hm hd => ?_⟩
      · rw [show i + 1 + n - i = n + 1 by omega]; simpa using h2
      · cases m with
        | zero => simp at hm; subst hm; exact absurd rfl (hne t hd)
        | succ m => have := h5 m om (by simpa using hm) hd; omega
    unfold bornAt at h
    split at h
    · rename_i d hd
      split at h
      · rename_i hdt
        have hdt := T.beq_t.1 hdt
        subst hdt
        split at h
        · rename_i tt hall hop
          cases h
          refine ⟨Nat.le_refl _, o, tt, by simp, by assumption, hd, fun m om hm hdm => ?_⟩
          cases m with
          | zero => omega
          | succ m =>
            exfalso
            have hmem : om ∈ os := List.mem_of_getElem? (by simpa using hm)
            have h1 := List.all_eq_true.1 (by assumption) om hmem
            rw [hdm] at h1
            simp at h1
        · cases h
      · rename_i hdt
        have hdt := T.beq_f.1 hdt
        exact skip (fun d' h' => by rw [hd] at h'; cases h'; exact hdt) h
    · rename_i hd
      exact skip (fun d' h' => by rw [hd] at h'; cases h') h

theorem late_spec {ops : Array Oper} {i j : Nat} {oj : Oper} (hj : ops[j]? = some oj) (h : late ops.toList i j oj = true) : Late ops i j := by
  unfold late at h
  split at h
  · rename_i ty t x hop
    split at h
    · rename_i k hk
      simp only [Bool.and_eq_true] at h
      obtain ⟨_, ok, tt, h2, h3, h4, h5⟩ := bornAt_spec _ _ _ hk
      have h6 := Nat.le_of_ble_eq_true h.1
      have h7 := Nat.le_of_ble_eq_true h.2
      exact ⟨k, ok, oj, t, tt, ty, x, by simpa using h2, h3, h4, hj, hop, h6, h7, fun m om hm hd => by simpa using h5 m om (by simpa using hm) hd⟩
    · cases h
  · cases h

theorem effsOk_spec {b : List Nat} {ops : List Oper} {j : Nat} {oj : Oper} : ∀ (os : List Oper) (k i : Nat) (o : Oper), effsOk b ops j oj os k = true → os[i]? = some o → isHT o.op = true → k + i ≠ j →
    comp b (k + i) j = true ∨ (isEff o.op = false ∧ late ops (k + i) j oj = true) := by
  intro os
  induction os with
  | nil => intro k i o _ h; simp at h
  | cons x os ih =>
    intro k i o h hi hd hne
    simp only [effsOk, Bool.and_eq_true] at h
    cases i with
    | zero =>
      simp at hi; subst hi
      have h1 := h.1
      rw [hd] at h1
      simp only [Bool.not_true, Bool.false_or, Bool.or_eq_true, Bool.and_eq_true, Bool.not_eq_true'] at h1
      rcases h1 with (h1 | h1) | h1
      · exact absurd (T.beq_t.1 h1) hne
      · exact .inl h1
      · exact .inr h1
    | succ i =>
      have := ih (k + 1) i o h.2 (by simpa using hi) hd (by omega)
      rw [show k + (i + 1) = k + 1 + i by omega]; exact this

theorem opersOk_spec {b : List Nat} {ops : Array Oper} : ∀ (os : List Oper) (k j : Nat) (o : Oper), opersOk b ops os k = true → os[j]? = some o →
    (∀ t ∈ namesOf ops o, writersOk b (k + j) t ops.toList 0 = true) ∧ (isEff o.op = true → effsOk b ops.toList (k + j) o ops.toList 0 = true) := by
  intro os
  induction os with
  | nil => intro k j o _ h; simp at h
  | cons x os ih =>
    intro k j o h hj
    simp only [opersOk, Bool.and_eq_true] at h
    cases j with
    | zero =>
      simp at hj; subst hj
      refine ⟨fun t ht => List.all_eq_true.1 h.1.1 t ht, fun he => ?_⟩
      have h2 := h.1.2
      rw [he] at h2
      simpa using h2
    | succ j =>
      have := ih (k + 1) j o h.2 (by simpa using hj)
      rw [show k + (j + 1) = k + 1 + j by omega]; exact this

/-- What a checked region's text gives. -/
structure RegOk (ops : Array Oper) (ah : Nat → Nat → Prop) : Prop where
  edge : ∀ i o, ops[i]? = some o → ∀ e ∈ o.after, Region.binds .any e = true → e.on < i
  ahead : ∀ i o, ops[i]? = some o → ∀ j, ah j i ↔ ∃ e ∈ o.after, Region.binds .any e = true ∧ (j = e.on ∨ ah j e.on)
  tmp : ∀ i j oi oj t, ops[i]? = some oi → ops[j]? = some oj → oi.dst = some t → t ∈ namesOf ops oj → i ≠ j → (i < j → ah i j) ∧ (j < i → ah j i)
  eff : ∀ i j oi oj, ops[i]? = some oi → ops[j]? = some oj → isHT oi.op = true → isEff oj.op = true → i ≠ j → ((i < j → ah i j) ∧ (j < i → ah j i)) ∨ (isEff oi.op = false ∧ Late ops i j)

theorem comp_spec {b : List Nat} {i j : Nat} (h : comp b i j = true) : (i < j → (b.getD j 0).testBit i = true) ∧ (j < i → (b.getD i 0).testBit j = true) := by
  unfold comp at h
  split at h
  · rename_i hb
    have := Nat.le_of_ble_eq_true hb
    exact ⟨fun _ => h, fun hji => by omega⟩
  · rename_i hb
    refine ⟨fun hij => ?_, fun _ => h⟩
    rw [show i.blt j = true from Nat.ble_eq_true_of_le hij] at hb
    cases hb

theorem regOk_spec {ops : Array Oper} (h : regOk ops = true) : ∃ ah, RegOk ops ah := by
  unfold regOk at h
  simp only [Bool.and_eq_true] at h
  obtain ⟨h1, h2⟩ := h
  refine ⟨fun j i => ((bms ops.toList []).getD i 0).testBit j = true, ⟨?_, ?_, ?_, ?_⟩⟩
  · intro i o hi e he hb
    have := edgesOk_spec _ _ i o h1 (by simpa using hi) e he hb
    omega
  · intro i o hi j
    have := bms_spec ops.toList [] i o h1 (by simpa using hi) j
    simpa using this
  · intro i j oi oj t hi hj hd ht hne
    have h3 := (opersOk_spec _ _ j oj h2 (by simpa using hj)).1 t ht
    have h4 := writersOk_spec _ _ i oi h3 (by simpa using hi) hd (by omega)
    rw [Nat.zero_add, Nat.zero_add] at h4
    exact comp_spec h4
  · intro i j oi oj hi hj hht he hne
    have h3 := (opersOk_spec _ _ j oj h2 (by simpa using hj)).2 he
    have h4 := effsOk_spec _ _ i oi h3 (by simpa using hi) hht (by omega)
    rw [Nat.zero_add, Nat.zero_add] at h4
    rcases h4 with h4 | ⟨h4, h5⟩
    · exact .inl (comp_spec h4)
    · exact .inr ⟨h4, late_spec hj h5⟩

/-! ### Steps that leave what was there -/

structure Ext (H H' : AH) : Prop where
  next : H.next ≤ H'.next
  base : H'.base = H.base
  blk : ∀ b, b < H.next → H'.blk.get b = H.blk.get b
  fam : ∀ f, f < H.next → H'.fam.get f = H.fam.get f

theorem Ext.refl (H : AH) : Ext H H := ⟨Nat.le_refl _, rfl, fun _ _ => rfl, fun _ _ => rfl⟩
theorem Ext.trans {H H1 H2 : AH} (h : Ext H H1) (h' : Ext H1 H2) : Ext H H2 :=
  ⟨Nat.le_trans h.next h'.next, h'.base.trans h.base, fun b hb => (h'.blk b (Nat.lt_of_lt_of_le hb h.next)).trans (h.blk b hb),
    fun f hf => (h'.fam f (Nat.lt_of_lt_of_le hf h.next)).trans (h.fam f hf)⟩

theorem Ext.root {H H' : AH} (h : Ext H H') (b : Nat) (hb : b < H.next) : H'.root b = H.root b := by unfold AH.root; rw [h.blk b hb]

theorem Ext.afr {H H' : AH} (h : Ext H H') (hwf : H.WF) : AFr H H' :=
  ⟨h.next, h.base, h.root, fun b hb _ => h.blk b hb, fun f hf => h.fam f (Nat.lt_of_lt_of_le hf hwf.next)⟩

theorem Ext.okR {H H' : AH} (h : Ext H H') (hwf : H.WF) {b : Nat} {c : List Value} {e : Nat} {o : Own} (hb : H.blk.get b = some (.cells c e o)) : H'.okR o = H.okR o := by
  cases o with
  | fam f v =>
    have h1 := hwf.root b _ hb
    have h2 := hwf.lt b _ hb
    have h1 : f ≤ b := h1
    simp only [AH.okR]
    rw [h.fam f (by omega)]
  | _ => rfl

theorem WR.wb {H : AH} {ρ : Rho} {h : Array Obj} (hW : WR P H ρ h) {β : Nat} (h0 : 0 < β) (h1 : β ≤ H.next) : WR P (H.wb β) ρ h where
  wf := ⟨h0, h1, hW.wf.lt, hW.wf.root, hW.wf.uniq, hW.wf.fam⟩
  dom := hW.dom
  glob := hW.glob
  real := hW.real
  sep := hW.sep
  ends := hW.ends
  blk := fun b m k hb hk => BR.mono (Rho.le_refl ρ) rfl (fun _ _ o _ hr => by cases o <;> exact hr) (hW.blk b m k hb hk)

theorem WR.wf_wb {H : AH} {ρ : Rho} {h : Array Obj} (hW : WR P H ρ h) : WR P (H.wb H.next) ρ h := hW.wb (Nat.lt_of_lt_of_le hW.wf.base hW.wf.next) (Nat.le_refl _)

/-- Behind a fence nothing that was there has turned. -/
theorem fenced {H H1 : AH} {ρ ρ1 : Rho} {w w1 : World} (hW : WR P H ρ w.heap) (h : Grw (H.wb H.next) ρ w H1 ρ1 w1) :
    Grw H ρ w (H1.wb H.base) ρ1 w1 ∧ Ext H (H1.wb H.base) ∧ (∀ b m, ρ1 b = some m → ρ b = none → w.heap.size ≤ m.r) ∧ (∀ r, r < w.heap.size → w1.heap[r]? = w.heap[r]?) := by
  have hroot : ∀ b, b < H.next → H.root b < H.next := fun b hb => Nat.lt_of_le_of_lt (hW.wf.root_le b) hb
  have hroot' : ∀ b m, ρ b = some m → ¬ H.next ≤ H.root b := fun b m hb => by have := hroot b (hW.dom b m hb); omega
  have hfr : ∀ b m, ρ1 b = some m → ρ b = none → w.heap.size ≤ m.r := by
    intro b m hb h0
    rcases h.fresh b m hb h0 with h1 | ⟨b0, m0, h1, h2, h3⟩
    · exact h1
    · exact absurd h3 (hroot' b0 m0 h1)
  have hkeep : ∀ r, r < w.heap.size → w1.heap[r]? = w.heap[r]? := fun r hr => h.frame r hr fun b m hb _ => hroot' b m hb
  have hext : Ext H (H1.wb H.base) := ⟨h.afr.next, rfl, fun b hb => h.afr.blk b hb (hroot b hb), fun f hf => h.afr.fam f hf⟩
  exact ⟨⟨hext.afr hW.wf, h.rho, h.new, fun b m hb h0 => .inl (hfr b m hb h0), h.os, h.tape, h.output, h.size, fun r hr _ => hkeep r hr, h.cov⟩, hext, hfr, hkeep⟩

/-- One operation of a text's order, fenced. -/
theorem step_real (hz : ZOk P) {call : Callf} (hcall : CallOk P call) {H H' : AH} {ρ : Rho} {w : World} (hW : WR P H ρ w.heap) {ops : Array Oper} {fr : Fr} {a : Act} {N : Nat} (hF : FrR ρ N fr a) {o : Oper}
    (ho : ∀ x ∈ o.op.operands, opOk P x = true) {v : Value} (h : aVal P call true ops fr H o = some (v, H')) :
    ∃ v' w' ρ', VR ρ' v v' ∧ WR P H' ρ' w'.heap ∧ Grw H ρ w H' ρ' w' ∧ (isEff o.op = false → Ext H H') := by
  have core : ∀ (H H1 : AH) (hW : WR P H ρ w.heap), aVal P call false ops fr H o = some (v, H1) → ∃ v' w' ρ', VR ρ' v v' ∧ WR P H1 ρ' w'.heap ∧ Grw H ρ w H1 ρ' w' := by
    intro H H1 hW h
    unfold aVal at h
    split at h
    · split at h
      · rename_i v0 H0 hop
        cases h
        obtain ⟨v', w', ρ', h1, h2, h3, h4⟩ := op_val hz hW (operands_ok hW (ops := ops) (fun t _ => hF.tmp t) ho) hop
        exact ⟨v', w', ρ', h2, h3, h4⟩
      · rename_i f args hop
        simp only at h
        obtain ⟨args', h1, h2⟩ := op_enter (w := w) (operands_ok hW (ops := ops) (fun t _ => hF.tmp t) ho) hop
        rcases hcall f args H v H1 h ρ w args' hW h2 with ⟨hf, hc⟩ | ⟨v', w', ρ', k1, k2, k3, k4⟩
        · obtain ⟨e, w', fr', ⟨v', ρ', _, h3, h4, h5⟩, _⟩ := hc []
          exact ⟨v', w', ρ', h3, h4, h5⟩
        · exact ⟨v', w', ρ', k2, k3, k4⟩
      · cases h
    · cases h
      exact ⟨_, w, ρ, VR.undef ρ, hW, hW.refl⟩
  cases he : isEff o.op with
  | true =>
    obtain ⟨v', w', ρ', h1, h2, h3⟩ := core H H' hW (eff_val he h)
    exact ⟨v', w', ρ', h1, h2, h3, fun h => by cases h⟩
  | false =>
    obtain ⟨H1, h1, rfl⟩ := noneff_val he h
    obtain ⟨v', w', ρ', h2, h3, h4⟩ := core (H.wb H.next) H1 hW.wf_wb h1
    obtain ⟨g1, g2, _, _⟩ := fenced hW h4
    have hn : H.base ≤ H1.next := Nat.le_trans hW.wf.next h4.afr.next
    exact ⟨v', w', ρ', h2, h3.wb hW.wf.base hn, g1, fun _ => g2⟩

/-! ### The text's order as a row of states -/

structure Tr (P : Program) (call : Callf) (ops : Array Oper) (fs : Nat → Fr) (Hs : Nat → AH) (vs : Nat → Value) : Prop where
  step : ∀ i o, ops[i]? = some o → aVal P call true ops (fs i) (Hs i) o = some (vs i, Hs (i + 1)) ∧ fs (i + 1) = (fs i).put o.dst (vs i)

theorem trace {call : Callf} {ops : Array Oper} : ∀ (l : List Oper) (fr fr' : Fr) (H H' : AH), aOps P call true ops l fr H = some (fr', H') →
    ∃ (fs : Nat → Fr) (Hs : Nat → AH) (vs : Nat → Value), fs 0 = fr ∧ Hs 0 = H ∧ fs l.length = fr' ∧ Hs l.length = H' ∧
      ∀ i o, l[i]? = some o → aVal P call true ops (fs i) (Hs i) o = some (vs i, Hs (i + 1)) ∧ fs (i + 1) = (fs i).put o.dst (vs i) := by
  intro l
  induction l with
  | nil =>
    intro fr fr' H H' h
    simp only [aOps, Option.some.injEq, Prod.mk.injEq] at h
    obtain ⟨rfl, rfl⟩ := h
    exact ⟨fun _ => fr, fun _ => H, fun _ => Am.undef, rfl, rfl, rfl, rfl, fun i o h => by simp at h⟩
  | cons o l ih =>
    intro fr fr' H H' h
    rw [aOps_cons] at h
    split at h
    · rename_i v H1 hv
      obtain ⟨fs, Hs, vs, h1, h2, h3, h4, h5⟩ := ih _ _ _ _ h
      refine ⟨fun i => match i with | 0 => fr | i + 1 => fs i, fun i => match i with | 0 => H | i + 1 => Hs i, fun i => match i with | 0 => v | i + 1 => vs i, rfl, rfl, h3, h4, ?_⟩
      intro i o' hi
      cases i with
      | zero =>
        simp at hi; subst hi
        exact ⟨by simp only [h2]; exact hv, by simp only [h1]⟩
      | succ i => exact h5 i o' (by simpa using hi)
    · simp at h

end Go.Am

/-! A region whose order is open (3): every order that the edges allow comes to what the text's order comes to. -/
namespace Go.Am
open Go
variable {P : Program}

/-- What two readings of one value share. -/
theorem VR.both {ρ ρ1 ρ2 : Rho} {v y : Value} (h : VR ρ v y) : ∀ {y2 : Value}, VR ρ2 v y2 → (∀ b m, ρ b = some m → (∃ m2, ρ2 b = some m2) → ρ1 b = some m) → VR ρ1 v y := by
  induction h with
  | bool b => intro _ _ _; exact .bool b
  | int k n => intro _ _ _; exact .int k n
  | float k n => intro _ _ _; exact .float k n
  | complex k n m => intro _ _ _; exact .complex k n m
  | string s => intro _ _ _; exact .string s
  | pnil => intro _ _ _; exact .pnil
  | ptr o h => intro y2 h2 g; cases h2 with | ptr _ h2 => exact .ptr o (g _ _ h ⟨_, h2⟩)
  | opq r o => intro _ _ _; exact .opq r o
  | snil => intro _ _ _; exact .snil
  | smt a c => intro _ _ _; exact .smt a c
  | sz a => intro _ _ _; exact .sz a
  | sl o len c c' h hc hl hR =>
    intro y2 h2 g
    obtain ⟨m2, c2, h3, _⟩ := sl_inv h2
    exact .sl o len c c' (g _ _ h ⟨_, h3⟩) hc hl hR
  | mnil => intro _ _ _; exact .mnil
  | map h => intro y2 h2 g; cases h2 with | map h2 => exact .map (g _ _ h ⟨_, h2⟩)
  | chnil => intro _ _ _; exact .chnil
  | @func fn xs ys us vs h1 _ h3 _ ih1 ih2 =>
    intro y2 h2 g
    obtain ⟨ys2, vs2, _, k1, k2⟩ := h2.func_inv
    refine .func fn h1 (fun i x y hx hy => ?_) h3 (fun i x y hx hy => ?_)
    · obtain ⟨z, _, hv⟩ := k1.get_left (i := i) (x := x) (by simpa using hx)
      exact ih1 i x y hx hy hv g
    · obtain ⟨z, _, hv⟩ := k2.get_left (i := i) (x := x) (by simpa using hx)
      exact ih2 i x y hx hy hv g
  | nilFunc => intro _ _ _; exact .nilFunc
  | iface t _ ih => intro y2 h2 g; cases h2 with | iface _ h2 => exact .iface t (ih h2 g)
  | nilIface => intro _ _ _; exact .nilIface
  | @agg xs ys h1 _ ih =>
    intro y2 h2 g
    obtain ⟨ys2, _, k1⟩ := h2.agg_inv
    refine .agg h1 (fun i x y hx hy => ?_)
    obtain ⟨z, _, hv⟩ := k1.get_left (i := i) (x := x) (by simpa using hx)
    exact ih i x y hx hy hv g
  | @tuple xs ys h1 _ ih =>
    intro y2 h2 g
    obtain ⟨ys2, _, k1⟩ := h2.tuple_inv
    refine .tuple h1 (fun i x y hx hy => ?_)
    obtain ⟨z, _, hv⟩ := k1.get_left (i := i) (x := x) (by simpa using hx)
    exact ih i x y hx hy hv g

def Rho.cut (ρ : Rho) (n : Nat) : Rho := fun b => if b < n then ρ b else none

theorem Rho.cut_some {ρ : Rho} {n b : Nat} {m : Pl} : ρ.cut n b = some m ↔ b < n ∧ ρ b = some m := by
  unfold Rho.cut
  by_cases h : b < n
  · rw [if_pos h]; exact Iff.intro (fun e => ⟨h, e⟩) (fun e => e.2)
  · rw [if_neg h]; exact Iff.intro (fun e => by cases e) (fun e => absurd e.1 h)

/-- A state of the heap, looked at from an earlier one of the text's order. -/
theorem WR.cut {Ha H : AH} {ρ ρt : Rho} {h ht : Array Obj} (hW : WR P H ρ h) (hT : WR P Ha ρt ht) (hx : Ext Ha H) (hcov : ∀ b k, Ha.blk.get b = some k → ∀ m, ρ b = some m → ∃ mt, ρt b = some mt) :
    WR P Ha (ρ.cut Ha.next) h where
  wf := hT.wf
  dom := fun b m hb => (Rho.cut_some.1 hb).1
  glob := fun g hg => by
    obtain ⟨m, h1, h2⟩ := hW.glob g hg
    obtain ⟨mt, h3, _⟩ := hT.glob g hg
    exact ⟨m, Rho.cut_some.2 ⟨hT.dom g mt h3, h1⟩, h2⟩
  real := fun b m hb => hW.real b m (Rho.cut_some.1 hb).2
  sep := fun b b' m m' hb hb' hr => by
    obtain ⟨h1, h2⟩ := Rho.cut_some.1 hb
    obtain ⟨h3, h4⟩ := Rho.cut_some.1 hb'
    rw [← hx.root b h1, ← hx.root b' h3]
    exact hW.sep b b' m m' h2 h4 hr
  ends := fun b b' m m' c e c' e' f v v' hb hb' hk hk' hv hr => by
    obtain ⟨h1, h2⟩ := Rho.cut_some.1 hb
    obtain ⟨h3, h4⟩ := Rho.cut_some.1 hb'
    exact hW.ends b b' m m' c e c' e' f v v' h2 h4 ((hx.blk b h1).trans hk) ((hx.blk b' h3).trans hk') hv hr
  blk := fun b m k hb hk => by
    obtain ⟨h1, h2⟩ := Rho.cut_some.1 hb
    have hB := hW.blk b m k h2 ((hx.blk b h1).trans hk)
    obtain ⟨mt, hmt⟩ := hcov b k hk m h2
    have hBt := hT.blk b mt k hmt hk
    have g : ∀ b m, ρ b = some m → (∃ m2, ρt b = some m2) → ρ.cut Ha.next b = some m := fun b m hb ⟨m2, h2⟩ => Rho.cut_some.2 ⟨hT.dom b m2 h2, hb⟩
    cases k with
    | cells c e o =>
      refine ⟨hB.1, fun hr => ?_⟩
      obtain ⟨C, ty, fz, k1, k2, k3⟩ := hB.2 (by rw [hx.okR hT.wf hk]; exact hr)
      obtain ⟨Ct, tyt, fzt, t1, t2, t3⟩ := hBt.2 hr
      refine ⟨C, ty, fz, k1, fun i x hi => ?_, k3⟩
      obtain ⟨y, hy, hv⟩ := k2 i x hi
      obtain ⟨yt, hyt, hvt⟩ := t2 i x hi
      exact ⟨y, hy, hv.both hvt g⟩
    | map es cl mi =>
      obtain ⟨h0, es', k1, k2⟩ := hB
      obtain ⟨_, est, t1, t2⟩ := hBt
      refine ⟨h0, es', k1, k2.1, fun i e e' he he' => ?_⟩
      obtain ⟨a1, a2, a3⟩ := k2.2 i e e' he he'
      obtain ⟨et, het⟩ : ∃ et, est.toList[i]? = some et := by
        have hlt : i < es.length := by rcases Nat.lt_or_ge i es.length with h | h; exact h; rw [List.getElem?_eq_none h] at he; cases he
        exact ⟨est.toList[i]'(by rw [← t2.1]; exact hlt), List.getElem?_eq_getElem _⟩
      obtain ⟨b1, b2, _⟩ := t2.2 i e et he het
      exact ⟨a1.both b1 g, a2.both b2 g, a3⟩
    | siter s p mi => exact hB
    | miter mb since seen last mi =>
      cases mb with
      | none => exact hB
      | some b2 =>
        obtain ⟨h0, mb, k1, k2⟩ := hB
        obtain ⟨_, mt2, t1, _⟩ := hBt
        exact ⟨h0, mb, g b2 mb k1 ⟨mt2, t1⟩, k2⟩

/-- A state of the heap, looked at from a later one that left it as it was. -/
theorem WR.later {H H' : AH} {ρ : Rho} {h : Array Obj} (hW : WR P H ρ h) (hx : Ext H H') (hwf : H'.WF) : WR P H' ρ h where
  wf := hwf
  dom := fun b m hb => Nat.lt_of_lt_of_le (hW.dom b m hb) hx.next
  glob := hW.glob
  real := hW.real
  sep := fun b b' m m' hb hb' hr => by rw [hx.root b (hW.dom b m hb), hx.root b' (hW.dom b' m' hb')]; exact hW.sep b b' m m' hb hb' hr
  ends := fun b b' m m' c e c' e' f v v' hb hb' hk hk' hv hr =>
    hW.ends b b' m m' c e c' e' f v v' hb hb' ((hx.blk b (hW.dom b m hb)).symm.trans hk) ((hx.blk b' (hW.dom b' m' hb')).symm.trans hk') hv hr
  blk := fun b m k hb hk => by
    have hk' := (hx.blk b (hW.dom b m hb)).symm.trans hk
    exact BR.mono (Rho.le_refl ρ) rfl (fun c e o ho hr => by subst ho; rw [← hx.okR hW.wf hk']; exact hr) (hW.blk b m k hb hk')

/-- the next one with a property, or the end -/
theorem nextOf (p : Nat → Prop) : ∀ (d i n : Nat), n = i + d → ∃ q, i ≤ q ∧ q ≤ n ∧ (q < n → p q) ∧ ∀ e, i ≤ e → e < q → ¬ p e := by
  intro d
  induction d with
  | zero => intro i n h; exact ⟨i, Nat.le_refl _, by omega, fun h' => by omega, fun e h1 h2 => by omega⟩
  | succ d ih =>
    intro i n h
    by_cases hp : p i
    · exact ⟨i, Nat.le_refl _, by omega, fun _ => hp, fun e h1 h2 => by omega⟩
    · obtain ⟨q, h1, h2, h3, h4⟩ := ih (i + 1) n (by omega)
      refine ⟨q, by omega, h2, h3, fun e h5 h6 => ?_⟩
      by_cases e0 : e = i
      · subst e0; exact hp
      · exact h4 e (by omega) h6

end Go.Am

/-! A region whose order is open (4): the theorem. -/
namespace Go.Am
open Go
variable {P : Program}

/-- Grw, but for what it says of all blocks. -/
structure GrwP (H : AH) (ρ : Rho) (w : World) (H' : AH) (ρ' : Rho) (w' : World) : Prop where
  afr : AFr H H'
  rho : ρ.le ρ'
  new : ∀ b m, ρ' b = some m → ρ b = none → H.next ≤ b
  fresh : ∀ b m, ρ' b = some m → ρ b = none → w.heap.size ≤ m.r ∨ ∃ b0 m0, ρ b0 = some m0 ∧ m0.r = m.r ∧ H.base ≤ H.root b0
  os : w'.os = w.os
  tape : w'.tape = w.tape
  output : w'.output = w.output
  size : w.heap.size ≤ w'.heap.size
  frame : ∀ r, r < w.heap.size → (∀ b m, ρ b = some m → m.r = r → ¬ H.base ≤ H.root b) → w'.heap[r]? = w.heap[r]?

theorem Grw.p {H H' : AH} {ρ ρ' : Rho} {w w' : World} (h : Grw H ρ w H' ρ' w') : GrwP H ρ w H' ρ' w' := ⟨h.afr, h.rho, h.new, h.fresh, h.os, h.tape, h.output, h.size, h.frame⟩

theorem GrwP.trans {H H1 H2 : AH} {ρ ρ1 ρ2 : Rho} {w w1 w2 : World} (hd : ∀ b m, ρ b = some m → b < H.next)
    (h : GrwP H ρ w H1 ρ1 w1) (h' : GrwP H1 ρ1 w1 H2 ρ2 w2) : GrwP H ρ w H2 ρ2 w2 where
  afr := h.afr.trans h'.afr
  rho := Rho.le_trans h.rho h'.rho
  new := fun b m h2 h0 => by
    cases h1 : ρ1 b with
    | some m1 => exact h.new b m1 h1 h0
    | none => exact Nat.le_trans h.afr.next (h'.new b m h2 h1)
  fresh := fun b m h2 h0 => by
    cases h1 : ρ1 b with
    | some m1 =>
      have := h'.rho b m1 h1
      rw [h2] at this; cases this
      exact h.fresh b m h1 h0
    | none =>
      rcases h'.fresh b m h2 h1 with h3 | ⟨b0, m0, h3, h4, h5⟩
      · exact .inl (Nat.le_trans h.size h3)
      · cases h6 : ρ b0 with
        | some m1 =>
          have := h.rho b0 m1 h6
          rw [h3] at this; cases this
          refine .inr ⟨b0, m0, h6, h4, ?_⟩
          rw [← h.afr.root b0 (hd b0 m0 h6), ← h.afr.base]; exact h5
        | none =>
          rcases h.fresh b0 m0 h3 h6 with h7 | ⟨b1, m1, h7, h8, h9⟩
          · exact .inl (by rw [← h4]; exact h7)
          · exact .inr ⟨b1, m1, h7, h8.trans h4, h9⟩
  os := h'.os.trans h.os
  tape := h'.tape.trans h.tape
  output := h'.output.trans h.output
  size := Nat.le_trans h.size h'.size
  frame := fun r hr hno => by
    rw [h'.frame r (Nat.lt_of_lt_of_le hr h.size), h.frame r hr hno]
    intro b m hb hm hw
    cases h0 : ρ b with
    | some m0 =>
      have := h.rho b m0 h0
      rw [hb] at this; cases this
      refine hno b m h0 hm ?_
      rw [← h.afr.root b (hd b m h0), ← h.afr.base]; exact hw
    | none =>
      rcases h.fresh b m hb h0 with h3 | ⟨b0, m0, h3, h4, h5⟩
      · omega
      · exact hno b0 m0 h3 (h4.trans hm) h5
/-- One step of another order, laid beside what had been done. -/
theorem merge {Hi Hi' Hq : AH} {ρ1 ρ2 : Rho} {w1 w2 : World} (hW : WR P Hq ρ1 w1.heap) (hW2 : WR P Hi' ρ2 w2.heap) (hx2 : Ext Hi' Hq)
    (hg : Grw Hi (ρ1.cut Hi.next) w1 Hi' ρ2 w2) (hfr : ∀ b m, ρ2 b = some m → ρ1.cut Hi.next b = none → w1.heap.size ≤ m.r) (hkeep : ∀ r, r < w1.heap.size → w2.heap[r]? = w1.heap[r]?)
    (hgap : ∀ b m, ρ1 b = some m → b < Hi.next ∨ Hi'.next ≤ b) :
    ∃ ρ3, ρ1.le ρ3 ∧ ρ2.le ρ3 ∧ WR P Hq ρ3 w2.heap ∧ (∀ b m, ρ3 b = some m → ρ1 b = some m ∨ (ρ1 b = none ∧ Hi.next ≤ b ∧ b < Hi'.next ∧ ρ2 b = some m)) ∧
      (∀ b k, Hi.next ≤ b → b < Hi'.next → Hq.blk.get b = some k → ∃ m, ρ3 b = some m) := by
  have hold : ∀ b m, ρ2 b = some m → b < Hi.next → ρ1 b = some m := by
    intro b m hb hlt
    cases h : ρ1.cut Hi.next b with
    | none => have := hg.new b m hb h; omega
    | some m1 =>
      have h1 := hg.rho b m1 h
      rw [hb] at h1; cases h1
      exact (Rho.cut_some.1 h).2
  have hcutnone : ∀ b, Hi.next ≤ b → ρ1.cut Hi.next b = none := fun b hb => by unfold Rho.cut; rw [if_neg (by omega)]
  refine ⟨fun b => if b < Hi.next ∨ Hi'.next ≤ b then ρ1 b else ρ2 b, ?_, ?_, ?_, ?_, ?_⟩
  · intro b m hb
    simp only
    rw [if_pos (hgap b m hb)]; exact hb
  · intro b m hb
    simp only
    by_cases h : b < Hi.next ∨ Hi'.next ≤ b
    · rw [if_pos h]
      rcases h with h | h
      · exact hold b m hb h
      · have := hW2.dom b m hb; omega
    · rw [if_neg h]; exact hb
  · have hc : ∀ b m, (if b < Hi.next ∨ Hi'.next ≤ b then ρ1 b else ρ2 b) = some m → (ρ1 b = some m) ∨ (Hi.next ≤ b ∧ b < Hi'.next ∧ ρ2 b = some m) := by
      intro b m hb
      by_cases h : b < Hi.next ∨ Hi'.next ≤ b
      · rw [if_pos h] at hb; exact .inl hb
      · rw [if_neg h] at hb; exact .inr ⟨by omega, by omega, hb⟩
    have hle1 : ρ1.le (fun b => if b < Hi.next ∨ Hi'.next ≤ b then ρ1 b else ρ2 b) := fun b m hb => by simp only; rw [if_pos (hgap b m hb)]; exact hb
    have hle2 : ρ2.le (fun b => if b < Hi.next ∨ Hi'.next ≤ b then ρ1 b else ρ2 b) := fun b m hb => by
      simp only
      by_cases h : b < Hi.next ∨ Hi'.next ≤ b
      · rw [if_pos h]
        rcases h with h | h
        · exact hold b m hb h
        · have := hW2.dom b m hb; omega
      · rw [if_neg h]; exact hb
    have hnewr : ∀ b m, Hi.next ≤ b → ρ2 b = some m → w1.heap.size ≤ m.r := fun b m hb h => hfr b m h (hcutnone b hb)
    refine ⟨hW.wf, ?_, ?_, ?_, ?_, ?_, ?_⟩
    · intro b m hb
      rcases hc b m hb with h | ⟨_, h, _⟩
      · exact hW.dom b m h
      · exact Nat.lt_of_lt_of_le h hx2.next
    · intro g hgl
      obtain ⟨m, h1, h2⟩ := hW.glob g hgl
      exact ⟨m, hle1 g m h1, h2⟩
    · intro b m hb
      rcases hc b m hb with h | ⟨_, _, h⟩
      · exact Nat.lt_of_lt_of_le (hW.real b m h) hg.size
      · exact hW2.real b m h
    · intro b b' m m' hb hb' hr
      rcases hc b m hb with h | ⟨h1, h2, h3⟩ <;> rcases hc b' m' hb' with h' | ⟨h1', h2', h3'⟩
      · exact hW.sep b b' m m' h h' hr
      · have := hW.real b m h; have := hnewr b' m' h1' h3'; omega
      · have := hW.real b' m' h'; have := hnewr b m h1 h3; omega
      · rw [hx2.root b h2, hx2.root b' h2']; exact hW2.sep b b' m m' h3 h3' hr
    · intro b b' m m' c e c' e' f v v' hb hb' hk hk' hv hr
      rcases hc b m hb with h | ⟨h1, h2, h3⟩ <;> rcases hc b' m' hb' with h' | ⟨h1', h2', h3'⟩
      · exact hW.ends b b' m m' c e c' e' f v v' h h' hk hk' hv hr
      · have := hW.real b m h; have := hnewr b' m' h1' h3'; omega
      · have := hW.real b' m' h'; have := hnewr b m h1 h3; omega
      · exact hW2.ends b b' m m' c e c' e' f v v' h3 h3' ((hx2.blk b h2).symm.trans hk) ((hx2.blk b' h2').symm.trans hk') hv hr
    · intro b m k hb hk
      rcases hc b m hb with h | ⟨h1, h2, h3⟩
      · exact BR.mono hle1 (hkeep _ (hW.real b m h)) (fun _ _ _ _ h => h) (hW.blk b m k h hk)
      · have hk' := (hx2.blk b h2).symm.trans hk
        exact BR.mono hle2 rfl (fun c e o ho hr => by subst ho; rw [← hx2.okR hW2.wf hk']; exact hr) (hW2.blk b m k h3 hk')
  · intro b m hb
    simp only at hb
    by_cases h : b < Hi.next ∨ Hi'.next ≤ b
    · rw [if_pos h] at hb; exact .inl hb
    · rw [if_neg h] at hb
      cases h1 : ρ1 b with
      | some m1 => exact absurd (hgap b m1 h1) h
      | none => exact .inr ⟨rfl, by omega, by omega, hb⟩
  · intro b k h1 h2 hk
    obtain ⟨m, hm⟩ := hg.cov b k h1 ((hx2.blk b h2).symm.trans hk)
    exact ⟨m, by simp only; rw [if_neg (by omega)]; exact hm⟩

def Ls (L : Array Bool) (i : Nat) : Prop := L.getD i false = true

theorem Ls_set {L : Array Bool} {i : Nat} (hi : i < L.size) (j : Nat) : Ls (L.setIfInBounds i true) j ↔ j = i ∨ Ls L j := by
  unfold Ls
  by_cases e : i = j
  · subst e; simp [Array.getD_eq_getD_getElem?, hi]
  · simp only [Array.getD_eq_getD_getElem?, Array.getElem?_setIfInBounds_ne e]
    exact Iff.intro (fun h => .inr h) (fun h => h.resolve_left (fun h => e h.symm))

/-- a slot's value behind what has been done -/
def Slot (ops : Array Oper) (fs : Nat → Fr) (vs : Nat → Value) (S : Nat → Prop) (t : Tmp) (v : Value) : Prop :=
  (∃ k o, S k ∧ ops[k]? = some o ∧ o.dst = some t ∧ (∀ j oj, S j → ops[j]? = some oj → oj.dst = some t → j ≤ k) ∧ v = vs k) ∨
    ((∀ j oj, S j → ops[j]? = some oj → oj.dst ≠ some t) ∧ v = Fr.at (fs 0) t)

theorem slot_text {call : Callf} {ops : Array Oper} {fs : Nat → Fr} {Hs : Nat → AH} {vs : Nat → Value} (hT : Tr P call ops fs Hs vs) (t : Tmp) :
    ∀ i, i ≤ ops.size → Slot ops fs vs (fun j => j < i) t (Fr.at (fs i) t) := by
  intro i
  induction i with
  | zero => intro _; exact .inr ⟨fun j oj h => by omega, rfl⟩
  | succ i ih =>
    intro hi
    have hlt : i < ops.size := by omega
    have ho : ops[i]? = some ops[i] := Array.getElem?_eq_getElem hlt
    rw [(hT.step i _ ho).2, Fr.at_put]
    by_cases e : ops[i].dst = some t
    · rw [if_pos e]
      exact .inl ⟨i, ops[i], Nat.lt_succ_self i, ho, e, fun j oj h _ _ => by omega, rfl⟩
    · rw [if_neg e]
      rcases ih (by omega) with ⟨k, o, h1, h2, h3, h4, h5⟩ | ⟨h1, h2⟩
      · refine .inl ⟨k, o, by omega, h2, h3, fun j oj hj hoj hd => ?_, h5⟩
        by_cases e1 : j = i
        · subst e1; rw [ho] at hoj; cases hoj; exact absurd hd e
        · exact h4 j oj (by omega) hoj hd
      · refine .inr ⟨fun j oj hj hoj hd => ?_, h2⟩
        by_cases e1 : j = i
        · subst e1; rw [ho] at hoj; cases hoj; exact e hd
        · exact h1 j oj (by omega) hoj hd

/-- what the text's order leaves, place by place -/
structure Txt (P : Program) (N : Nat) (ρ : Rho) (w : World) (fs : Nat → Fr) (Hs : Nat → AH) (i : Nat) : Prop where
  run : ∃ ρt at_ wt, FrR ρt N (fs i) at_ ∧ WR P (Hs i) ρt wt.heap ∧ Grw (Hs 0) ρ w (Hs i) ρt wt

theorem txt (hz : ZOk P) {call : Callf} (hcall : CallOk P call) {N : Nat} {ops : Array Oper} (hok : opsOk P N ops = true) {fs : Nat → Fr} {Hs : Nat → AH} {vs : Nat → Value} (hT : Tr P call ops fs Hs vs)
    {ρ : Rho} {w : World} {a : Act} (hF : FrR ρ N (fs 0) a) (hW : WR P (Hs 0) ρ w.heap) :
    (∀ i, i ≤ ops.size → Txt P N ρ w fs Hs i) ∧ (∀ i o, ops[i]? = some o → (Hs i).next ≤ (Hs (i + 1)).next ∧ (isEff o.op = false → Ext (Hs i) (Hs (i + 1)))) ∧ (∀ i o, ops[i]? = some o → AFr (Hs i) (Hs (i + 1))) := by
  have key : ∀ i, i ≤ ops.size → Txt P N ρ w fs Hs i := by
    intro i
    induction i with
    | zero => intro _; exact ⟨ρ, a, w, hF, hW, hW.refl⟩
    | succ i ih =>
      intro hi
      have hlt : i < ops.size := by omega
      have ho : ops[i]? = some ops[i] := Array.getElem?_eq_getElem hlt
      obtain ⟨ρt, at_, wt, h1, h2, h3⟩ := (ih (by omega)).run
      obtain ⟨h4, h5⟩ := hT.step i _ ho
      obtain ⟨g1, g2⟩ := opsOk_spec hok ho
      obtain ⟨v', w', ρ', k1, k2, k3, _⟩ := step_real hz hcall h2 h1 g1 h4
      exact ⟨ρ', at_.put ops[i].dst v', w', by rw [h5]; exact (h1.mono k3.rho).put g2 k1, k2, h3.trans hW.dom hW.wf.base k3⟩
  have both : ∀ i o, ops[i]? = some o → ((Hs i).next ≤ (Hs (i + 1)).next ∧ (isEff o.op = false → Ext (Hs i) (Hs (i + 1)))) ∧ AFr (Hs i) (Hs (i + 1)) := by
    intro i o ho
    have hlt : i < ops.size := by
      rcases Nat.lt_or_ge i ops.size with h | h
      · exact h
      · rw [Array.getElem?_eq_none h] at ho; cases ho
    obtain ⟨ρt, at_, wt, h1, h2, h3⟩ := (key i (by omega)).run
    obtain ⟨h4, h5⟩ := hT.step i o ho
    obtain ⟨v', w', ρ', k1, k2, k3, k4⟩ := step_real hz hcall h2 h1 (opsOk_spec hok ho).1 h4
    exact ⟨⟨k3.afr.next, k4⟩, k3.afr⟩
  exact ⟨key, fun i o ho => (both i o ho).1, fun i o ho => (both i o ho).2⟩

structure Inv (P : Program) (ops : Array Oper) (fs : Nat → Fr) (Hs : Nat → AH) (vs : Nat → Value) (N : Nat) (ρ : Rho) (w : World) (a : Act) (L : Array Bool) (ρ1 : Rho) (q : Nat) (a1 : Act) (w1 : World) : Prop where
  size : L.size = ops.size
  cl : ∀ i o, ops[i]? = some o → Ls L i → ∀ e ∈ o.after, Region.binds .any e = true → Ls L e.on
  tsz : N ≤ a1.tmps.size
  dfr : a1.defers = a.defers
  tm : ∀ t v, Slot ops fs vs (Ls L) t v → VR ρ1 v (a1.tmps.getD t Am.undef)
  wr : WR P (Hs q) ρ1 w1.heap
  grw : GrwP (Hs 0) ρ w (Hs q) ρ1 w1
  qn : q ≤ ops.size
  done : ∀ e o, e < q → ops[e]? = some o → isEff o.op = true → Ls L e
  todo : q < ops.size → (∃ o, ops[q]? = some o ∧ isEff o.op = true) ∧ ¬ Ls L q
  dom : ∀ b m, ρ1 b = some m → b < (Hs 0).next ∨ ∃ i, Ls L i ∧ i < ops.size ∧ (Hs i).next ≤ b ∧ b < (Hs (i + 1)).next
  cov : ∀ i b k, Ls L i → i < ops.size → (Hs i).next ≤ b → b < (Hs (i + 1)).next → (Hs q).blk.get b = some k → ∃ m, ρ1 b = some m

theorem lt_of_get {ops : Array Oper} {i : Nat} {o : Oper} (h : ops[i]? = some o) : i < ops.size := by
  rcases Nat.lt_or_ge i ops.size with h' | h'
  · exact h'
  · rw [Array.getElem?_eq_none h'] at h; cases h

theorem Ls_lt {L : Array Bool} {i : Nat} (h : Ls L i) : i < L.size := by
  rcases Nat.lt_or_ge i L.size with h' | h'
  · exact h'
  · unfold Ls at h; simp [Array.getD_eq_getD_getElem?, Array.getElem?_eq_none h'] at h

section
variable {call : Callf} {N : Nat} {ops : Array Oper} {fs : Nat → Fr} {Hs : Nat → AH} {vs : Nat → Value} {ah : Nat → Nat → Prop} {ρ : Rho} {w : World} {a : Act}

theorem ah_done {L : Array Bool} (hR : RegOk ops ah) (hs : L.size = ops.size) (hcl : ∀ i o, ops[i]? = some o → Ls L i → ∀ e ∈ o.after, Region.binds .any e = true → Ls L e.on) :
    ∀ k j, Ls L k → ah j k → Ls L j := by
  intro k
  induction k using Nat.strongRecOn with
  | _ k ih =>
    intro j hk hjk
    have hlt : k < ops.size := by rw [← hs]; exact Ls_lt hk
    have ho : ops[k]? = some ops[k] := Array.getElem?_eq_getElem hlt
    obtain ⟨e, h1, h2, h3⟩ := (hR.ahead k _ ho j).1 hjk
    have h4 := hcl k _ ho hk e h1 h2
    rcases h3 with rfl | h3
    · exact h4
    · exact ih e.on (hR.edge k _ ho e h1 h2) j h4 h3

theorem chain_ext (hT2 : ∀ i o, ops[i]? = some o → (Hs i).next ≤ (Hs (i + 1)).next ∧ (isEff o.op = false → Ext (Hs i) (Hs (i + 1)))) :
    ∀ d j, j + d ≤ ops.size → (∀ e o, j ≤ e → e < j + d → ops[e]? = some o → isEff o.op = false) → Ext (Hs j) (Hs (j + d)) := by
  intro d
  induction d with
  | zero => intro j _ _; exact Ext.refl _
  | succ d ih =>
    intro j h hn
    have hlt : j + d < ops.size := by omega
    have ho : ops[j + d]? = some ops[j + d] := Array.getElem?_eq_getElem hlt
    exact (ih j (by omega) (fun e o h1 h2 => hn e o h1 (by omega))).trans ((hT2 _ _ ho).2 (hn _ _ (by omega) (by omega) ho))

theorem chain_next (hT2 : ∀ i o, ops[i]? = some o → (Hs i).next ≤ (Hs (i + 1)).next ∧ (isEff o.op = false → Ext (Hs i) (Hs (i + 1)))) :
    ∀ d j, j + d ≤ ops.size → (Hs j).next ≤ (Hs (j + d)).next := by
  intro d
  induction d with
  | zero => intro j _; exact Nat.le_refl _
  | succ d ih =>
    intro j h
    have hlt : j + d < ops.size := by omega
    have ho : ops[j + d]? = some ops[j + d] := Array.getElem?_eq_getElem hlt
    exact Nat.le_trans (ih j (by omega)) (hT2 _ _ ho).1

/-- A slot keeps the value of the one operation that gives it one. -/
theorem slot_keeps (hT : Tr P call ops fs Hs vs) {k : Nat} {ok : Oper} {t : Tmp} (hk : ops[k]? = some ok) (hd : ok.dst = some t) (hu : ∀ m om, ops[m]? = some om → om.dst = some t → m = k) :
    ∀ d, k + 1 + d ≤ ops.size → Fr.at (fs (k + 1 + d)) t = vs k := by
  intro d
  induction d with
  | zero => intro _; rw [show k + 1 + 0 = k + 1 by omega, (hT.step k ok hk).2, Fr.at_put, if_pos hd]
  | succ d ih =>
    intro h
    have hlt : k + 1 + d < ops.size := by omega
    have ho : ops[k + 1 + d]? = some ops[k + 1 + d] := Array.getElem?_eq_getElem hlt
    rw [show k + 1 + (d + 1) = (k + 1 + d) + 1 by omega, (hT.step _ _ ho).2, Fr.at_put, if_neg, ih (by omega)]
    intro e
    have := hu _ _ ho e
    omega

theorem chain_afr (hT3 : ∀ i o, ops[i]? = some o → AFr (Hs i) (Hs (i + 1))) : ∀ d j, j + d ≤ ops.size → AFr (Hs j) (Hs (j + d)) := by
  intro d
  induction d with
  | zero => intro j _; exact AFr.refl _
  | succ d ih =>
    intro j h
    have hlt : j + d < ops.size := by omega
    have ho : ops[j + d]? = some ops[j + d] := Array.getElem?_eq_getElem hlt
    exact (ih j (by omega)).trans (hT3 _ _ ho)

/-- A store that comes late leaves what was there at operation i. -/
theorem late_step (hT : Tr P call ops fs Hs vs) (hT2 : ∀ i o, ops[i]? = some o → (Hs i).next ≤ (Hs (i + 1)).next ∧ (isEff o.op = false → Ext (Hs i) (Hs (i + 1)))) (hT3 : ∀ i o, ops[i]? = some o → AFr (Hs i) (Hs (i + 1)))
    {i j : Nat} (hl : Late ops i j) : Ext (Hs (i + 1)) (Hs j) → Ext (Hs (i + 1)) (Hs (j + 1)) := by
  intro he
  obtain ⟨k, ok, oj, t, tt, ty, x, h1, h2, h3, h4, h5, h6, h7, h8⟩ := hl
  have hjlt := lt_of_get h4
  obtain ⟨hv, _⟩ := hT.step j oj h4
  unfold aVal at hv
  split at hv
  · have hat := slot_keeps hT h1 h3 h8 (j - (k + 1)) (by omega)
    rw [show k + 1 + (j - (k + 1)) = j by omega] at hat
    obtain ⟨hvk, _⟩ := hT.step k ok h1
    have hop : aOp P (fs j) (Hs j) oj = AR.ofH (aStore P (Hs j) ty (vs k) (ev (fs j) x)) := by
      unfold aOp; rw [h5]; simp only [ev, hat]
    rw [hop] at hv
    unfold aVal at hvk
    split at hvk
    · have hopk : aOp P (fs k) (Hs k) ok = match zeroT P tt with
          | some z => some (.val (.pointer (some ⟨(Hs k).next, 0, none⟩)) ((Hs k).new (.cells (cellsL z) 0 .solo)))
          | none => none := by unfold aOp; rw [h2]; rfl
      rw [hopk] at hvk
      cases hz : zeroT P tt with
      | none => rw [hz] at hvk; simp at hvk
      | some z =>
        rw [hz] at hvk
        simp only [Option.some.injEq, Prod.mk.injEq] at hvk
        obtain ⟨e1, e2⟩ := hvk
        rw [← e1] at hv
        have hroot : (Hs j).root (Hs k).next = (Hs k).next := by
          have ha := chain_afr hT3 (j - (k + 1)) (k + 1) (by omega)
          rw [show k + 1 + (j - (k + 1)) = j by omega] at ha
          rw [ha.root _ (by rw [← e2]; simp [AH.new]), ← e2]
          unfold AH.root AH.new
          simp only [T.get_set, if_true]
          rfl
        have hge : (Hs (i + 1)).next ≤ (Hs k).next := by
          have := chain_next hT2 (k - (i + 1)) (i + 1) (by omega)
          rw [show i + 1 + (k - (i + 1)) = k by omega] at this
          exact this
        unfold aStore at hv
        simp only at hv
        cases hs : szT P ty with
        | none => rw [hs] at hv; simp [AR.ofH] at hv
        | some n =>
          rw [hs] at hv
          simp only at hv
          cases hl : (cellsL (ev (fs j) x)).length.beq n with
          | false => rw [hl] at hv; simp [AR.ofH] at hv
          | true =>
            rw [hl] at hv
            simp only at hv
            cases hst : (Hs j).stores (Hs k).next 0 (cellsL (ev (fs j) x)) with
            | none => rw [hst] at hv; simp [AR.ofH] at hv
            | some H' =>
              rw [hst] at hv
              simp only [AR.ofH, Option.some.injEq, Prod.mk.injEq] at hv
              obtain ⟨_, e3⟩ := hv
              subst e3
              unfold AH.stores at hst
              split at hst
              · rename_i c e ow hb
                split at hst
                · have hst := Option.some.inj hst
                  have hro : ow.root (Hs k).next = (Hs k).next := (AH.root_of hb).symm.trans hroot
                  refine ⟨?_, ?_, ?_, ?_⟩
                  · rw [← hst, AH.put_next]; exact he.next
                  · rw [← hst, AH.put_base]; exact he.base
                  · intro b hb'
                    rw [← hst, AH.put_blk, if_neg (by omega)]; exact he.blk b hb'
                  · intro f hf
                    rw [← hst, ← he.fam f hf]
                    cases ow with
                    | fam f' v =>
                      have hro : f' = (Hs k).next := hro
                      show ((Hs j).fam.set f' (v, v)).get f = _
                      rw [T.get_set_ne _ _ (by omega)]
                    | _ => rfl
                · cases hst
              · cases hst
    · have e1 := congrArg Prod.fst (Option.some.inj hvk)
      simp only at e1
      rw [← e1] at hv
      simp [aStore, AR.ofH, Am.undef] at hv
  · have e1 := congrArg Prod.snd (Option.some.inj hv)
    simp only at e1
    rw [← e1]; exact he

/-- From operation i on, if there are late stores alone. -/
theorem chain_late (hT : Tr P call ops fs Hs vs) (hT2 : ∀ i o, ops[i]? = some o → (Hs i).next ≤ (Hs (i + 1)).next ∧ (isEff o.op = false → Ext (Hs i) (Hs (i + 1)))) (hT3 : ∀ i o, ops[i]? = some o → AFr (Hs i) (Hs (i + 1))) {i : Nat} :
    ∀ d, i + 1 + d ≤ ops.size → (∀ e o, i + 1 ≤ e → e < i + 1 + d → ops[e]? = some o → isEff o.op = true → Late ops i e) → Ext (Hs (i + 1)) (Hs (i + 1 + d)) := by
  intro d
  induction d with
  | zero => intro _ _; exact Ext.refl _
  | succ d ih =>
    intro h hn
    have hlt : i + 1 + d < ops.size := by omega
    have ho : ops[i + 1 + d]? = some ops[i + 1 + d] := Array.getElem?_eq_getElem hlt
    have h1 := ih (by omega) (fun e o h1 h2 => hn e o h1 (by omega))
    cases he : isEff ops[i + 1 + d].op with
    | false => exact h1.trans ((hT2 _ _ ho).2 he)
    | true => exact late_step hT hT2 hT3 (hn (i + 1 + d) _ (by omega) (by omega) ho he) h1

/-- the slots behind one more operation -/
theorem inv_tm {L : Array Bool} {ρ1 ρ' : Rho} {q : Nat} {a1 : Act} {w1 : World} (hR : RegOk ops ah) (hI : Inv P ops fs Hs vs N ρ w a L ρ1 q a1 w1) {i : Nat} {o : Oper} (ho : ops[i]? = some o) (hnot : ¬ Ls L i)
    (hd : ∀ d, o.dst = some d → d < N) (hle : ρ1.le ρ') {v' : Value} (hv : VR ρ' (vs i) v') :
    ∀ t v, Slot ops fs vs (Ls (L.setIfInBounds i true)) t v → VR ρ' v ((a1.put o.dst v').tmps.getD t Am.undef) := by
  intro t v hs
  have hiL : i < L.size := by rw [hI.size]; exact lt_of_get ho
  have hset := Ls_set (L := L) hiL
  have hah := ah_done hR hI.size hI.cl
  by_cases e : o.dst = some t
  · have hval : v = vs i := by
      rcases hs with ⟨k, ok, h1, h2, h3, h4, h5⟩ | ⟨h1, _⟩
      · have hik := h4 i o ((hset i).2 (.inl rfl)) ho e
        rcases (hset k).1 h1 with rfl | h1
        · exact h5
        · exfalso
          by_cases e2 : i = k
          · subst e2; exact hnot h1
          · have := (hR.tmp i k o ok t ho h2 e (by unfold namesOf; simp [h3]) e2).1 (by omega)
            exact hnot (hah k i h1 this)
      · exact absurd e (h1 i o ((hset i).2 (.inl rfl)) ho)
    subst hval
    have hlt := Nat.lt_of_lt_of_le (hd t e) hI.tsz
    rw [e]
    have : ((a1.put (some t) v').tmps.getD t Am.undef) = v' := by simp [Act.put, Array.getD_eq_getD_getElem?, hlt]
    rw [this]; exact hv
  · have hsl : Slot ops fs vs (Ls L) t v := by
      rcases hs with ⟨k, ok, h1, h2, h3, h4, h5⟩ | ⟨h1, h2⟩
      · refine .inl ⟨k, ok, ?_, h2, h3, fun j oj hj hoj hdj => h4 j oj ((hset j).2 (.inr hj)) hoj hdj, h5⟩
        rcases (hset k).1 h1 with rfl | h1
        · rw [ho] at h2; cases h2; exact absurd h3 e
        · exact h1
      · exact .inr ⟨fun j oj hj hoj => h1 j oj ((hset j).2 (.inr hj)) hoj, h2⟩
    have := (hI.tm t v hsl).mono hle
    have hsame : (a1.put o.dst v').tmps.getD t Am.undef = a1.tmps.getD t Am.undef := by
      cases hdd : o.dst with
      | none => rfl
      | some d =>
        have hne : d ≠ t := fun h => e (by rw [hdd, h])
        simp [Act.put, Array.getD_eq_getD_getElem?, Array.getElem?_setIfInBounds_ne hne]
    rw [hsame]; exact this

theorem inv_cl {L : Array Bool} {ρ1 : Rho} {q : Nat} {a1 : Act} {w1 : World} (hI : Inv P ops fs Hs vs N ρ w a L ρ1 q a1 w1) {i : Nat} {o : Oper} (ho : ops[i]? = some o)
    (hdeps : ∀ e ∈ o.after, Region.binds .any e = true → Ls L e.on) :
    ∀ j oj, ops[j]? = some oj → Ls (L.setIfInBounds i true) j → ∀ e ∈ oj.after, Region.binds .any e = true → Ls (L.setIfInBounds i true) e.on := by
  intro j oj hoj hj e he hb
  have hiL : i < L.size := by rw [hI.size]; exact lt_of_get ho
  have hset := Ls_set (L := L) hiL
  rcases (hset j).1 hj with rfl | hj
  · rw [ho] at hoj; cases hoj
    exact (hset _).2 (.inr (hdeps e he hb))
  · exact (hset _).2 (.inr (hI.cl j oj hoj hj e he hb))

/-- what an operation looks at -/
theorem inv_looks {L : Array Bool} {ρ1 : Rho} {q : Nat} {a1 : Act} {w1 : World} (hR : RegOk ops ah) (hT : Tr P call ops fs Hs vs) (hI : Inv P ops fs Hs vs N ρ w a L ρ1 q a1 w1) {i : Nat} {o : Oper} (ho : ops[i]? = some o)
    (hnot : ¬ Ls L i) (hdeps : ∀ e ∈ o.after, Region.binds .any e = true → Ls L e.on) : LooksR ρ1 ops (fs i) a1 o := by
  intro t ht
  have hah := ah_done hR hI.size hI.cl
  have hahI : ∀ j, ah j i → Ls L j := by
    intro j hj
    obtain ⟨e, h1, h2, h3⟩ := (hR.ahead i o ho j).1 hj
    have h4 := hdeps e h1 h2
    rcases h3 with rfl | h3
    · exact h4
    · exact hah _ _ h4 h3
  have hnm : t ∈ namesOf ops o := by unfold namesOf; simp [ht]
  refine hI.tm t _ ?_
  have hiff : ∀ j oj, ops[j]? = some oj → oj.dst = some t → (Ls L j ↔ j < i) := by
    intro j oj hoj hd
    by_cases e : j = i
    · subst e; exact Iff.intro (fun h => absurd h hnot) (fun h => by omega)
    · obtain ⟨h1, h2⟩ := hR.tmp j i oj o t hoj ho hd hnm e
      refine Iff.intro (fun h => ?_) (fun h => hahI j (h1 h))
      rcases Nat.lt_or_ge j i with h3 | h3
      · exact h3
      · exact absurd (hah j i h (h2 (by omega))) hnot
  rcases slot_text hT t i (Nat.le_of_lt (lt_of_get ho)) with ⟨k, ok, h1, h2, h3, h4, h5⟩ | ⟨h1, h2⟩
  · exact .inl ⟨k, ok, (hiff k ok h2 h3).2 h1, h2, h3, fun j oj hj hoj hd => h4 j oj ((hiff j oj hoj hd).1 hj) hoj hd, h5⟩
  · exact .inr ⟨fun j oj hj hoj hd => h1 j oj ((hiff j oj hoj hd).1 hj) hoj hd, h2⟩

theorem inv_step (hz : ZOk P) (hcall : CallOk P call) (hok : opsOk P N ops = true) (hR : RegOk ops ah) (hT : Tr P call ops fs Hs vs) (hF : FrR ρ N (fs 0) a) (hW : WR P (Hs 0) ρ w.heap)
    {L : Array Bool} {ρ1 : Rho} {q : Nat} {a1 : Act} {w1 : World} (hI : Inv P ops fs Hs vs N ρ w a L ρ1 q a1 w1) {i : Nat} {o : Oper} (ho : ops[i]? = some o) (hnot : ¬ Ls L i)
    (hdeps : ∀ e ∈ o.after, Region.binds .any e = true → Ls L e.on) {Q : Exit → Act → World → Prop} :
    wpOp P ops Q i (fun a2 w2 => ∃ ρ2 q2, Inv P ops fs Hs vs N ρ w a (L.setIfInBounds i true) ρ2 q2 a2 w2) a1 w1 := by
  obtain ⟨hTx, hT2, hT3⟩ := txt hz hcall hok hT hF hW
  obtain ⟨hopsk, hdst⟩ := opsOk_spec hok ho
  have hlt := lt_of_get ho
  have hiL : i < L.size := by rw [hI.size]; exact hlt
  have hset := Ls_set (L := L) hiL
  have hah := ah_done hR hI.size hI.cl
  have hahI : ∀ j, ah j i → Ls L j := by
    intro j hj
    obtain ⟨e, h1, h2, h3⟩ := (hR.ahead i o ho j).1 hj
    have h4 := hdeps e h1 h2
    rcases h3 with rfl | h3
    · exact h4
    · exact hah _ _ h4 h3
  have hLk := inv_looks hR hT hI ho hnot hdeps
  obtain ⟨hval, _⟩ := hT.step i o ho
  have hNt : ∀ (i : Nat) (o : Oper) (d : Tmp), ops[i]? = some o → o.dst = some d → d < a1.tmps.size := fun i o d h1 h2 => Nat.lt_of_lt_of_le ((opsOk_spec hok h1).2 d h2) hI.tsz
  have hcl' := inv_cl hI ho hdeps
  -- the number of the operation stands ahead of the next writing one, if it comes to the heap
  have hbefore : isHT o.op = true → isEff o.op = false → i < q := by
    intro hh he
    by_cases hq : q < ops.size
    · obtain ⟨⟨oq, hoq, heq⟩, hnq⟩ := hI.todo hq
      have hne : i ≠ q := by rintro rfl; rw [ho] at hoq; cases hoq; rw [he] at heq; cases heq
      rcases Nat.lt_or_ge i q with h | h
      · exact h
      · rcases hR.eff i q o oq ho hoq hh heq hne with h2 | ⟨_, k, _, _, _, _, _, _, _, _, _, _, _, h3, h4, _⟩
        · exact absurd (hahI q (h2.2 (by omega))) hnq
        · omega
    · have := hI.qn; omega
  cases hE : isEff o.op with
  | true =>
    -- a writing operation: it is the next one
    have hHT := HT_of_eff hE
    have hiq : i = q := by
      rcases Nat.lt_trichotomy i q with h | h | h
      · exact absurd (hI.done i o h ho hE) hnot
      · exact h
      · exfalso
        obtain ⟨⟨oq, hoq, heq⟩, hnq⟩ := hI.todo (by omega)
        rcases hR.eff i q o oq ho hoq hHT heq (by omega) with h2 | ⟨h2, _⟩
        · exact hnq (hahI q (h2.2 h))
        · rw [hE] at h2; cases h2
    subst hiq
    refine step_ok hz hcall hI.wr ho hLk hNt hopsk (eff_val hE hval) ?_
    intro v' w2 ρ2 k1 k2 k3
    obtain ⟨q2, q1, q3, q4, q5⟩ := nextOf (fun e => ∃ oe, ops[e]? = some oe ∧ isEff oe.op = true) (ops.size - (i + 1)) (i + 1) ops.size (by omega)
    have hext : Ext (Hs (i + 1)) (Hs q2) := by
      have := chain_ext hT2 (q2 - (i + 1)) (i + 1) (by omega) (fun e oe h1 h2 h3 => by
        cases h4 : isEff oe.op with
        | false => rfl
        | true => exact absurd ⟨oe, h3, h4⟩ (q5 e h1 (by omega)))
      rw [show i + 1 + (q2 - (i + 1)) = q2 by omega] at this
      exact this
    obtain ⟨_, _, _, _, hWq, _⟩ := (hTx q2 q3).run
    refine ⟨ρ2, q2, ⟨by simp [hI.size], hcl', by rw [put_size]; exact hI.tsz, (put_defers ..).trans hI.dfr, inv_tm hR hI ho hnot hdst k3.rho k1, k2.later hext hWq.wf, ?_, q3, ?_, ?_, ?_, ?_⟩⟩
    · have g := hI.grw.trans hW.dom k3.p
      exact ⟨g.afr.trans (hext.afr k2.wf), g.rho, g.new, g.fresh, g.os, g.tape, g.output, g.size, g.frame⟩
    · intro e oe he hoe hee
      rcases Nat.lt_trichotomy e i with h | h | h
      · exact (hset e).2 (.inr (hI.done e oe h hoe hee))
      · exact (hset e).2 (.inl h)
      · exact absurd ⟨oe, hoe, hee⟩ (q5 e (by omega) he)
    · intro hq
      refine ⟨q4 hq, fun h => ?_⟩
      obtain ⟨oq, hoq, heq⟩ := q4 hq
      rcases (hset q2).1 h with h | h
      · omega
      · rcases hR.eff i q2 o oq ho hoq hHT heq (by omega) with h2 | ⟨h2, _⟩
        · exact hnot (hah q2 i h (h2.1 (by omega)))
        · rw [hE] at h2; cases h2
    · intro b m hb
      cases h0 : ρ1 b with
      | some m1 =>
        rcases hI.dom b m1 h0 with h | ⟨j, h1, h2, h3, h4⟩
        · exact .inl h
        · exact .inr ⟨j, (hset j).2 (.inr h1), h2, h3, h4⟩
      | none => exact .inr ⟨i, (hset i).2 (.inl rfl), hlt, k3.new b m hb h0, k2.dom b m hb⟩
    · intro j b k hj hjn h1 h2 hk
      rcases (hset j).1 hj with rfl | hj2
      · exact k3.cov b k h1 ((hext.blk b h2).symm.trans hk)
      · have hbq : b < (Hs i).next := by
          rcases Nat.lt_trichotomy j i with h | h | h
          · refine Nat.lt_of_lt_of_le h2 ?_
            have := chain_next hT2 (i - (j + 1)) (j + 1) (by omega)
            rw [show j + 1 + (i - (j + 1)) = i by omega] at this
            exact this
          · subst h; exact absurd hj2 hnot
          · exfalso
            have hoj : ops[j]? = some ops[j] := Array.getElem?_eq_getElem hjn
            cases hh : isHT ops[j].op with
            | true =>
              rcases hR.eff j i _ o hoj ho hh hE (by omega) with h2 | ⟨_, k, _, _, _, _, _, _, _, _, _, _, _, h3, h4, _⟩
              · exact hnot (hah j i hj2 (h2.2 h))
              · omega
            | false =>
              obtain ⟨hvj, _⟩ := hT.step j _ hoj
              have := (pure_val hh hvj).1
              rw [this] at h2
              omega
        cases h0 : (Hs i).blk.get b with
        | some k0 =>
          obtain ⟨m, hm⟩ := hI.cov j b k0 hj2 hjn h1 h2 h0
          exact ⟨m, k3.rho b m hm⟩
        | none =>
          have := k3.blk0 hI.wr.wf.base b hbq h0
          have hb2 : b < (Hs (i + 1)).next := Nat.lt_of_lt_of_le hbq k3.afr.next
          rw [← hext.blk b hb2, hk] at this
          cases this
  | false =>
    cases hHT : isHT o.op with
    | false =>
      -- nothing of the heap
      obtain ⟨p1, p2⟩ := pure_val hHT hval
      refine step_ok hz hcall hI.wr ho hLk hNt hopsk (p2 (Hs q)) ?_
      intro v' w2 ρ2 k1 k2 k3
      refine ⟨ρ2, q, ⟨by simp [hI.size], hcl', by rw [put_size]; exact hI.tsz, (put_defers ..).trans hI.dfr, inv_tm hR hI ho hnot hdst k3.rho k1, k2, hI.grw.trans hW.dom k3.p, hI.qn, ?_, ?_, ?_, ?_⟩⟩
      · intro e oe he hoe hee; exact (hset e).2 (.inr (hI.done e oe he hoe hee))
      · intro hq
        obtain ⟨h1, h2⟩ := hI.todo hq
        refine ⟨h1, fun h => ?_⟩
        rcases (hset q).1 h with h | h
        · subst h; obtain ⟨oq, hoq, heq⟩ := h1; rw [ho] at hoq; cases hoq; rw [hE] at heq; cases heq
        · exact h2 h
      · intro b m hb
        cases h0 : ρ1 b with
        | some m1 =>
          rcases hI.dom b m1 h0 with h | ⟨j, h1, h2, h3, h4⟩
          · exact .inl h
          · exact .inr ⟨j, (hset j).2 (.inr h1), h2, h3, h4⟩
        | none => have := k3.new b m hb h0; have := k2.dom b m hb; omega
      · intro j b k hj hjn h1 h2 hk
        rcases (hset j).1 hj with rfl | hj
        · rw [p1] at h2; omega
        · obtain ⟨m, hm⟩ := hI.cov j b k hj hjn h1 h2 hk
          exact ⟨m, k3.rho b m hm⟩
    | true =>
      -- it comes to the heap, and leaves what was there
      have hiq := hbefore hHT hE
      have hext0 := (hT2 i o ho).2 hE
      have hnoeff : ∀ e oe, i + 1 ≤ e → e < q → ops[e]? = some oe → isEff oe.op = true → Late ops i e := by
        intro e oe h1 h2 h3 h4
        rcases hR.eff i e o oe ho h3 hHT h4 (by omega) with h5 | ⟨_, h5⟩
        · exact absurd (hah e i (hI.done e oe h2 h3 h4) (h5.1 (by omega))) hnot
        · exact h5
      have hext1 : Ext (Hs (i + 1)) (Hs q) := by
        have := chain_late hT hT2 hT3 (i := i) (q - (i + 1)) (by have := hI.qn; omega) (fun e oe h1 h2 h3 h4 => hnoeff e oe h1 (by omega) h3 h4)
        rw [show i + 1 + (q - (i + 1)) = q by omega] at this
        exact this
      obtain ⟨ρt, at_, wt, hFt, hWt, hGt⟩ := (hTx i (by omega)).run
      have hcovt : ∀ b k, (Hs i).blk.get b = some k → ∀ m, ρ1 b = some m → ∃ mt, ρt b = some mt := by
        intro b k hk m hm
        rcases Nat.lt_or_ge b (Hs 0).next with h | h
        · cases h0 : ρ b with
          | some m0 => exact ⟨m0, hGt.rho b m0 h0⟩
          | none => have := hI.grw.new b m hm h0; omega
        · exact hGt.cov b k h hk
      have hWr := hI.wr.cut hWt (hext0.trans hext1) hcovt
      have hLr : LooksR (ρ1.cut (Hs i).next) ops (fs i) a1 o := by
        intro t ht
        exact (hLk t ht).both (hFt.tmp t) fun b m hb ⟨m2, h2⟩ => Rho.cut_some.2 ⟨hWt.dom b m2 h2, hb⟩
      obtain ⟨H1, hv1, hH1⟩ := noneff_val hE hval
      refine step_ok hz hcall hWr.wf_wb ho hLr hNt hopsk hv1 ?_
      intro v' w2 ρ2 k1 k2 k3
      obtain ⟨g1, g2, g3, g4⟩ := fenced hWr k3
      rw [← hH1] at g1 g2
      have hW2 : WR P (Hs (i + 1)) ρ2 w2.heap := by rw [hH1]; exact k2.wb hWt.wf.base (Nat.le_trans hWt.wf.next k3.afr.next)
      have hgap : ∀ b m, ρ1 b = some m → b < (Hs i).next ∨ (Hs (i + 1)).next ≤ b := by
        intro b m hb
        rcases hI.dom b m hb with h | ⟨j, h1, h2, h3, h4⟩
        · exact .inl (Nat.lt_of_lt_of_le h (by have := chain_next hT2 i 0 (by omega); simpa using this))
        · rcases Nat.lt_trichotomy j i with h | h | h
          · refine .inl (Nat.lt_of_lt_of_le h4 ?_)
            have := chain_next hT2 (i - (j + 1)) (j + 1) (by omega)
            rw [show j + 1 + (i - (j + 1)) = i by omega] at this
            exact this
          · subst h; exact absurd h1 hnot
          · refine .inr (Nat.le_trans ?_ h3)
            have := chain_next hT2 (j - (i + 1)) (i + 1) (by omega)
            rw [show i + 1 + (j - (i + 1)) = j by omega] at this
            exact this
      obtain ⟨ρ3, m1, m2, m3, m4, m5⟩ := merge hI.wr hW2 hext1 g1 g3 g4 hgap
      refine ⟨ρ3, q, ⟨by simp [hI.size], hcl', by rw [put_size]; exact hI.tsz, (put_defers ..).trans hI.dfr, inv_tm hR hI ho hnot hdst m1 (k1.mono m2), m3, ?_, hI.qn, ?_, ?_, ?_, ?_⟩⟩
      · refine ⟨hI.grw.afr, Rho.le_trans hI.grw.rho m1, ?_, ?_, g1.os.trans hI.grw.os, g1.tape.trans hI.grw.tape, g1.output.trans hI.grw.output, Nat.le_trans hI.grw.size g1.size, ?_⟩
        · intro b m hb h0
          rcases m4 b m hb with h | ⟨_, h, _, _⟩
          · exact hI.grw.new b m h h0
          · exact Nat.le_trans (by have := chain_next hT2 i 0 (by omega); simpa using this) h
        · intro b m hb h0
          rcases m4 b m hb with h | ⟨_, h1, _, h2⟩
          · exact hI.grw.fresh b m h h0
          · refine .inl (Nat.le_trans hI.grw.size (g3 b m h2 ?_))
            unfold Rho.cut; rw [if_neg (by omega)]
        · intro r hr hno
          rw [g4 r (Nat.lt_of_lt_of_le hr hI.grw.size)]
          exact hI.grw.frame r hr hno
      · intro e oe he hoe hee; exact (hset e).2 (.inr (hI.done e oe he hoe hee))
      · intro hq
        obtain ⟨h1, h2⟩ := hI.todo hq
        refine ⟨h1, fun h => ?_⟩
        rcases (hset q).1 h with h | h
        · omega
        · exact h2 h
      · intro b m hb
        rcases m4 b m hb with h | ⟨_, h1, h2, _⟩
        · rcases hI.dom b m h with h | ⟨j, h1, h2, h3, h4⟩
          · exact .inl h
          · exact .inr ⟨j, (hset j).2 (.inr h1), h2, h3, h4⟩
        · exact .inr ⟨i, (hset i).2 (.inl rfl), hlt, h1, h2⟩
      · intro j b k hj hjn h1 h2 hk
        rcases (hset j).1 hj with rfl | hj
        · exact m5 b k h1 h2 hk
        · obtain ⟨m, hm⟩ := hI.cov j b k hj hjn h1 h2 hk
          exact ⟨m, m1 b m hm⟩
end

/-! ### The theorem -/

def unl : List Bool → Nat
  | [] => 0
  | true :: l => unl l
  | false :: l => unl l + 1

theorem unl_set : ∀ (l : List Bool) (i : Nat), l[i]? = some false → unl (l.set i true) + 1 = unl l := by
  intro l
  induction l with
  | nil => intro i h; simp at h
  | cons b l ih =>
    intro i h
    cases i with
    | zero => simp at h; subst h; simp [unl]
    | succ i =>
      have := ih i (by simpa using h)
      cases b <;> simp [unl] <;> omega

theorem unl_zero : ∀ (l : List Bool), unl l = 0 → ∀ i, i < l.length → l[i]? = some true := by
  intro l
  induction l with
  | nil => intro _ i h; simp at h
  | cons b l ih =>
    intro h i hi
    cases b with
    | false => simp [unl] at h
    | true =>
      cases i with
      | zero => rfl
      | succ i => simpa using ih (by simpa [unl] using h) i (by simpa using hi)

theorem region_open (hz : ZOk P) {call : Callf} (hcall : CallOk P call) (hm : P.follows .mixedOrders = true) {N : Nat} {ops : Array Oper} (hok : opsOk P N ops = true) (hreg : regOk ops = true)
    {Q : Exit → Act → World → Prop} {id : Nat} {fr fr' : Fr} {H H' : AH} {ρ : Rho} {a : Act} {w : World}
    (h : aOps P call true ops ops.toList fr H = some (fr', H')) (hF : FrR ρ N fr a) (hW : WR P H ρ w.heap)
    (hQ : ∀ a' w' ρ', FrR ρ' N fr' a' → WR P H' ρ' w'.heap → Grw H ρ w H' ρ' w' → a'.defers = a.defers → Q .normal a' w') : (Code.region id ops true).wp P Q a w := by
  obtain ⟨ah, hR⟩ := regOk_spec hreg
  obtain ⟨fs, Hs, vs, rfl, rfl, hfn, hHn, hst⟩ := trace _ _ _ _ _ h
  simp only [Array.length_toList] at hfn hHn
  have hT : Tr P call ops fs Hs vs := ⟨fun i o ho => hst i o (by simpa using ho)⟩
  let wd : World := { w with drawn := w.drawn + 1 }
  have hWd : WR P (Hs 0) ρ wd.heap := hW
  obtain ⟨hTx, hT2, hT3⟩ := txt hz hcall hok hT hF hWd
  apply wp_region_any hm
  -- all is done
  have fin : ∀ L a1 w1 ρ1 q, Inv P ops fs Hs vs N ρ wd a L ρ1 q a1 w1 → (∀ i, i < ops.size → Ls L i) → Q .normal a1 w1 := by
    intro L a1 w1 ρ1 q hI hall
    have hq : q = ops.size := by
      rcases Nat.lt_or_ge q ops.size with h | h
      · exact absurd (hall q h) (hI.todo h).2
      · have := hI.qn; omega
    subst hq
    have hcov : ∀ b k, (Hs 0).next ≤ b → (Hs ops.size).blk.get b = some k → ∃ m, ρ1 b = some m := by
      intro b k hb hk
      have hlt := hI.wr.wf.lt b k hk
      have find : ∀ d, d ≤ ops.size → b < (Hs d).next → ∃ i, i < ops.size ∧ (Hs i).next ≤ b ∧ b < (Hs (i + 1)).next := by
        intro d
        induction d with
        | zero => intro _ h; omega
        | succ d ih =>
          intro hd hbd
          rcases Nat.lt_or_ge b (Hs d).next with h | h
          · exact ih (by omega) h
          · exact ⟨d, by omega, h, hbd⟩
      obtain ⟨i, h1, h2, h3⟩ := find ops.size (Nat.le_refl _) hlt
      exact hI.cov i b k (hall i h1) h1 h2 h3 hk
    have g := hI.grw
    refine hQ a1 w1 ρ1 ⟨hI.tsz, fun t => ?_⟩ (by rw [← hHn]; exact hI.wr) (by rw [← hHn]; exact ⟨g.afr, g.rho, g.new, g.fresh, g.os, g.tape, g.output, g.size, g.frame, hcov⟩) hI.dfr
    rw [← hfn]
    refine hI.tm t _ ?_
    rcases slot_text hT t ops.size (Nat.le_refl _) with ⟨k, o, h1, h2, h3, h4, h5⟩ | ⟨h1, h2⟩
    · exact .inl ⟨k, o, hall k h1, h2, h3, fun j oj _ hoj hd => h4 j oj (lt_of_get hoj) hoj hd, h5⟩
    · exact .inr ⟨fun j oj _ hoj hd => h1 j oj (lt_of_get hoj) hoj hd, h2⟩
  -- nothing ready: all is done
  have none_ready : ∀ L, L.size = ops.size → Region.ready .any ops L = [] → ∀ i, i < ops.size → Ls L i := by
    intro L hs hr i
    induction i using Nat.strongRecOn with
    | _ i ih =>
      intro hi
      have ho : ops[i]? = some ops[i] := Array.getElem?_eq_getElem hi
      cases hb : L.getD i true with
      | true => unfold Ls; simp only [Array.getD_eq_getD_getElem?] at hb ⊢; rw [Array.getElem?_eq_getElem (by omega)] at hb ⊢; exact hb
      | false =>
        exfalso
        have : i ∈ Region.ready .any ops L := by
          unfold Region.ready
          rw [List.mem_filter]
          refine ⟨List.mem_range.2 hi, ?_⟩
          rw [hb, ho]
          simp only [Bool.not_false, Option.map_some, Option.getD_some, Bool.true_and, Array.all_eq_true']
          intro e he
          cases hbe : Region.binds .any e with
          | false => rfl
          | true =>
            have hlt := hR.edge i _ ho e he hbe
            have := ih e.on hlt (by omega)
            unfold Ls at this
            rw [this]; rfl
        rw [hr] at this
        cases this
  have main : ∀ fuel L a1 w1 ρ1 q, unl L.toList ≤ fuel → Inv P ops fs Hs vs N ρ wd a L ρ1 q a1 w1 → wpAny P .any ops Q fuel L a1 w1 := by
    intro fuel
    induction fuel with
    | zero =>
      intro L a1 w1 ρ1 q hu hI
      have hall : ∀ i, i < ops.size → Ls L i := by
        intro i hi
        have := unl_zero L.toList (by omega) i (by simp; rw [hI.size]; exact hi)
        unfold Ls
        have h2 : L[i]? = some true := by simpa using this
        simp [Array.getD_eq_getD_getElem?, h2]
      refine ⟨?_, fin L a1 w1 ρ1 q hI hall⟩
      cases hr : Region.ready .any ops L with
      | nil => rfl
      | cons i l =>
        exfalso
        have : i ∈ Region.ready .any ops L := by rw [hr]; simp
        unfold Region.ready at this
        rw [List.mem_filter] at this
        have hi := List.mem_range.1 this.1
        have h2 := hall i hi
        unfold Ls at h2
        have h3 := this.2
        simp only [Bool.and_eq_true, Bool.not_eq_true'] at h3
        have h4 := h3.1
        simp only [Array.getD_eq_getD_getElem?] at h2 h4
        rw [Array.getElem?_eq_getElem (by rw [hI.size]; exact hi)] at h2 h4
        simp at h2 h4
        rw [h2] at h4; cases h4
    | succ fuel ih =>
      intro L a1 w1 ρ1 q hu hI
      refine ⟨fun hr => fin L a1 w1 ρ1 q hI (none_ready L hI.size hr), ?_⟩
      intro i hi
      unfold Region.ready at hi
      rw [List.mem_filter] at hi
      have hlt := List.mem_range.1 hi.1
      have ho : ops[i]? = some ops[i] := Array.getElem?_eq_getElem hlt
      have h3 := hi.2
      rw [ho] at h3
      simp only [Bool.and_eq_true, Bool.not_eq_true', Option.map_some, Option.getD_some, Array.all_eq_true'] at h3
      obtain ⟨h4, h5⟩ := h3
      have hLf : L[i]? = some false := by
        simp only [Array.getD_eq_getD_getElem?] at h4
        rw [Array.getElem?_eq_getElem (by rw [hI.size]; exact hlt)] at h4 ⊢
        simpa using h4
      have hnot : ¬ Ls L i := by unfold Ls; simp [Array.getD_eq_getD_getElem?, hLf]
      have hdeps : ∀ e ∈ ops[i].after, Region.binds .any e = true → Ls L e.on := by
        intro e he hb
        have := h5 e he
        rw [hb] at this
        simpa [Ls] using this
      refine wpOp_mono ?_ (inv_step hz hcall hok hR hT hF hWd hI ho hnot hdeps)
      rintro a2 w2 ⟨ρ2, q2, hI2⟩
      refine ih _ a2 w2 ρ2 q2 ?_ hI2
      have := unl_set L.toList i (by simpa using hLf)
      rw [Array.toList_setIfInBounds]
      omega
  -- the start
  obtain ⟨q0, _, q2, q3, q4⟩ := nextOf (fun e => ∃ oe, ops[e]? = some oe ∧ isEff oe.op = true) ops.size 0 ops.size (by omega)
  have hext : Ext (Hs 0) (Hs q0) := by
    have := chain_ext hT2 q0 0 (by omega) (fun e oe h1 h2 h3 => by
      cases h4 : isEff oe.op with
      | false => rfl
      | true => exact absurd ⟨oe, h3, h4⟩ (q4 e (by omega) (by omega)))
    simpa using this
  obtain ⟨_, _, _, _, hWq, _⟩ := (hTx q0 q2).run
  have hno : ∀ i, ¬ Ls (Array.replicate ops.size false) i := by
    intro i h
    unfold Ls at h
    simp only [Array.getD_eq_getD_getElem?, Array.getElem?_replicate] at h
    split at h <;> simp at h
  have hunl : ∀ n, unl (List.replicate n false) = n := by
    intro n
    induction n with
    | zero => rfl
    | succ n ih => rw [List.replicate_succ]; simp [unl, ih]
  refine main ops.size _ a wd ρ q0 (by rw [Array.toList_replicate, hunl]; exact Nat.le_refl _) ?_
  refine ⟨by simp, fun i o _ h => absurd h (hno i), hF.size, rfl, ?_, hWd.later hext hWq.wf, ?_, q2, ?_, ?_, ?_, ?_⟩
  · rintro t v (⟨k, o, h1, _⟩ | ⟨_, h2⟩)
    · exact absurd h1 (hno k)
    · rw [h2]; exact hF.tmp t
  · have g := (hWd.refl).p
    exact ⟨hext.afr hWd.wf, g.rho, g.new, g.fresh, g.os, g.tape, g.output, g.size, g.frame⟩
  · intro e oe he hoe hee; exact absurd ⟨oe, hoe, hee⟩ (q4 e (by omega) he)
  · intro hq; exact ⟨q3 hq, hno q0⟩
  · intro b m hb; exact .inl (hWd.dom b m hb)
  · intro i b k h; exact absurd h (hno i)

end Go.Am

/-! What the abstract machine answers of a call, every run of the model answers. -/
namespace Go.Am
open Go
variable {P : Program}

def codeOk (P : Program) (N : Nat) : Code → Bool
  | .region _ ops draw => opsOk P N ops && (!draw || regOk ops)
  | .seq a b => codeOk P N a && codeOk P N b
  | .cond c t e => opOk P c && codeOk P N t && codeOk P N e
  | .block _ c => codeOk P N c
  | .loop c => codeOk P N c
  | .scope c => codeOk P N c
  | _ => true

def AEx.real : AEx → Exit
  | .normal => .normal
  | .exit id => .exit id
  | .ret => .ret

def CodeOk (P : Program) (N : Nat) (c : Code) (f : Fr → AH → Option (AEx × Fr × AH)) : Prop :=
  ∀ fr H ex fr' H' ρ a w (Q : Exit → Act → World → Prop), f fr H = some (ex, fr', H') → FrR ρ N fr a → DfR ρ fr a → WR P H ρ w.heap →
    (∀ a' w' ρ', FrR ρ' N fr' a' → WR P H' ρ' w'.heap → Grw H ρ w H' ρ' w' → DfR ρ' fr' a' → Q ex.real a' w') → c.wp P Q a w

theorem iter_ok {N : Nat} {c : Code} {f : Fr → AH → Option (AEx × Fr × AH)} (hc : CodeOk P N c f) : ∀ (n : Nat) fr H ex fr' H' ρ a w (Q : Exit → Act → World → Prop), iter f n fr H = some (ex, fr', H') → FrR ρ N fr a → DfR ρ fr a → WR P H ρ w.heap →
    (∀ a' w' ρ', FrR ρ' N fr' a' → WR P H' ρ' w'.heap → Grw H ρ w H' ρ' w' → DfR ρ' fr' a' → Q ex.real a' w') → Code.rounds P c Q n a w := by
  intro n
  induction n with
  | zero => intro fr H ex fr' H' ρ a w Q h; cases h
  | succ n ih =>
    intro fr H ex fr' H' ρ a w Q h hF hD hW hQ
    unfold iter at h
    rw [rounds_succ]
    split at h
    · rename_i fr1 H1 hf
      refine hc fr H _ fr1 H1 ρ a w _ hf hF hD hW ?_
      intro a' w' ρ' g1 g2 g3 g4
      refine ih fr1 H1 ex fr' H' ρ' a' w' Q h g1 g4 g2 ?_
      intro a'' w'' ρ'' k1 k2 k3 k4
      exact hQ a'' w'' ρ'' k1 k2 (g3.trans hW.dom hW.wf.base k3) k4
    · rename_i r hr
      refine hc fr H ex fr' H' ρ a w _ h hF hD hW ?_
      intro a' w' ρ' g1 g2 g3 g4
      have := hQ a' w' ρ' g1 g2 g3 g4
      cases ex with
      | normal => exact absurd h (hr fr' H')
      | exit id => exact this
      | ret => exact this

theorem code_ok (hz : ZOk P) {call : Callf} (hcall : CallOk P call) (hm : P.follows .mixedOrders = true) {N n : Nat} : ∀ (c : Code), codeOk P N c = true → CodeOk P N c (aCode P call n c) := by
  intro c
  induction c with
  | skip =>
    intro _ fr H ex fr' H' ρ a w Q h hF hD hW hQ
    simp only [aCode, Option.some.injEq, Prod.mk.injEq] at h
    obtain ⟨rfl, rfl, rfl⟩ := h
    exact wp_skip (hQ a w ρ hF hW hW.refl hD)
  | label l =>
    intro _ fr H ex fr' H' ρ a w Q h hF hD hW hQ
    simp only [aCode, Option.some.injEq, Prod.mk.injEq] at h
    obtain ⟨rfl, rfl, rfl⟩ := h
    exact wp_label (hQ a w ρ hF hW hW.refl hD)
  | exit id =>
    intro _ fr H ex fr' H' ρ a w Q h hF hD hW hQ
    simp only [aCode, Option.some.injEq, Prod.mk.injEq] at h
    obtain ⟨rfl, rfl, rfl⟩ := h
    exact wp_exit (hQ a w ρ hF hW hW.refl hD)
  | ret =>
    intro _ fr H ex fr' H' ρ a w Q h hF hD hW hQ
    simp only [aCode, Option.some.injEq, Prod.mk.injEq] at h
    obtain ⟨rfl, rfl, rfl⟩ := h
    exact wp_ret (hQ a w ρ hF hW hW.refl hD)
  | goto l => intro _ fr H ex fr' H' ρ a w Q h; cases h
  | rangeFunc f ps c1 c2 _ _ => intro _ fr H ex fr' H' ρ a w Q h; cases h
  | refuse s => intro _ fr H ex fr' H' ρ a w Q h; cases h
  | region id ops draw =>
    intro hok fr H ex fr' H' ρ a w Q h hF hD hW hQ
    simp only [codeOk, Bool.and_eq_true] at hok
    simp only [aCode] at h
    split at h
    · rename_i fr1 H1 hx
      cases h
      cases draw with
      | true => exact region_open hz hcall hm hok.1 (by simpa using hok.2) hx hF hW fun a' w' ρ' g1 g2 g3 g4 => hQ a' w' ρ' g1 g2 g3 ((hD.mono g3.rho).same (aOps_late _ _ _ _ _ (.inl rfl) hx) g4)
      | false => exact region_text hz hcall hok.1 hx hF hD hW hQ
    · cases h
  | seq x y ihx ihy =>
    intro hok fr H ex fr' H' ρ a w Q h hF hD hW hQ
    simp only [codeOk, Bool.and_eq_true] at hok
    simp only [aCode] at h
    apply wp_seq
    split at h
    · rename_i fr1 H1 hx
      refine ihx hok.1 fr H _ fr1 H1 ρ a w _ hx hF hD hW ?_
      intro a' w' ρ' g1 g2 g3 g4
      refine ihy hok.2 fr1 H1 ex fr' H' ρ' a' w' Q h g1 g4 g2 ?_
      intro a'' w'' ρ'' k1 k2 k3 k4
      exact hQ a'' w'' ρ'' k1 k2 (g3.trans hW.dom hW.wf.base k3) k4
    · rename_i r hr
      refine ihx hok.1 fr H ex fr' H' ρ a w _ h hF hD hW ?_
      intro a' w' ρ' g1 g2 g3 g4
      have := hQ a' w' ρ' g1 g2 g3 g4
      cases ex with
      | normal => exact absurd h (hr fr' H')
      | exit id => exact this
      | ret => exact this
  | cond c x y ihx ihy =>
    intro hok fr H ex fr' H' ρ a w Q h hF hD hW hQ
    simp only [codeOk, Bool.and_eq_true] at hok
    simp only [aCode] at h
    have hv := ev_ok hW hF hok.1.1
    split at h
    · rename_i hc
      rw [hc] at hv
      generalize he : a.eval c = z at hv
      cases hv
      exact wp_cond he (ihx hok.1.2 fr H ex fr' H' ρ a w Q h hF hD hW hQ)
    · rename_i hc
      rw [hc] at hv
      generalize he : a.eval c = z at hv
      cases hv
      exact wp_cond he (ihy hok.2 fr H ex fr' H' ρ a w Q h hF hD hW hQ)
    · cases h
  | block id c ih =>
    intro hok fr H ex fr' H' ρ a w Q h hF hD hW hQ
    simp only [codeOk] at hok
    simp only [aCode] at h
    apply wp_block
    split at h
    · rename_i id' fr1 H1 hx
      refine ih hok fr H _ fr1 H1 ρ a w _ hx hF hD hW ?_
      intro a' w' ρ' g1 g2 g3 g4
      split at h
      · rename_i hid
        have hid := T.beq_t.1 hid
        cases h
        show (if id' = id then Q .normal a' w' else Q (.exit id') a' w')
        rw [if_pos hid]
        exact hQ a' w' ρ' g1 g2 g3 g4
      · rename_i hid
        have hid := T.beq_f.1 hid
        cases h
        show (if id' = id then Q .normal a' w' else Q (.exit id') a' w')
        rw [if_neg hid]
        exact hQ a' w' ρ' g1 g2 g3 g4
    · rename_i r hr
      refine ih hok fr H ex fr' H' ρ a w _ h hF hD hW ?_
      intro a' w' ρ' g1 g2 g3 g4
      have := hQ a' w' ρ' g1 g2 g3 g4
      cases ex with
      | normal => exact this
      | exit id' => exact absurd h (hr id' fr' H')
      | ret => exact this
  | loop c ih =>
    intro hok fr H ex fr' H' ρ a w Q h hF hD hW hQ
    simp only [codeOk] at hok
    simp only [aCode] at h
    exact wp_loop_rounds n (iter_ok (ih hok) n fr H ex fr' H' ρ a w Q h hF hD hW hQ)
  | scope c ih =>
    intro hok fr H ex fr' H' ρ a w Q h hF hD hW hQ
    simp only [codeOk] at hok
    simp only [aCode] at h
    apply wp_scope_straight
    refine ih hok fr H ex fr' H' ρ a w _ h hF hD hW ?_
    intro a' w' ρ' g1 g2 g3 g4
    have := hQ a' w' ρ' g1 g2 g3 g4
    cases ex <;> exact this

/-! ### Results -/

def resS (tmps : Array Value) : ResultVar → Sem Value
  | .tmp t => pure (tmps.getD t Go.undef)
  | .cell a t => do loadVar t (← asAddr (tmps.getD a Go.undef))

theorem results_eq (fn : Func) (tmps : Array Value) : results fn tmps = (do
    let vs ← fn.results.mapM (resS tmps)
    pure (if h : vs.size = 1 then vs[0] else .tuple vs)) := by
  have : (fun x => match x with
    | ResultVar.tmp t => pure (tmps.getD t Go.undef)
    | ResultVar.cell a t => do loadVar t (← asAddr (tmps.getD a Go.undef)) : ResultVar → Sem Value) = resS tmps := by
    funext x; cases x <;> rfl
  rw [← this]
  rfl

theorem result_ok {N : Nat} {H : AH} {ρ : Rho} {w : World} (hW : WR P H ρ w.heap) {fr : Fr} {a : Act} (hF : FrR ρ N fr a) {r : ResultVar} {v : Value} (h : aResult P fr H r = some v) :
    Pu P ρ w (resS a.tmps r) v := by
  cases r with
  | tmp t => simp only [aResult, Option.some.injEq] at h; subst h; exact ⟨_, rfl, hF.tmp t⟩
  | cell x t =>
    simp only [aResult] at h
    have hx := hF.tmp x
    obtain ⟨v', h1, h2⟩ := load_ok (w := w) hW h hx
    refine ⟨v', ?_, h2⟩
    rw [← h1]
    have key : ∀ y z, VR ρ y z → aLoad P H t y = some v → (do loadVar t (← asAddr z) : Sem Value).run P w = (Instr.loadAt t z).run P w := by
      intro y z hyz hl
      unfold aLoad at hl
      split at hl
      · obtain ⟨m, hm, he⟩ := ptr_inv hyz
        rw [he]
        rfl
      · cases hl
    exact key _ _ hx h

theorem results_ok {N : Nat} {H : AH} {ρ : Rho} {w : World} (hW : WR P H ρ w.heap) {fr : Fr} {a : Act} (hF : FrR ρ N fr a) : ∀ (rs : List ResultVar) (vs : List Value), aResults P fr H rs = some vs →
    ∃ vs', (rs.mapM (resS a.tmps)).run P w = .ok vs' w ∧ LR ρ vs vs' := by
  intro rs
  induction rs with
  | nil => intro vs h; simp only [aResults, Option.some.injEq] at h; subst h; exact ⟨[], rfl, .nil⟩
  | cons r rs ih =>
    intro vs h
    unfold aResults at h
    split at h
    · rename_i v vs1 hv hvs
      cases h
      obtain ⟨v', h1, h2⟩ := result_ok hW hF hv
      obtain ⟨vs', h3, h4⟩ := ih vs1 hvs
      refine ⟨v' :: vs', ?_, .cons h2 h4⟩
      rw [List.mapM_cons]
      simp only [Sem.run_bind, h1, Result.andThen_ok, h3, Sem.run_pure]
    · cases h

theorem packed_ok {N : Nat} {H : AH} {ρ : Rho} {w : World} (hW : WR P H ρ w.heap) {fr : Fr} {a : Act} (hF : FrR ρ N fr a) {fn : Func} {vs : List Value} (h : aResults P fr H fn.results.toList = some vs) :
    ∃ v', (results fn a.tmps).run P w = .ok v' w ∧ VR ρ (packed vs) v' := by
  obtain ⟨vs', h1, h2⟩ := results_ok hW hF _ _ h
  rw [results_eq, Array.mapM_eq_mapM_toList]
  simp only [Sem.run_bind, Sem.run_map, h1, Result.andThen_ok, Sem.run_pure]
  refine ⟨_, rfl, ?_⟩
  cases h2 with
  | nil => simp only [packed]; exact VR.tuple_of .nil
  | cons hx ht =>
    cases ht with
    | nil => simpa [packed] using hx
    | cons hy ht =>
      simp only [packed]
      rw [dif_neg (by simp)]
      exact VR.tuple_of (by simpa using LR.cons hx (.cons hy ht))

/-! ### Calls -/

/-- What is asked of a function's text. -/
def fnOk (P : Program) (fn : Func) : Bool :=
  (match fn.name == "runtime.NumGoroutine" with | true => false | false => true) && (match fn.body with
    | some c => codeOk P fn.ntmps c
    | none => false)

structure Cfg.Ok (C : Cfg) : Prop where
  z : ZOk C.P
  mixed : C.P.follows .mixedOrders = true
  fn : ∀ f fn, C.fn f = some fn → C.P.funcs[f]? = some fn ∧ fnOk C.P fn = true
  orc : CallOk C.P C.orc

theorem frame_ok {ρ : Rho} {N : Nat} {args args' : List Value} (h : LR ρ args args') : FrR ρ N (T.ofList args 1 .nil) { tmps := args'.toArray ++ Array.replicate (N - args'.toArray.size) Go.undef, defers := [] } := by
  refine ⟨by simp; omega, fun t => ?_⟩
  have hl := h.length
  unfold Fr.at
  rw [T.get_ofList]
  simp only [Array.getD_eq_getD_getElem?]
  by_cases e : t < args.length
  · rw [if_pos (by omega), Nat.add_sub_cancel]
    obtain ⟨y, hy, hv⟩ := h.get_left (i := t) (x := args[t]) (List.getElem?_eq_getElem e)
    rw [List.getElem?_eq_getElem e]
    rw [Array.getElem?_append_left (by simp; omega)]
    have : args'.toArray[t]? = some y := by simpa using hy
    rw [this]; exact hv
  · rw [if_neg (by omega)]
    simp only [T.get]
    have : (args'.toArray ++ Array.replicate (N - args'.toArray.size) Go.undef)[t]?.getD Am.undef = Am.undef := by
      rw [Array.getElem?_append_right (by simp; omega)]
      rw [Array.getElem?_replicate]
      split <;> rfl
    rw [this]; exact VR.undef ρ

theorem late_ok0 {ρ : Rho} {args : List Value} {a : Act} (h : a.defers = []) : DfR ρ (T.ofList args 1 .nil) a := by
  refine ⟨#[], ?_, by simp [h]⟩
  have : Fr.late (T.ofList args 1 .nil) = .tuple #[] := by
    unfold Fr.late
    rw [T.get_ofList, if_neg (by omega)]
    rfl
  rw [this]
  exact VR.tuple_of .nil

/-- A body's run, up to the calls that it has put off. -/
theorem run_wp (hz : ZOk P) {call : Callf} (hcall : CallOk P call) (hm : P.follows .mixedOrders = true) {n : Nat} {fn : Func} {c : Code} (hb : fn.body = some c) (hok : codeOk P fn.ntmps c = true) {args args' : List Value} {H H' : AH} {fr : Fr} {ρ : Rho} {w : World}
    (h : aRun P call n fn args H = some (fr, H')) (hW : WR P H ρ w.heap) (hargs : LR ρ args args') {Q : Exit → Act → World → Prop}
    (hQ : ∀ a' w' ρ', FrR ρ' fn.ntmps fr a' → DfR ρ' fr a' → WR P H' ρ' w'.heap → Grw H ρ w H' ρ' w' → Q .normal a' w' ∧ Q .ret a' w') :
    c.wp P Q { tmps := args'.toArray ++ Array.replicate (fn.ntmps - args'.toArray.size) Go.undef, defers := [] } w := by
  unfold aRun at h
  rw [hb] at h
  simp only at h
  have hF := frame_ok (N := fn.ntmps) hargs
  split at h
  · rename_i fr1 H1 hx
    cases h
    exact code_ok hz hcall hm c hok _ H _ fr H' ρ _ w _ hx hF (late_ok0 rfl) hW fun a' w' ρ' g1 g2 g3 g4 => (hQ a' w' ρ' g1 g4 g2 g3).1
  · rename_i fr1 H1 hx
    cases h
    exact code_ok hz hcall hm c hok _ H _ fr H' ρ _ w _ hx hF (late_ok0 rfl) hW fun a' w' ρ' g1 g2 g3 g4 => (hQ a' w' ρ' g1 g4 g2 g3).2
  · cases h

theorem fnOk_spec {fn : Func} (h : fnOk P fn = true) : fn.name ≠ "runtime.NumGoroutine" ∧ ∃ c, fn.body = some c ∧ codeOk P fn.ntmps c = true := by
  unfold fnOk at h
  simp only [Bool.and_eq_true] at h
  obtain ⟨h1, h2⟩ := h
  refine ⟨by intro e; rw [e] at h1; simp at h1, ?_⟩
  cases hb : fn.body with
  | none => rw [hb] at h2; cases h2
  | some c => rw [hb] at h2; exact ⟨c, rfl, h2⟩

/-- The calls that were put off. -/
theorem late_ok (hz : ZOk P) {call : Callf} (hcall : CallOk P call) (hm : P.follows .mixedOrders = true) {fnOf : Nat → Option Func} (hfn : ∀ f fn, fnOf f = some fn → P.funcs[f]? = some fn ∧ fnOk P fn = true) {n : Nat} {fn : Func} {tmps : Array Value} {R : Ending → World → Prop} :
    ∀ (vs vs' : List Value) (H H2 : AH) (ρ : Rho) (w : World), 0 < H.base → aLate P call fnOf n vs H = some H2 → LR ρ vs vs' → WR P H ρ w.heap →
      (∀ w2 ρ2, WR P H2 ρ2 w2.heap → Grw H ρ w H2 ρ2 w2 → ∃ v, (results fn tmps).run P w2 = .ok v w2 ∧ R (.returned v) w2) → Leaves P fn tmps R (vs'.map lateOf) .returning w := by
  intro vs
  induction vs with
  | nil =>
    intro vs' H H2 ρ w _ h hv hW hR
    cases hv
    simp only [aLate, Option.some.injEq] at h
    subst h
    exact hR w ρ hW hW.refl
  | cons v vs ih =>
    intro vs' H H2 ρ w hbase h hv hW hR
    cases hv with
    | @cons _ v' _ vs' hv ht =>
    unfold aLate at h
    split at h
    · rename_i k args cap
      obtain ⟨args', cap', rfl, ha, hc⟩ := hv.func_inv
      split at h
      · rename_i g hg
        obtain ⟨hP, hok⟩ := hfn k g hg
        obtain ⟨hnm, c, hb, hcok⟩ := fnOk_spec hok
        split at h
        · rename_i fr H1 hrun
          split at h
          · rename_i us rs hl hres
            split at h
            · rename_i hus
              have hus : us.toList = [] := by simpa using hus
              have hl' : LR ρ (args.toList ++ cap.toList) (args'.toList ++ cap'.toList) := ha.append hc
              have hinv : (invoke (.fn (.func k) cap') args').run P w = .ok (.enter k (args' ++ cap')) w := by
                show (callFunc k (args' ++ cap')).run P w = _
                exact run_callFunc ⟨g, hP, hnm, by rw [hb]; rfl⟩ _ w
              show Leaves P fn tmps R ({ target := .fn (.func k) cap', args := args' } :: vs'.map lateOf) .returning w
              refine leaves_cons (by simp) hinv ?_
              have hwp := run_wp hz hcall hm hb hcok hrun hW hl' (Q := bodyPost P g fun e w' => ∃ v ρ', e = .returned v ∧ WR P H1 ρ' w'.heap ∧ Grw H ρ w H1 ρ' w') (by
                intro a' w' ρ' g1 g2 g3 g4
                obtain ⟨v1, k1, k2⟩ := packed_ok g3 g1 hres
                obtain ⟨ws, k3, k4⟩ := g2
                rw [hl] at k3
                obtain ⟨ys, hy, hy2⟩ := k3.tuple_inv
                cases hy
                rw [hus] at hy2
                have hd : a'.defers = [] := by
                  rw [k4]
                  cases hw : ws.toList with
                  | nil => rfl
                  | cons _ _ => rw [hw] at hy2; cases hy2
                exact ⟨⟨hd, v1, k1, v1, ρ', rfl, g3, g4⟩, ⟨hd, v1, k1, v1, ρ', rfl, g3, g4⟩⟩)
              have e1 : (args'.toList ++ cap'.toList).toArray = args' ++ cap' := by apply Array.ext'; simp
              rw [e1] at hwp
              refine (callsD_of_wp (u := .returning) hP hb hwp).mono ?_
              rintro e u' w' ⟨rfl, v1, ρ', rfl, g3, g4⟩
              show Leaves P fn tmps R (vs'.map lateOf) .returning w'
              refine ih vs' H1 H2 ρ' w' (by rw [g4.afr.base]; exact hbase) h (ht.mono g4.rho) g3 ?_
              intro w2 ρ2 k1 k2
              exact hR w2 ρ2 k1 (g4.trans hW.dom hbase k2)
            · cases h
          · cases h
        · cases h
      · cases h
    · cases h

theorem call_ok {C : Cfg} (hC : C.Ok) : ∀ n, CallOk C.P (aCall C n) := by
  intro n
  induction n with
  | zero => intro f args H v H' h; cases h
  | succ n ih =>
    intro f args H v H' h
    unfold aCall at h
    split at h
    · rename_i r ho
      cases h
      exact hC.orc f args H v H' ho
    · split at h
      · rename_i fn hf
        obtain ⟨hP, hfn⟩ := hC.fn f fn hf
        obtain ⟨hnm, c, hb, hcok⟩ := fnOk_spec hfn
        unfold aBody at h
        split at h
        · rename_i fr H1 hrun
          split at h
          · rename_i us hl
            split at h
            · rename_i H2 hlate
              split at h
              · rename_i vs hvs
                cases h
                intro ρ w args' hW hargs
                refine .inl ⟨⟨fn, hP, hnm, by rw [hb]; rfl⟩, ?_⟩
                refine calls_of_wp_defers hP hb ?_
                refine run_wp hC.z ih hC.mixed hb hcok hrun hW hargs ?_
                intro a' w' ρ' g1 g2 g3 g4
                obtain ⟨ws, k3, k4⟩ := g2
                rw [hl] at k3
                obtain ⟨ys, hy, hy2⟩ := k3.tuple_inv
                cases hy
                have key : Leaves C.P fn a'.tmps (CallPost C.P H ρ w (packed vs) H') a'.defers .returning w' := by
                  rw [k4]
                  refine late_ok hC.z ih hC.mixed hC.fn us.toList ws.toList H1 H' ρ' w' (by rw [g4.afr.base]; exact hW.wf.base) hlate hy2 g3 ?_
                  intro w2 ρ2 m1 m2
                  obtain ⟨v', n1, n2⟩ := packed_ok m1 (g1.mono m2.rho) hvs
                  exact ⟨v', n1, v', ρ2, rfl, n2, m1, g4.trans hW.dom hW.wf.base m2⟩
                exact ⟨key, key⟩
              · cases h
            · cases h
          · cases h
        · cases h
      · cases h

end Go.Am

/-! The abstract machine without its count of rounds: what a call comes to, as conditions that can be reckoned step by step. -/
namespace Go.Am
open Go

/-! ### More rounds, the same answer -/

def Callf.le (c c' : Callf) : Prop := ∀ f args H r, c f args H = some r → c' f args H = some r

theorem aVal_mono {P : Program} {c c' : Callf} (h : c.le c') {fence : Bool} {ops : Array Oper} {fr : Fr} {H : AH} {o : Oper} {r : Value × AH} (hr : aVal P c fence ops fr H o = some r) : aVal P c' fence ops fr H o = some r := by
  unfold aVal at hr ⊢
  split at hr
  · split at hr
    · exact hr
    · cases fence with
      | true =>
        simp only at hr ⊢
        split at hr
        · rename_i v H' hc
          rw [h _ _ _ _ hc]; exact hr
        · cases hr
      | false => exact h _ _ _ _ hr
    · cases hr
  · exact hr

theorem aOps_mono {P : Program} {c c' : Callf} (h : c.le c') {fence : Bool} {ops : Array Oper} : ∀ (l : List Oper) (fr : Fr) (H : AH) (r : Fr × AH), aOps P c fence ops l fr H = some r → aOps P c' fence ops l fr H = some r := by
  intro l
  induction l with
  | nil => intro fr H r h; exact h
  | cons o l ih =>
    intro fr H r hr
    rw [aOps_cons] at hr ⊢
    split at hr
    · rename_i v H' hv
      rw [aVal_mono h hv]
      exact ih _ _ _ hr
    · split at hr
      · rename_i hc
        have hc' := hc
        simp only [Bool.and_eq_true, Option.isNone_iff_eq_none] at hc'
        have hn : aVal P c' fence ops fr H o = none := by unfold aVal; rw [hc'.1.1]; simp only [hc'.1.2]
        rw [hn]
        try simp only [hc]
        split at hr
        · rename_i fr1 hd
          try simp only [hd]
          exact ih _ _ _ hr
        · cases hr
      · cases hr

theorem iter_mono {f f' : Fr → AH → Option (AEx × Fr × AH)} (h : ∀ fr H r, f fr H = some r → f' fr H = some r) : ∀ (n m : Nat), n ≤ m → ∀ fr H r, iter f n fr H = some r → iter f' m fr H = some r := by
  intro n
  induction n with
  | zero => intro m _ fr H r hr; cases hr
  | succ n ih =>
    intro m hm fr H r hr
    obtain ⟨m, rfl⟩ : ∃ k, m = k + 1 := ⟨m - 1, by omega⟩
    unfold iter at hr ⊢
    split at hr
    · rename_i fr1 H1 hf
      rw [h _ _ _ hf]
      exact ih m (by omega) _ _ _ hr
    · rename_i r' hne
      rw [h _ _ _ hr]
      obtain ⟨ex, fr', H'⟩ := r
      cases ex with
      | normal => exact absurd hr (hne fr' H')
      | exit id => rfl
      | ret => rfl

theorem aCode_mono {P : Program} {c c' : Callf} (h : c.le c') {n m : Nat} (hn : n ≤ m) : ∀ (k : Code) (fr : Fr) (H : AH) (r : AEx × Fr × AH), aCode P c n k fr H = some r → aCode P c' m k fr H = some r := by
  intro k
  induction k with
  | skip => intro fr H r hr; exact hr
  | label l => intro fr H r hr; exact hr
  | exit id => intro fr H r hr; exact hr
  | ret => intro fr H r hr; exact hr
  | goto l => intro fr H r hr; cases hr
  | rangeFunc f ps c1 c2 _ _ => intro fr H r hr; cases hr
  | refuse s => intro fr H r hr; cases hr
  | region id ops draw =>
    intro fr H r hr
    simp only [aCode] at hr ⊢
    split at hr
    · rename_i fr1 H1 ho
      rw [aOps_mono h _ _ _ _ ho]; exact hr
    · cases hr
  | seq a b iha ihb =>
    intro fr H r hr
    simp only [aCode] at hr ⊢
    split at hr
    · rename_i fr1 H1 ha
      rw [iha _ _ _ ha]
      exact ihb _ _ _ hr
    · rename_i r' hne
      rw [iha _ _ _ hr]
      obtain ⟨ex, fr', H'⟩ := r
      cases ex with
      | normal => exact absurd hr (hne fr' H')
      | exit id => rfl
      | ret => rfl
  | cond x a b iha ihb =>
    intro fr H r hr
    simp only [aCode] at hr ⊢
    split at hr
    · exact iha _ _ _ hr
    · exact ihb _ _ _ hr
    · cases hr
  | block id a iha =>
    intro fr H r hr
    simp only [aCode] at hr ⊢
    split at hr
    · rename_i id' fr1 H1 ha
      rw [iha _ _ _ ha]; exact hr
    · rename_i r' hne
      rw [iha _ _ _ hr]
      obtain ⟨ex, fr', H'⟩ := r
      cases ex with
      | normal => rfl
      | exit id' => exact absurd hr (hne id' fr' H')
      | ret => rfl
  | loop a iha =>
    intro fr H r hr
    simp only [aCode] at hr ⊢
    exact iter_mono iha n m hn fr H r hr
  | scope a iha => intro fr H r hr; exact iha _ _ _ hr

theorem aRun_mono {P : Program} {c c' : Callf} (h : c.le c') {n m : Nat} (hn : n ≤ m) {fn : Func} {args : List Value} {H : AH} {r : Fr × AH} (hr : aRun P c n fn args H = some r) : aRun P c' m fn args H = some r := by
  unfold aRun at hr ⊢
  cases hb : fn.body with
  | none => rw [hb] at hr; cases hr
  | some k =>
    rw [hb] at hr
    simp only at hr ⊢
    split at hr
    · rename_i fr H' hx; rw [aCode_mono h hn _ _ _ _ hx]; exact hr
    · rename_i fr H' hx; rw [aCode_mono h hn _ _ _ _ hx]; exact hr
    · cases hr

theorem aLate_mono {P : Program} {c c' : Callf} (h : c.le c') {fnOf : Nat → Option Func} {n m : Nat} (hn : n ≤ m) : ∀ (vs : List Value) (H : AH) (r : AH), aLate P c fnOf n vs H = some r → aLate P c' fnOf m vs H = some r := by
  intro vs
  induction vs with
  | nil => intro H r hr; exact hr
  | cons v vs ih =>
    intro H r hr
    unfold aLate at hr ⊢
    split at hr
    · split at hr
      · rename_i fn hf
        try simp only [hf]
        split at hr
        · rename_i fr H' hx
          rw [aRun_mono h hn hx]
          simp only
          split at hr
          · rename_i us rs h1 h2
            try simp only [h1, h2]
            split at hr
            · rename_i h3
              try simp only [h3]
              exact ih _ _ hr
            · cases hr
          · cases hr
        · cases hr
      · cases hr
    · cases hr

theorem aBody_mono {P : Program} {c c' : Callf} (h : c.le c') {fnOf : Nat → Option Func} {n m : Nat} (hn : n ≤ m) {fn : Func} {args : List Value} {H : AH} {r : Value × AH} (hr : aBody P c fnOf n fn args H = some r) : aBody P c' fnOf m fn args H = some r := by
  unfold aBody at hr ⊢
  split at hr
  · rename_i fr H' hx
    rw [aRun_mono h hn hx]
    simp only
    split at hr
    · rename_i us h1
      try simp only [h1]
      split at hr
      · rename_i H2 h2
        rw [aLate_mono h hn _ _ _ h2]
        exact hr
      · cases hr
    · cases hr
  · cases hr

theorem aCall_mono (C : Cfg) : ∀ n m, n ≤ m → (aCall C n).le (aCall C m) := by
  intro n
  induction n with
  | zero => intro m _ f args H r h; cases h
  | succ n ih =>
    intro m hm f args H r h
    obtain ⟨m, rfl⟩ : ∃ k, m = k + 1 := ⟨m - 1, by omega⟩
    have hle := ih m (by omega)
    unfold aCall at h ⊢
    cases ho : C.orc f args H with
    | some r0 => rw [ho] at h; exact h
    | none =>
      rw [ho] at h
      simp only at h ⊢
      cases hf : C.fn f with
      | none => rw [hf] at h; cases h
      | some fn =>
        rw [hf] at h
        simp only at h ⊢
        exact aBody_mono hle (by omega) h

/-! ### What a call, an operation, a text comes to -/

/-- A call comes to an answer and a heap of which Q holds. -/
def Wf (C : Cfg) (f : FuncId) (args : List Value) (H : AH) (Q : Value → AH → Prop) : Prop := ∃ n v H', aCall C n f args H = some (v, H') ∧ Q v H'

def Wv (C : Cfg) (draw : Bool) (ops : Array Oper) (fr : Fr) (H : AH) (o : Oper) (K : Value → AH → Prop) : Prop :=
  match aWanted ops fr o with
  | false => K undef H
  | true => match aOp C.P fr H o with
    | some (.val v H') => K v H'
    | some (.enter f args) => match draw with
      | false => Wf C f args H K
      | true => Wf C f args (H.wb H.next) fun v H' => K v (H'.wb H.base)
    | none => False

def Wo (C : Cfg) (draw : Bool) (ops : Array Oper) : List Oper → Fr → AH → (Fr → AH → Prop) → Prop
  | [], fr, H, K => K fr H
  | o :: rest, fr, H, K => Wv C draw ops fr H o fun v H' => Wo C draw ops rest (fr.put o.dst v) H' K

def Wr (W : Fr → AH → (AEx → Fr → AH → Prop) → Prop) (Q : AEx → Fr → AH → Prop) : Nat → Fr → AH → Prop
  | 0, _, _ => False
  | n + 1, fr, H => W fr H fun ex fr' H' => match ex with
    | .normal => Wr W Q n fr' H'
    | .exit id => Q (.exit id) fr' H'
    | .ret => Q .ret fr' H'

def Wc (C : Cfg) : Code → Fr → AH → (AEx → Fr → AH → Prop) → Prop
  | .skip, fr, H, Q => Q .normal fr H
  | .label _, fr, H, Q => Q .normal fr H
  | .region _ ops draw, fr, H, Q => Wo C draw ops ops.toList fr H (Q .normal)
  | .seq a b, fr, H, Q => Wc C a fr H fun ex fr' H' => match ex with
    | .normal => Wc C b fr' H' Q
    | .exit id => Q (.exit id) fr' H'
    | .ret => Q .ret fr' H'
  | .cond c t e, fr, H, Q => match ev fr c with
    | .bool true => Wc C t fr H Q
    | .bool false => Wc C e fr H Q
    | _ => False
  | .block id c, fr, H, Q => Wc C c fr H fun ex fr' H' => match ex with
    | .normal => Q .normal fr' H'
    | .exit id' => match id'.beq id with
      | true => Q .normal fr' H'
      | false => Q (.exit id') fr' H'
    | .ret => Q .ret fr' H'
  | .loop c, fr, H, Q => ∃ n, Wr (Wc C c) Q n fr H
  | .exit id, fr, H, Q => Q (.exit id) fr H
  | .scope c, fr, H, Q => Wc C c fr H Q
  | .ret, fr, H, Q => Q .ret fr H
  | _, _, _, _ => False

theorem Wo_sound {C : Cfg} {draw : Bool} {ops : Array Oper} : ∀ (l : List Oper) (fr : Fr) (H : AH) (K : Fr → AH → Prop), Wo C draw ops l fr H K →
    ∃ n fr' H', aOps C.P (aCall C n) draw ops l fr H = some (fr', H') ∧ K fr' H' := by
  intro l
  induction l with
  | nil => intro fr H K h; exact ⟨0, fr, H, rfl, h⟩
  | cons o l ih =>
    intro fr H K h
    have step : ∀ v H' n, aVal C.P (aCall C n) draw ops fr H o = some (v, H') → Wo C draw ops l (fr.put o.dst v) H' K → ∃ n fr' H', aOps C.P (aCall C n) draw ops (o :: l) fr H = some (fr', H') ∧ K fr' H' := by
      intro v H' n hv hw
      obtain ⟨m, fr', H'', h1, h2⟩ := ih _ _ _ hw
      refine ⟨max n m, fr', H'', ?_, h2⟩
      rw [aOps_cons, aVal_mono (aCall_mono C n (max n m) (Nat.le_max_left _ _)) hv]
      exact aOps_mono (aCall_mono C m (max n m) (Nat.le_max_right _ _)) _ _ _ _ h1
    simp only [Wo, Wv] at h
    cases hw : aWanted ops fr o with
    | false =>
      rw [hw] at h
      exact step undef H 0 (by unfold aVal; rw [hw]) h
    | true =>
      rw [hw] at h
      simp only at h
      cases ho : aOp C.P fr H o with
      | none => rw [ho] at h; exact h.elim
      | some r =>
        rw [ho] at h
        cases r with
        | val v H' => exact step v H' 0 (by unfold aVal; rw [hw, ho]) h
        | enter f args =>
          simp only at h
          cases draw with
          | false =>
            obtain ⟨n, v, H', h1, h2⟩ := h
            exact step v H' n (by unfold aVal; rw [hw, ho]; exact h1) h2
          | true =>
            obtain ⟨n, v, H', h1, h2⟩ := h
            exact step v (H'.wb H.base) n (by unfold aVal; rw [hw, ho]; simp only [h1]) h2

theorem Wr_sound {C : Cfg} {c : Code} (ih : ∀ (fr : Fr) (H : AH) (Q : AEx → Fr → AH → Prop), Wc C c fr H Q → ∃ n ex fr' H', aCode C.P (aCall C n) n c fr H = some (ex, fr', H') ∧ Q ex fr' H') :
    ∀ (k : Nat) (fr : Fr) (H : AH) (Q : AEx → Fr → AH → Prop), Wr (Wc C c) Q k fr H → ∃ n ex fr' H', iter (aCode C.P (aCall C n) n c) n fr H = some (ex, fr', H') ∧ Q ex fr' H' := by
  intro k
  induction k with
  | zero => intro fr H Q h; exact h.elim
  | succ k ihk =>
    intro fr H Q h
    unfold Wr at h
    obtain ⟨n, ex, fr', H', h1, h2⟩ := ih _ _ _ h
    cases ex with
    | normal =>
      obtain ⟨m, ex, fr'', H'', h3, h4⟩ := ihk _ _ _ h2
      refine ⟨max n m + 1, ex, fr'', H'', ?_, h4⟩
      have hn : ∀ fr H r, aCode C.P (aCall C n) n c fr H = some r → aCode C.P (aCall C (max n m + 1)) (max n m + 1) c fr H = some r := aCode_mono (aCall_mono C _ _ (by omega)) (by omega) c
      have hm : ∀ fr H r, aCode C.P (aCall C m) m c fr H = some r → aCode C.P (aCall C (max n m + 1)) (max n m + 1) c fr H = some r := aCode_mono (aCall_mono C _ _ (by omega)) (by omega) c
      unfold iter
      rw [hn _ _ _ h1]
      exact iter_mono hm m (max n m) (by omega) _ _ _ h3
    | exit id =>
      refine ⟨n + 1, .exit id, fr', H', ?_, h2⟩
      have hn := aCode_mono (P := C.P) (aCall_mono C n (n + 1) (by omega)) (show n ≤ n + 1 by omega) c _ _ _ h1
      unfold iter
      rw [hn]
    | ret =>
      refine ⟨n + 1, .ret, fr', H', ?_, h2⟩
      have hn := aCode_mono (P := C.P) (aCall_mono C n (n + 1) (by omega)) (show n ≤ n + 1 by omega) c _ _ _ h1
      unfold iter
      rw [hn]

theorem Wc_sound {C : Cfg} : ∀ (c : Code) (fr : Fr) (H : AH) (Q : AEx → Fr → AH → Prop), Wc C c fr H Q → ∃ n ex fr' H', aCode C.P (aCall C n) n c fr H = some (ex, fr', H') ∧ Q ex fr' H' := by
  intro c
  induction c with
  | skip => intro fr H Q h; exact ⟨0, .normal, fr, H, rfl, h⟩
  | label l => intro fr H Q h; exact ⟨0, .normal, fr, H, rfl, h⟩
  | exit id => intro fr H Q h; exact ⟨0, .exit id, fr, H, rfl, h⟩
  | ret => intro fr H Q h; exact ⟨0, .ret, fr, H, rfl, h⟩
  | goto l => intro fr H Q h; exact h.elim
  | rangeFunc f ps c1 c2 _ _ => intro fr H Q h; exact h.elim
  | refuse s => intro fr H Q h; exact h.elim
  | region id ops draw =>
    intro fr H Q h
    obtain ⟨n, fr', H', h1, h2⟩ := Wo_sound _ _ _ _ h
    exact ⟨n, .normal, fr', H', by simp only [aCode, h1], h2⟩
  | seq a b iha ihb =>
    intro fr H Q h
    obtain ⟨n, ex, fr', H', h1, h2⟩ := iha _ _ _ h
    cases ex with
    | normal =>
      obtain ⟨m, ex, fr'', H'', h3, h4⟩ := ihb _ _ _ h2
      refine ⟨max n m, ex, fr'', H'', ?_, h4⟩
      simp only [aCode]
      rw [aCode_mono (aCall_mono C n _ (Nat.le_max_left n m)) (Nat.le_max_left n m) _ _ _ _ h1]
      exact aCode_mono (aCall_mono C m _ (Nat.le_max_right n m)) (Nat.le_max_right n m) _ _ _ _ h3
    | exit id => exact ⟨n, .exit id, fr', H', by simp only [aCode, h1], h2⟩
    | ret => exact ⟨n, .ret, fr', H', by simp only [aCode, h1], h2⟩
  | cond x a b iha ihb =>
    intro fr H Q h
    simp only [Wc] at h
    split at h
    · rename_i hx
      obtain ⟨n, ex, fr', H', h1, h2⟩ := iha _ _ _ h
      exact ⟨n, ex, fr', H', by simp only [aCode, hx, h1], h2⟩
    · rename_i hx
      obtain ⟨n, ex, fr', H', h1, h2⟩ := ihb _ _ _ h
      exact ⟨n, ex, fr', H', by simp only [aCode, hx, h1], h2⟩
    · exact h.elim
  | block id a iha =>
    intro fr H Q h
    obtain ⟨n, ex, fr', H', h1, h2⟩ := iha _ _ _ h
    cases ex with
    | normal => exact ⟨n, .normal, fr', H', by simp only [aCode, h1], h2⟩
    | exit id' =>
      simp only at h2
      cases hid : id'.beq id with
      | true => rw [hid] at h2; exact ⟨n, .normal, fr', H', by simp only [aCode, h1, hid], h2⟩
      | false => rw [hid] at h2; exact ⟨n, .exit id', fr', H', by simp only [aCode, h1, hid], h2⟩
    | ret => exact ⟨n, .ret, fr', H', by simp only [aCode, h1], h2⟩
  | loop a iha =>
    intro fr H Q h
    obtain ⟨k, hk⟩ := h
    obtain ⟨n, ex, fr', H', h1, h2⟩ := Wr_sound iha k _ _ _ hk
    exact ⟨n, ex, fr', H', by simp only [aCode]; exact h1, h2⟩
  | scope a iha => intro fr H Q h; exact iha _ _ _ h

/-- a text that puts no call off -/
def noD : Code → Bool
  | .region _ ops _ => ops.toList.all opNoD
  | .seq a b => noD a && noD b
  | .cond _ a b => noD a && noD b
  | .block _ c => noD c
  | .loop c => noD c
  | .scope c => noD c
  | _ => true

theorem iter_late {f : Fr → AH → Option (AEx × Fr × AH)} (h : ∀ fr H ex fr' H', f fr H = some (ex, fr', H') → fr'.late = fr.late) : ∀ (n : Nat) fr H ex fr' H', iter f n fr H = some (ex, fr', H') → fr'.late = fr.late := by
  intro n
  induction n with
  | zero => intro fr H ex fr' H' hr; cases hr
  | succ n ih =>
    intro fr H ex fr' H' hr
    unfold iter at hr
    split at hr
    · rename_i fr1 H1 hf
      rw [ih _ _ _ _ _ hr, h _ _ _ _ _ hf]
    · exact h _ _ _ _ _ hr

theorem aCode_late {P : Program} {call : Callf} {n : Nat} : ∀ (c : Code), noD c = true → ∀ (fr : Fr) (H : AH) (ex : AEx) (fr' : Fr) (H' : AH), aCode P call n c fr H = some (ex, fr', H') → fr'.late = fr.late := by
  intro c
  induction c with
  | skip => intro _ fr H ex fr' H' h; simp only [aCode, Option.some.injEq, Prod.mk.injEq] at h; rw [h.2.1]
  | label l => intro _ fr H ex fr' H' h; simp only [aCode, Option.some.injEq, Prod.mk.injEq] at h; rw [h.2.1]
  | exit id => intro _ fr H ex fr' H' h; simp only [aCode, Option.some.injEq, Prod.mk.injEq] at h; rw [h.2.1]
  | ret => intro _ fr H ex fr' H' h; simp only [aCode, Option.some.injEq, Prod.mk.injEq] at h; rw [h.2.1]
  | goto l => intro _ fr H ex fr' H' h; cases h
  | rangeFunc f ps c1 c2 _ _ => intro _ fr H ex fr' H' h; cases h
  | refuse s => intro _ fr H ex fr' H' h; cases h
  | region id ops draw =>
    intro hd fr H ex fr' H' h
    simp only [aCode] at h
    split at h
    · rename_i fr1 H1 hx
      cases h
      exact aOps_late _ _ _ _ _ (.inr hd) hx
    · cases h
  | seq a b iha ihb =>
    intro hd fr H ex fr' H' h
    simp only [noD, Bool.and_eq_true] at hd
    simp only [aCode] at h
    split at h
    · rename_i fr1 H1 hx
      rw [ihb hd.2 _ _ _ _ _ h, iha hd.1 _ _ _ _ _ hx]
    · exact iha hd.1 _ _ _ _ _ h
  | cond x a b iha ihb =>
    intro hd fr H ex fr' H' h
    simp only [noD, Bool.and_eq_true] at hd
    simp only [aCode] at h
    split at h
    · exact iha hd.1 _ _ _ _ _ h
    · exact ihb hd.2 _ _ _ _ _ h
    · cases h
  | block id a iha =>
    intro hd fr H ex fr' H' h
    simp only [noD] at hd
    simp only [aCode] at h
    split at h
    · rename_i id' fr1 H1 hx
      split at h <;> (cases h; exact iha hd _ _ _ _ _ hx)
    · exact iha hd _ _ _ _ _ h
  | loop a iha =>
    intro hd fr H ex fr' H' h
    simp only [noD] at hd
    simp only [aCode] at h
    exact iter_late (iha hd) _ _ _ _ _ _ h
  | scope a iha =>
    intro hd fr H ex fr' H' h
    simp only [noD] at hd
    exact iha hd _ _ _ _ _ h

theorem late_args (args : List Value) : Fr.late (T.ofList args 1 .nil) = undef := by
  unfold Fr.late
  rw [T.get_ofList, if_neg (by omega)]
  rfl

/-- A call, by its text. -/
theorem Wf_text {C : Cfg} {f : FuncId} {args : List Value} {H : AH} {Q : Value → AH → Prop} {fn : Func} {c : Code} (ho : C.orc f args H = none) (hf : C.fn f = some fn) (hb : fn.body = some c) (hd : noD c = true)
    (h : Wc C c (T.ofList args 1 .nil) H fun ex fr' H' => (match ex with | .exit _ => False | _ => True) ∧ ∃ vs, aResults C.P fr' H' fn.results.toList = some vs ∧ Q (packed vs) H') : Wf C f args H Q := by
  obtain ⟨n, ex, fr', H', h1, h2, vs, h3, h4⟩ := Wc_sound _ _ _ _ h
  refine ⟨n + 1, packed vs, H', ?_, h4⟩
  have hr : aRun C.P (aCall C n) n fn args H = some (fr', H') := by
    unfold aRun
    rw [hb]
    simp only [h1]
    cases ex with
    | normal => rfl
    | exit id => exact h2.elim
    | ret => rfl
  have hl : fr'.late = .tuple #[] := (aCode_late c hd _ _ _ _ _ h1).trans (late_args args)
  unfold aCall
  simp only [ho, hf]
  unfold aBody
  rw [hr]
  simp only [hl, aLate, h3]

/-- A call that is answered without being run. -/
theorem Wf_orc {C : Cfg} {f : FuncId} {args : List Value} {H H' : AH} {v : Value} {Q : Value → AH → Prop} (ho : C.orc f args H = some (v, H')) (h : Q v H') : Wf C f args H Q :=
  ⟨1, v, H', by unfold aCall; simp only [ho], h⟩

theorem Wf.mono {C : Cfg} {f : FuncId} {args : List Value} {H : AH} {Q Q' : Value → AH → Prop} (h : Wf C f args H Q) (hq : ∀ v H', Q v H' → Q' v H') : Wf C f args H Q' :=
  let ⟨n, v, H', h1, h2⟩ := h; ⟨n, v, H', h1, hq v H' h2⟩

/-! Each of these has one outcome. -/

theorem Wo_pick {C : Cfg} {draw : Bool} {ops : Array Oper} : ∀ (l : List Oper) (fr : Fr) (H : AH) (K : Fr → AH → Prop), Wo C draw ops l fr H K →
    ∃ fr' H', K fr' H' ∧ ∀ K' : Fr → AH → Prop, K' fr' H' → Wo C draw ops l fr H K' := by
  intro l
  induction l with
  | nil => intro fr H K h; exact ⟨fr, H, h, fun K' h' => h'⟩
  | cons o l ih =>
    intro fr H K h
    simp only [Wo, Wv] at h ⊢
    cases hw : aWanted ops fr o with
    | false => rw [hw] at h; simp only at h ⊢; exact ih _ _ _ h
    | true =>
      rw [hw] at h
      simp only at h ⊢
      cases ho : aOp C.P fr H o with
      | none => rw [ho] at h; exact h.elim
      | some r =>
        rw [ho] at h
        cases r with
        | val v H' => exact ih _ _ _ h
        | enter f args =>
          cases draw with
          | false =>
            obtain ⟨n, v, H', h1, h2⟩ := h
            obtain ⟨fr', H'', h3, h4⟩ := ih _ _ _ h2
            exact ⟨fr', H'', h3, fun K' hk => ⟨n, v, H', h1, h4 K' hk⟩⟩
          | true =>
            obtain ⟨n, v, H', h1, h2⟩ := h
            obtain ⟨fr', H'', h3, h4⟩ := ih _ _ _ h2
            exact ⟨fr', H'', h3, fun K' hk => ⟨n, v, H', h1, h4 K' hk⟩⟩

def Picks (W : Fr → AH → (AEx → Fr → AH → Prop) → Prop) : Prop := ∀ (fr : Fr) (H : AH) (Q : AEx → Fr → AH → Prop), W fr H Q → ∃ ex fr' H', Q ex fr' H' ∧ ∀ Q' : AEx → Fr → AH → Prop, Q' ex fr' H' → W fr H Q'

theorem Wr_pick {W : Fr → AH → (AEx → Fr → AH → Prop) → Prop} (hW : Picks W) : ∀ k, Picks (fun fr H Q => Wr W Q k fr H) := by
  intro k
  induction k with
  | zero => intro fr H Q h; exact h.elim
  | succ k ih =>
    intro fr H Q h
    unfold Wr at h
    obtain ⟨ex, fr', H', h1, h2⟩ := hW _ _ _ h
    cases ex with
    | normal =>
      obtain ⟨ex2, fr2, H2, h3, h4⟩ := ih _ _ _ h1
      exact ⟨ex2, fr2, H2, h3, fun Q' hq => by unfold Wr; exact h2 _ (h4 Q' hq)⟩
    | exit id => exact ⟨.exit id, fr', H', h1, fun Q' hq => by unfold Wr; exact h2 _ hq⟩
    | ret => exact ⟨.ret, fr', H', h1, fun Q' hq => by unfold Wr; exact h2 _ hq⟩

theorem Wc_pick {C : Cfg} : ∀ c : Code, Picks (Wc C c) := by
  intro c
  induction c with
  | skip => intro fr H Q h; exact ⟨.normal, fr, H, h, fun _ h => h⟩
  | label l => intro fr H Q h; exact ⟨.normal, fr, H, h, fun _ h => h⟩
  | exit id => intro fr H Q h; exact ⟨.exit id, fr, H, h, fun _ h => h⟩
  | ret => intro fr H Q h; exact ⟨.ret, fr, H, h, fun _ h => h⟩
  | goto l => intro fr H Q h; exact h.elim
  | rangeFunc f ps c1 c2 _ _ => intro fr H Q h; exact h.elim
  | refuse s => intro fr H Q h; exact h.elim
  | region id ops draw =>
    intro fr H Q h
    obtain ⟨fr', H', h1, h2⟩ := Wo_pick _ _ _ _ h
    exact ⟨.normal, fr', H', h1, fun Q' hq => h2 _ hq⟩
  | seq a b iha ihb =>
    intro fr H Q h
    obtain ⟨ex, fr', H', h1, h2⟩ := iha _ _ _ h
    cases ex with
    | normal =>
      obtain ⟨ex2, fr2, H2, h3, h4⟩ := ihb _ _ _ h1
      exact ⟨ex2, fr2, H2, h3, fun Q' hq => h2 _ (h4 Q' hq)⟩
    | exit id => exact ⟨.exit id, fr', H', h1, fun Q' hq => h2 _ hq⟩
    | ret => exact ⟨.ret, fr', H', h1, fun Q' hq => h2 _ hq⟩
  | cond x a b iha ihb =>
    intro fr H Q h
    simp only [Wc] at h ⊢
    split at h
    · exact iha _ _ _ h
    · exact ihb _ _ _ h
    · exact h.elim
  | block id a iha =>
    intro fr H Q h
    obtain ⟨ex, fr', H', h1, h2⟩ := iha _ _ _ h
    cases ex with
    | normal => exact ⟨.normal, fr', H', h1, fun Q' hq => h2 _ hq⟩
    | exit id' =>
      simp only at h1
      cases hid : id'.beq id with
      | true => rw [hid] at h1; exact ⟨.normal, fr', H', h1, fun Q' hq => h2 _ (by simp only [hid]; exact hq)⟩
      | false => rw [hid] at h1; exact ⟨.exit id', fr', H', h1, fun Q' hq => h2 _ (by simp only [hid]; exact hq)⟩
    | ret => exact ⟨.ret, fr', H', h1, fun Q' hq => h2 _ hq⟩
  | loop a iha =>
    intro fr H Q h
    obtain ⟨k, hk⟩ := h
    obtain ⟨ex, fr', H', h1, h2⟩ := Wr_pick iha k _ _ _ hk
    exact ⟨ex, fr', H', h1, fun Q' hq => ⟨k, h2 Q' hq⟩⟩
  | scope a iha => intro fr H Q h; exact iha _ _ _ h

theorem Wc_mono {C : Cfg} {c : Code} {fr : Fr} {H : AH} {Q Q' : AEx → Fr → AH → Prop} (h : Wc C c fr H Q) (hq : ∀ ex fr' H', Q ex fr' H' → Q' ex fr' H') : Wc C c fr H Q' :=
  let ⟨ex, fr', H', h1, h2⟩ := Wc_pick c _ _ _ h; h2 _ (hq _ _ _ h1)

/-- A loop: I n: what holds at a round's head, n bounding the rounds to come. -/
theorem Wc_loop {C : Cfg} {c : Code} {Q : AEx → Fr → AH → Prop} (I : Nat → Fr → AH → Prop) (round : ∀ n fr H, I n fr H → Wc C c fr H fun ex fr' H' => match ex with
    | .normal => ∃ m, m < n ∧ I m fr' H'
    | .exit id => Q (.exit id) fr' H'
    | .ret => Q .ret fr' H') : ∀ n fr H, I n fr H → Wc C (.loop c) fr H Q := by
  intro n
  induction n using Nat.strongRecOn with
  | _ n ih =>
    intro fr H hI
    obtain ⟨ex, fr', H', h1, h2⟩ := Wc_pick c _ _ _ (round n fr H hI)
    cases ex with
    | normal =>
      obtain ⟨m, hm, hI'⟩ := h1
      obtain ⟨k, hk⟩ := ih m hm fr' H' hI'
      exact ⟨k + 1, by unfold Wr; exact h2 _ hk⟩
    | exit id => exact ⟨1, by unfold Wr; exact h2 _ h1⟩
    | ret => exact ⟨1, by unfold Wr; exact h2 _ h1⟩

/-! ### To the model -/

/-- What the abstract machine comes to, the model comes to. -/
theorem Wf.real {C : Cfg} (hC : C.Ok) {f : FuncId} {args : List Value} {H : AH} {Q : Value → AH → Prop} (h : Wf C f args H Q) {ρ : Rho} {w : World} {args' : List Value} (hW : WR C.P H ρ w.heap) (ha : LR ρ args args') :
    ∃ v H', Q v H' ∧ CallsN C.P f args'.toArray H ρ w v H' := by
  obtain ⟨n, v, H', h1, h2⟩ := h
  exact ⟨v, H', h2, call_ok hC n f args H v H' h1 ρ w args' hW ha⟩

end Go.Am

/-! Walking a text on the abstract machine: one step a rule. -/
namespace Go.Am
open Go
variable {C : Cfg}

theorem at_some (fr : Fr) (i j : Nat) (v : Value) : Fr.at (Fr.put fr (some i) v) j = if i = j then v else Fr.at fr j := by
  rw [Fr.at_put]
  by_cases e : i = j
  · rw [if_pos (congrArg some e), if_pos e]
  · rw [if_neg (fun h => e (Option.some.inj h)), if_neg e]
theorem at_none (fr : Fr) (j : Nat) (v : Value) : Fr.at (Fr.put fr none v) j = Fr.at fr j := rfl
theorem at_args (l : List Value) (j : Nat) : Fr.at (T.ofList l 1 .nil) j = (l[j]?).getD undef := by
  unfold Fr.at
  rw [T.get_ofList]
  by_cases e : j < l.length
  · rw [if_pos (by omega), Nat.add_sub_cancel, List.getElem?_eq_getElem e]; rfl
  · rw [if_neg (by omega), List.getElem?_eq_none (by omega)]; rfl

theorem b_tf : (true == false) = false := rfl
theorem b_ft : (false == true) = false := rfl
theorem decT {p : Prop} [Decidable p] (h : p) : decide p = true := by simpa using h
theorem decF {p : Prop} [Decidable p] (h : ¬p) : decide p = false := by simpa using h
theorem natT {a b : Nat} (h : a = b) : ((a : Int) == (b : Int)) = true := by subst h; simp
theorem natF {a b : Nat} (h : a ≠ b) : ((a : Int) == (b : Int)) = false := by simp; omega

/-! What is to be shown of a list of operations, of a text: behind a head that nothing unfolds. -/

structure So (C : Cfg) (draw : Bool) (ops : Array Oper) (l : List Oper) (fr : Fr) (H : AH) (K : Fr → AH → Prop) : Prop where
  out : Wo C draw ops l fr H K
structure Sc (C : Cfg) (c : Code) (fr : Fr) (H : AH) (Q : AEx → Fr → AH → Prop) : Prop where
  out : Wc C c fr H Q

theorem so_nil {draw : Bool} {ops : Array Oper} {fr : Fr} {H : AH} {K : Fr → AH → Prop} (h : K fr H) : So C draw ops [] fr H K := ⟨h⟩

theorem so_val {draw : Bool} {ops : Array Oper} {o : Oper} {rest : List Oper} {fr : Fr} {H H' : AH} {K : Fr → AH → Prop} {v : Value} (hw : aWanted ops fr o = true) (ha : aOp C.P fr H o = some (.val v H'))
    (h : So C draw ops rest (fr.put o.dst v) H' K) : So C draw ops (o :: rest) fr H K := by
  constructor; simp only [Wo, Wv, hw, ha]; exact h.out

theorem so_skip {draw : Bool} {ops : Array Oper} {o : Oper} {rest : List Oper} {fr : Fr} {H : AH} {K : Fr → AH → Prop} (hw : aWanted ops fr o = false)
    (h : So C draw ops rest (fr.put o.dst undef) H K) : So C draw ops (o :: rest) fr H K := by
  constructor; simp only [Wo, Wv, hw]; exact h.out

theorem so_call {ops : Array Oper} {o : Oper} {rest : List Oper} {fr : Fr} {H : AH} {K : Fr → AH → Prop} {f : FuncId} {args : List Value} (hw : aWanted ops fr o = true) (ha : aOp C.P fr H o = some (.enter f args))
    (h : Wf C f args H fun v H' => So C false ops rest (fr.put o.dst v) H' K) : So C false ops (o :: rest) fr H K := by
  constructor; simp only [Wo, Wv, hw, ha]; exact h.mono fun _ _ h => h.out

theorem so_callD {ops : Array Oper} {o : Oper} {rest : List Oper} {fr : Fr} {H : AH} {K : Fr → AH → Prop} {f : FuncId} {args : List Value} (hw : aWanted ops fr o = true) (ha : aOp C.P fr H o = some (.enter f args))
    (h : Wf C f args (H.wb H.next) fun v H' => So C true ops rest (fr.put o.dst v) (H'.wb H.base) K) : So C true ops (o :: rest) fr H K := by
  constructor; simp only [Wo, Wv, hw, ha]; exact h.mono fun _ _ h => h.out

section
variable {fr : Fr} {H : AH} {Q : AEx → Fr → AH → Prop}
theorem sc_skip (h : Q .normal fr H) : Sc C .skip fr H Q := ⟨h⟩
theorem sc_label {l : Nat} (h : Q .normal fr H) : Sc C (.label l) fr H Q := ⟨h⟩
theorem sc_exit {id : Nat} (h : Q (.exit id) fr H) : Sc C (.exit id) fr H Q := ⟨h⟩
theorem sc_ret (h : Q .ret fr H) : Sc C .ret fr H Q := ⟨h⟩
theorem sc_region {id : Nat} {l : List Oper} {draw : Bool} (h : So C draw ⟨l⟩ l fr H fun fr' H' => Q .normal fr' H') : Sc C (.region id ⟨l⟩ draw) fr H Q := ⟨h.out⟩
theorem sc_seq {a b : Code} (h : Sc C a fr H fun ex fr' H' => match ex with
    | .normal => Sc C b fr' H' Q
    | .exit id => Q (.exit id) fr' H'
    | .ret => Q .ret fr' H') : Sc C (.seq a b) fr H Q := by
  constructor
  show Wc C a fr H _
  refine Wc_mono h.out fun ex fr' H' h => ?_
  cases ex with
  | normal => exact Sc.out h
  | exit id => exact h
  | ret => exact h
theorem sc_block {id : Nat} {c : Code} (h : Sc C c fr H fun ex fr' H' => match ex with
    | .normal => Q .normal fr' H'
    | .exit id' => match id'.beq id with
      | true => Q .normal fr' H'
      | false => Q (.exit id') fr' H'
    | .ret => Q .ret fr' H') : Sc C (.block id c) fr H Q := ⟨h.out⟩
theorem sc_scope {c : Code} (h : Sc C c fr H Q) : Sc C (.scope c) fr H Q := ⟨h.out⟩
theorem sc_true {c : Operand} {t e : Code} (hc : ev fr c = .bool true) (h : Sc C t fr H Q) : Sc C (.cond c t e) fr H Q := by constructor; simp only [Wc, hc]; exact h.out
theorem sc_false {c : Operand} {t e : Code} (hc : ev fr c = .bool false) (h : Sc C e fr H Q) : Sc C (.cond c t e) fr H Q := by constructor; simp only [Wc, hc]; exact h.out
theorem sc_cond {c : Operand} {t e : Code} {b : Bool} (hc : ev fr c = .bool b) (h1 : b = true → Sc C t fr H Q) (h2 : b = false → Sc C e fr H Q) : Sc C (.cond c t e) fr H Q := by
  cases b with
  | true => exact sc_true hc (h1 rfl)
  | false => exact sc_false hc (h2 rfl)
end

/-- A loop: I n: what holds at a round's head, n bounding the rounds to come. -/
theorem sc_loop {c : Code} {Q : AEx → Fr → AH → Prop} (I : Nat → Fr → AH → Prop) (round : ∀ n fr H, I n fr H → Sc C c fr H fun ex fr' H' => match ex with
    | .normal => ∃ m, m < n ∧ I m fr' H'
    | .exit id => Q (.exit id) fr' H'
    | .ret => Q .ret fr' H') (n : Nat) (fr : Fr) (H : AH) (h : I n fr H) : Sc C (.loop c) fr H Q := ⟨Wc_loop I (fun n fr H hI => (round n fr H hI).out) n fr H h⟩

/-- A call, by its text. -/
theorem wf_text {f : FuncId} {args : List Value} {H : AH} {Q : Value → AH → Prop} {fn : Func} {c : Code} (ho : C.orc f args H = none) (hf : C.fn f = some fn) (hb : fn.body = some c) (hd : noD c = true)
    (h : Sc C c (T.ofList args 1 .nil) H fun ex fr' H' => (match ex with | .exit _ => False | _ => True) ∧ ∃ vs, aResults C.P fr' H' fn.results.toList = some vs ∧ Q (packed vs) H') : Wf C f args H Q := Wf_text ho hf hb hd h.out

end Go.Am

/-! The abstract machine's start and end: a world to begin in, the answer of a call that turns nothing old, a call answered by a contract. -/
namespace Go.Am
open Go Go.RowKit
variable {P : Program}

/-- A heap of which nothing is to be written. -/
structure AH.Read (H : AH) : Prop where
  base : 0 < H.base
  next : H.base ≤ H.next
  blk : ∀ b k, H.blk.get b = some k → b < H.next ∧ ∃ c e, k = .cells c e .ext

theorem AH.Read.root {H : AH} (h : H.Read) (b : Nat) : H.root b = 0 := by
  unfold AH.root
  cases hb : H.blk.get b with
  | none => rfl
  | some k => obtain ⟨_, c, e, rfl⟩ := h.blk b k hb; rfl

theorem WR.start {H : AH} {ρ : Rho} {h : Array Obj} (hr : H.Read) (dom : ∀ b m, ρ b = some m → b < H.next)
    (glob : ∀ g, g < P.globals.size → ∃ m, ρ g = some m ∧ m.r = g ∧ m.d = 0) (real : ∀ b m, ρ b = some m → m.r < h.size)
    (blk : ∀ b m c e, ρ b = some m → H.blk.get b = some (.cells c e .ext) → m.e = e ∧ ∃ C ty fz, h[m.r]? = some (.cells C ty fz) ∧ CR ρ c C m.d) : WR P H ρ h where
  wf := {
    base := hr.base
    next := hr.next
    lt := fun b k hb => (hr.blk b k hb).1
    root := fun b k hb => by obtain ⟨_, c, e, rfl⟩ := hr.blk b k hb; exact Nat.zero_le _
    uniq := fun b b' k k' hb _ _ h0 => by obtain ⟨_, c, e, rfl⟩ := hr.blk b k hb; exact (h0 rfl).elim
    fam := fun b c e f v hb => by obtain ⟨_, c', e', hk⟩ := hr.blk b _ hb; cases hk }
  dom := dom
  glob := glob
  real := real
  sep := fun b b' m m' _ _ _ => by rw [hr.root, hr.root]
  ends := fun b b' m m' c e c' e' f v v' _ _ hb _ => by obtain ⟨_, c', e', hk⟩ := hr.blk b _ hb; cases hk
  blk := fun b m k hm hb => by
    obtain ⟨_, c, e, rfl⟩ := hr.blk b k hb
    obtain ⟨h1, C, ty, fz, h2, h3⟩ := blk b m c e hm hb
    exact ⟨h1, fun _ => ⟨C, ty, fz, h2, h3, fun h => (h rfl).elim⟩⟩

theorem Grw.below {H H' : AH} {ρ ρ' : Rho} {w w' : World} (hr : H.Read) (h : Grw H ρ w H' ρ' w') : Below w.heap.size w w' :=
  ⟨h.os, h.tape, h.output, h.size, fun r hlt => h.frame r hlt fun b m _ _ => by rw [hr.root]; have := hr.base; omega⟩

/-- A call of a function with a body. -/
theorem CallsN.calls {f : FuncId} {args : Array Value} {H H' : AH} {ρ : Rho} {w : World} {v : Value} (hf : FnOk P f) (h : CallsN P f args H ρ w v H') : Calls P f args w (CallPost P H ρ w v H') := by
  rcases h with ⟨_, h⟩ | ⟨v', w', ρ', h, _⟩
  · exact h
  · rw [run_callFunc hf] at h; cases h

/-- What a run on a heap that is only read says. -/
theorem Wf.told {C : Cfg} (hC : C.Ok) {f : FuncId} (hf : FnOk C.P f) {args : List Value} {H : AH} {Q : Value → AH → Prop} (h : Wf C f args H Q) (hr : H.Read) {ρ : Rho} {w : World} {args' : List Value} (hW : WR C.P H ρ w.heap) (ha : LR ρ args args') :
    Calls C.P f args'.toArray w fun e w' => ∃ v H' v' ρ', Q v H' ∧ e = .returned v' ∧ VR ρ' v v' ∧ Below w.heap.size w w' := by
  obtain ⟨v, H', hq, hc⟩ := h.real hC hW ha
  refine (hc.calls hf).mono fun e w' ⟨v', ρ', he, hv, _, hg⟩ => ⟨v, H', v', ρ', hq, he, hv, hg.below hr⟩

theorem WR.stay {H : AH} {ρ : Rho} {w w' : World} (hW : WR P H ρ w.heap) (hb : Below w.heap.size w w') : WR P H ρ w'.heap :=
  { wf := hW.wf, dom := hW.dom, glob := hW.glob, sep := hW.sep, ends := hW.ends
    real := fun b m hm => Nat.lt_of_lt_of_le (hW.real b m hm) hb.size
    blk := fun b m k hm hk => BR.mono (Rho.le_refl ρ) (hb.block _ (hW.real b m hm)) (fun _ _ _ _ h => h) (hW.blk b m k hm hk) }

theorem Grw.stay {H : AH} {ρ : Rho} {w w' : World} (hW : WR P H ρ w.heap) (hb : Below w.heap.size w w') : Grw H ρ w H ρ w' where
  afr := AFr.refl H
  rho := Rho.le_refl ρ
  new := fun b m h h' => by rw [h'] at h; cases h
  fresh := fun b m h h' => by rw [h'] at h; cases h
  os := hb.os
  tape := hb.tape
  output := hb.output
  size := hb.size
  frame := fun r hr _ => hb.block r hr
  cov := fun b k h1 h2 => by have := hW.wf.lt b k h2; omega

/-- A call that turns nothing old, answered by its contract. -/
theorem CallsN.quiet {f : FuncId} {args : Array Value} {H : AH} {ρ : Rho} {w : World} {v v' : Value} (hW : WR P H ρ w.heap) (hf : FnOk P f)
    (h : Calls P f args w fun e w' => e = .returned v' ∧ Below w.heap.size w w') (hv : VR ρ v v') : CallsN P f args H ρ w v H :=
  .inl ⟨hf, h.mono fun e w' ⟨he, hb⟩ => ⟨v', ρ, he, hv, hW.stay hb, .stay hW hb⟩⟩

/-- Where the cell of a pointer lies, and that it may be written. -/
theorem WR.target {H H' : AH} {ρ : Rho} {w : World} {b o : Nat} {m : Pl} {x : Value} (hW : WR P H ρ w.heap) (hm : ρ b = some m) (hs : H.stores b o [x] = some H') :
    (∃ old, w.cell? ⟨m.r, m.d + o, none⟩ = some old) ∧ w.frozen? ⟨m.r, m.d + o, none⟩ = false ∧ oneCell x = true := by
  unfold AH.stores at hs
  split at hs
  · rename_i c e ow hb
    split at hs
    · rename_i hc
      simp only [Bool.and_eq_true, List.all_cons, List.all_nil, Bool.and_true] at hc
      obtain ⟨⟨hw, hx⟩, hle⟩ := hc
      have hle := Nat.le_of_ble_eq_true hle
      obtain ⟨g1, g2, g3, g4⟩ := AH.okW_spec hW.wf hb hw
      obtain ⟨he, hB⟩ := hW.blk b m _ hm hb
      obtain ⟨C, ty, fz, h1, h2, h3⟩ := hB g2
      obtain ⟨h4, h5, h6⟩ := h3 g3
      simp only [List.length_cons, List.length_nil] at hle
      have hlt : m.d + o < C.size := by omega
      refine ⟨⟨C[m.d + o], by unfold World.cell?; simp [h1, hlt]⟩, ?_, hx⟩
      unfold World.frozen?; simp only [h1]
      have := h6 (m.d + o) hlt
      simp only [Bool.and_eq_false_iff, decide_eq_false_iff_not]
      by_cases e : fz.1 ≤ m.d + o
      · right; intro h; exact this ⟨e, h⟩
      · left; exact e
    · cases hs
  · cases hs

/-- One cell written, behind new blocks alone. -/
theorem CallsN.sets {f : FuncId} {args : Array Value} {H H' : AH} {ρ : Rho} {w : World} {v v' x x' : Value} {b o : Nat} {m : Pl} (hW : WR P H ρ w.heap) (hf : FnOk P f) (hm : ρ b = some m)
    (hs : H.stores b o [x] = some H') (hx : VR ρ x x')
    (h : Calls P f args w fun e w' => e = .returned v' ∧ ∃ w1, Below w.heap.size w w1 ∧ w' = w1.setCell ⟨m.r, m.d + o, none⟩ x') (hv : VR ρ v v') : CallsN P f args H ρ w v H' := by
  refine .inl ⟨hf, h.mono fun e w' ⟨he, w1, hb, hw'⟩ => ?_⟩
  have hW1 := hW.stay hb
  obtain ⟨w2, h1, h2, h3⟩ := stores_ok hW1 hm hs (.cons hx .nil)
  obtain ⟨⟨old, g1⟩, g2, g3⟩ := hW1.target hm hs
  have ho : x'.oneCell' = true := by
    have := (LR.cons hx .nil).oneCell
    simp only [List.all_cons, List.all_nil, Bool.and_true] at this
    rw [g3] at this
    cases x' <;> simp_all [Value.oneCell', oneCell]
  have hw2 : w2 = w1.setCell ⟨m.r, m.d + o, none⟩ x' := by
    unfold storeCells at h1
    simp only [Sem.run_bind, Addr.add_lit, Nat.add_zero] at h1
    rw [run_store P w1 _ x' _ ho, g1] at h1
    simp only [g2, Bool.false_eq_true, if_false, Result.andThen_ok, storeCells, Sem.run_pure] at h1
    cases h1; rfl
  subst hw2
  rw [hw']
  exact ⟨v', ρ, he, hv, h2, (Grw.stay hW hb).trans hW.dom hW.wf.base h3⟩

/-- What a cell of a row that may be read is in the world. -/
theorem WR.read {H : AH} {ρ : Rho} {w : World} {b : Nat} {m : Pl} {c : List Value} (hW : WR P H ρ w.heap) (hm : ρ b = some m) (hr : H.row b = some c) {i : Nat} {x : Value} (hi : c[i]? = some x) :
    ∃ y, w.cell? ⟨m.r, m.d + i, none⟩ = some y ∧ VR ρ x y := by
  unfold AH.row at hr
  split at hr
  · rename_i c' e o hb
    split at hr
    · rename_i ho
      cases hr
      obtain ⟨_, hB⟩ := hW.blk b m _ hm hb
      obtain ⟨C, ty, fz, h1, h2, _⟩ := hB ho
      obtain ⟨y, hy, hv⟩ := h2 i x hi
      exact ⟨y, by simp [World.cell?, h1, hy], hv⟩
    · cases hr
  · cases hr

end Go.Am

/-! The abstract machine's answers for functions that the model answers itself. -/
namespace Go.Am
open Go

/-- One table of answers, or else another one. -/
def orElse (a b : Callf) : Callf := fun f args H => match a f args H with
  | some r => some r
  | none => b f args H

theorem CallOk.orElse {P : Program} {a b : Callf} (ha : CallOk P a) (hb : CallOk P b) : CallOk P (orElse a b) := by
  intro f args H v H' h
  unfold Am.orElse at h
  cases hx : a f args H with
  | some r => rw [hx] at h; cases h; exact ha f args H v H' hx
  | none => rw [hx] at h; exact hb f args H v H' h

/-- math/bits.Add64, Sub64 -/
def carryOrc (g : Nat) (sub : Bool) : Callf := fun f args H => match f.beq g with
  | true => match args with
    | [.int .u64 x, .int .u64 y, .int .u64 c] => match c == 0 || c == 1 with
      | false => none
      | true => match sub with
        | false => some (.tuple #[.int .u64 (Int.ofNat ((x.toNat + y.toNat + c.toNat) % 18446744073709551616)), .int .u64 (Int.ofNat ((x.toNat + y.toNat + c.toNat) / 18446744073709551616))], H)
        | true => some (.tuple #[.int .u64 (Int.ofNat ((x.toNat + 18446744073709551616 - y.toNat - c.toNat) % 18446744073709551616)), .int .u64 (Int.ofNat (if x.toNat < y.toNat + c.toNat then 1 else 0))], H)
    | _ => none
  | false => none

def addEntry : Array Value → Sem Value := fun args => do
  let (x, y, c) ← Extern.MathBitsCarry.three "Add64" args
  pure (Extern.MathBitsCarry.pair ((x + y + c) % Extern.MathBitsCarry.m64) ((x + y + c) / Extern.MathBitsCarry.m64))
def subEntry : Array Value → Sem Value := fun args => do
  let (x, y, b) ← Extern.MathBitsCarry.three "Sub64" args
  pure (Extern.MathBitsCarry.pair ((x + Extern.MathBitsCarry.m64 - y - b) % Extern.MathBitsCarry.m64) (if x < y + b then 1 else 0))

theorem carry_ok {P : Program} {g : Nat} {fn : Func} {sub : Bool} (hf : P.funcs[g]? = some fn) (hname : (fn.name == "runtime.NumGoroutine") = false)
    (hb : fn.body.isNone = true) (hn : Extern.findNext fn = none) (he : Extern.find fn = some (if sub then subEntry else addEntry)) : CallOk P (carryOrc g sub) := by
  intro f args H v H' h ρ w args' hW ha
  unfold carryOrc at h
  split at h
  · rename_i hfg
    obtain rfl := Nat.eq_of_beq_eq_true hfg
    split at h
    · rename_i x y c
      split at h
      · cases h
      · rename_i hc
        have hc' : c = 0 ∨ c = 1 := by simpa using hc
        cases ha with
        | cons hx ha =>
          cases ha with
          | cons hy ha =>
            cases ha with
            | cons hz ha =>
              cases ha with
              | nil =>
                cases hx; cases hy; cases hz
                refine .inr ?_
                split at h
                · cases h
                  refine ⟨_, w, ρ, ?_, VR.tuple_of (.cons (.int _ _) (.cons (.int _ _) .nil)), hW, hW.refl⟩
                  rw [run_callFunc_extern hf hname hb hn he]
                  rcases hc' with rfl | rfl <;> rfl
                · cases h
                  refine ⟨_, w, ρ, ?_, VR.tuple_of (.cons (.int _ _) (.cons (.int _ _) .nil)), hW, hW.refl⟩
                  rw [run_callFunc_extern hf hname hb hn he]
                  rcases hc' with rfl | rfl <;> rfl
    · cases h
  · cases h

end Go.Am

/-! Blocks of a walk's own, laid one behind the other: what is stored into them, and read. -/
namespace Go.Am
open Go
namespace T
variable {α : Type}

theorem single_fuel (a : α) : ∀ (k k' n : Nat), n < k → n < k' → single k n a = single k' n a := by
  intro k
  induction k with
  | zero => intro k' n h; omega
  | succ k ih =>
    intro k' n h h'
    obtain ⟨k', rfl⟩ : ∃ j, k' = j + 1 := ⟨k' - 1, by omega⟩
    unfold single
    cases h0 : n.beq 0 with
    | true => rfl
    | false =>
      have h0 := beq_f.1 h0
      cases h1 : (n % 2).beq 1 with
      | true => simp only; rw [ih k' (n / 2) (by omega) (by omega)]
      | false => simp only; rw [ih k' (n / 2 - 1) (by omega) (by omega)]

theorem set_nil (n : Nat) (a : α) : (nil : T α).set n a = (node none nil nil).set n a := by
  unfold set
  cases h0 : n.beq 0 with
  | true => unfold single; rw [h0]
  | false =>
    unfold single; rw [h0]
    have h0 := beq_f.1 h0
    cases h1 : (n % 2).beq 1 with
    | true => simp only [set]; rw [single_fuel a n (n / 2 + 1) (n / 2) (by omega) (by omega)]
    | false => simp only [set]; rw [single_fuel a n (n / 2 - 1 + 1) (n / 2 - 1) (by omega) (by omega)]

theorem set_set (a b : α) : ∀ (n : Nat) (t : T α), (t.set n a).set n b = t.set n b := by
  intro n
  induction n using Nat.strongRecOn with
  | _ n ih =>
    have key : ∀ (v : Option α) (l r : T α), ((node v l r).set n a).set n b = (node v l r).set n b := by
      intro v l r
      cases h0 : n.beq 0 with
      | true => simp only [set, h0]
      | false =>
        have h0' := beq_f.1 h0
        cases h1 : (n % 2).beq 1 with
        | true => simp only [set, h0, h1]; rw [ih (n / 2) (by omega)]
        | false => simp only [set, h0, h1]; rw [ih (n / 2 - 1) (by omega)]
    intro t
    cases t with
    | nil => rw [set_nil n a, set_nil n b]; exact key none nil nil
    | node v l r => exact key v l r

theorem set_comm (a b : α) : ∀ (n m : Nat) (t : T α), n ≠ m → (t.set n a).set m b = (t.set m b).set n a := by
  intro n
  induction n using Nat.strongRecOn with
  | _ n ih =>
    intro m
    have key : ∀ (v : Option α) (l r : T α), n ≠ m → ((node v l r).set n a).set m b = ((node v l r).set m b).set n a := by
      intro v l r hne
      cases h0 : n.beq 0 with
      | true =>
        have e := beq_t.1 h0
        cases h1 : m.beq 0 with
        | true => have := beq_t.1 h1; omega
        | false => cases h2 : (m % 2).beq 1 <;> simp only [set, h0, h1, h2]
      | false =>
        have e := beq_f.1 h0
        cases h1 : m.beq 0 with
        | true => cases h2 : (n % 2).beq 1 <;> simp only [set, h0, h1, h2]
        | false =>
          have e1 := beq_f.1 h1
          cases h2 : (n % 2).beq 1 with
          | true =>
            have e2 := beq_t.1 h2
            cases h3 : (m % 2).beq 1 with
            | true => have e3 := beq_t.1 h3; simp only [set, h0, h1, h2, h3]; rw [ih (n / 2) (by omega) (m / 2) l (by omega)]
            | false => simp only [set, h0, h1, h2, h3]
          | false =>
            have e2 := beq_f.1 h2
            cases h3 : (m % 2).beq 1 with
            | true => simp only [set, h0, h1, h2, h3]
            | false => have e3 := beq_f.1 h3; simp only [set, h0, h1, h2, h3]; rw [ih (n / 2 - 1) (by omega) (m / 2 - 1) r (by omega)]
    intro t hne
    cases t with
    | nil =>
      rw [set_nil n a, set_nil m b]; exact key none nil nil hne
    | node v l r => exact key v l r hne
end T

/-- Blocks laid one behind the other. -/
def AH.news (H : AH) : List Blk → AH
  | [] => H
  | k :: ks => (H.new k).news ks

theorem AH.news_new (H : AH) (ks : List Blk) (k : Blk) : (H.news ks).new k = H.news (ks ++ [k]) := by
  induction ks generalizing H with
  | nil => rfl
  | cons k0 ks ih => exact ih (H.new k0)

theorem AH.news_next (H : AH) (ks : List Blk) : (H.news ks).next = H.next + ks.length := by
  induction ks generalizing H with
  | nil => rfl
  | cons k0 ks ih => rw [AH.news, ih]; simp [AH.new]; omega
theorem AH.news_base (H : AH) (ks : List Blk) : (H.news ks).base = H.base := by
  induction ks generalizing H with
  | nil => rfl
  | cons k0 ks ih => rw [AH.news, ih]; rfl
theorem AH.news_fam (H : AH) (ks : List Blk) : (H.news ks).fam = H.fam := by
  induction ks generalizing H with
  | nil => rfl
  | cons k0 ks ih => rw [AH.news, ih]; rfl

theorem AH.news_old (H : AH) (ks : List Blk) {b : Nat} (hb : b < H.next) : (H.news ks).blk.get b = H.blk.get b := by
  induction ks generalizing H with
  | nil => rfl
  | cons k0 ks ih =>
    rw [AH.news, ih (H.new k0) (by simp [AH.new]; omega)]
    show (H.blk.set H.next k0).get b = _
    rw [T.get_set_ne _ _ (by omega)]

theorem AH.news_at (H : AH) (ks : List Blk) (i : Nat) (hi : i < ks.length) : (H.news ks).blk.get (H.next + i) = ks[i]? := by
  induction ks generalizing H i with
  | nil => simp at hi
  | cons k0 ks ih =>
    cases i with
    | zero =>
      rw [AH.news, AH.news_old _ _ (by simp [AH.new])]
      show (H.blk.set H.next k0).get (H.next + 0) = _
      rw [Nat.add_zero, T.get_set_same]; rfl
    | succ i =>
      have := ih (H.new k0) i (by simpa using hi)
      rw [show (H.new k0).next = H.next + 1 from rfl] at this
      rw [AH.news, show H.next + (i + 1) = H.next + 1 + i by omega, this]; rfl

/-- Another block in one's place. -/
theorem AH.news_set (H : AH) (ks : List Blk) (i : Nat) (k : Blk) (hi : i < ks.length) : { H.news ks with blk := (H.news ks).blk.set (H.next + i) k } = H.news (ks.set i k) := by
  have key : ∀ (ks : List Blk) (H : AH) (b : Nat), b < H.next → { H.news ks with blk := (H.news ks).blk.set b k } = ({ H with blk := H.blk.set b k } : AH).news ks := by
    intro ks
    induction ks with
    | nil => intro H b _; rfl
    | cons k0 ks ih =>
      intro H b hb
      rw [AH.news, ih (H.new k0) b (by simp [AH.new]; omega), AH.news]
      congr 1
      unfold AH.new
      simp only [AH.mk.injEq, and_true]
      exact T.set_comm k0 k H.next b _ (by omega)
  induction ks generalizing H i with
  | nil => simp at hi
  | cons k0 ks ih =>
    cases i with
    | zero =>
      rw [Nat.add_zero, AH.news, key ks (H.new k0) H.next (by simp [AH.new]), List.set_cons_zero, AH.news]
      congr 1
      unfold AH.new
      simp only [AH.mk.injEq, and_true]
      exact T.set_set k0 k H.next _
    | succ i =>
      have := ih (H.new k0) i (by simpa using hi)
      rw [show (H.new k0).next = H.next + 1 from rfl] at this
      rw [AH.news, show H.next + (i + 1) = H.next + 1 + i by omega, this, List.set_cons_succ, AH.news]

theorem AH.news_stores (H : AH) (ks : List Blk) (i o : Nat) (xs : List Value) {c : List Value} {e : Nat} (hk : ks[i]? = some (.cells c e .solo)) (hb : H.base ≤ H.next) (hall : xs.all oneCell = true) (hle : o + xs.length ≤ c.length) :
    (H.news ks).stores (H.next + i) o xs = some (H.news (ks.set i (.cells (splice c o xs) e .solo))) := by
  have hi : i < ks.length := (List.getElem?_eq_some_iff.1 hk).1
  unfold AH.stores
  rw [AH.news_at H ks i hi, hk]
  simp only [AH.okW, AH.news_base]
  rw [show H.base.ble (H.next + i) = true from Nat.ble_eq_true_of_le (by omega), hall, show (o + xs.length).ble c.length = true from Nat.ble_eq_true_of_le hle]
  simp only [Bool.and_self, AH.put]
  rw [AH.news_set H ks i _ hi]

theorem AH.news_row (H : AH) (ks : List Blk) (i : Nat) {c : List Value} {e : Nat} (hk : ks[i]? = some (.cells c e .solo)) : (H.news ks).row (H.next + i) = some c := by
  have hi : i < ks.length := (List.getElem?_eq_some_iff.1 hk).1
  unfold AH.row
  rw [AH.news_at H ks i hi, hk]
  rfl

theorem AH.news_row_ext (H : AH) (ks : List Blk) {b : Nat} {c : List Value} {e : Nat} (hb : b < H.next) (hk : H.blk.get b = some (.cells c e .ext)) : (H.news ks).row b = some c := by
  unfold AH.row
  rw [AH.news_old H ks hb, hk]
  rfl

theorem AH.cell_row {H : AH} {b o : Nat} {c : List Value} (h : H.row b = some c) : H.cell b o = c[o]? := by
  unfold AH.cell; rw [h]

theorem AH.loads_row {H : AH} {b : Nat} {c : List Value} (h : H.row b = some c) : ∀ (n o : Nat), o + n ≤ c.length → H.loads b o n = some ((c.drop o).take n) := by
  intro n
  induction n with
  | zero => intro o _; simp [AH.loads]
  | succ n ih =>
    intro o ho
    unfold AH.loads
    rw [AH.cell_row h, List.getElem?_eq_getElem (by omega)]
    simp only
    rw [ih (o + 1) (by omega)]
    rw [List.drop_eq_getElem_cons (i := o) (by omega)]
    rfl

end Go.Am
