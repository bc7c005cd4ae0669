import PyProof.Rows.All
import Wide.All
import OpenK.AllK
import Wide.FinOn
import PyProof.Cells
import PyProof.Rows.Top
import PyProof.Walks
import PyProof.PureInt
import PyProof.RangeIter
import PyProof.DefCall
import PyProof.SliceList
import PyProof.IsRules
import PyProof.AutoIntOps
import PyProof.Rules2
import PyProof.Rules3
import PyProof.ForAny
import PyProof.RulesAssignMore
import PyProof.WalksMore
import PyProof.WalksPairs
import PyProof.TupleIter
import PyProof.LongRange
import PyProof.Rows.StrTemp
import PyProof.Rows.Method
import PyProof.ListIndexNeg
import PyProof.TupleOps
import PyProof.Rows.DictMethods
import PyProof.DelItemList
import PyProof.Dict
import PyProof.ReprLoop
import OpenK.KMore
import PyProof.P3Eq
import PyProof.NeData
import PyProof.WalkInts
import PyProof.ListCopy
import PyProof.TypeOfCall
import PyProof.IsiPairs
import PyProof.CallStr
import PyProof.ListMulAny
import PyProof.AutoListH
import PyProof.Rows.SeqIn
import PyProof.Rows.RuleN_abs
import PyProof.Rows.Range3
import PyProof.Rows.ListMul
import PyProof.CompFree
import PyProof.RulesDel
import PyProof.Rows.TupIter
import OpenK.KLine
import PyProof.Rows.AttrNodeAny
import Open.Line
import OpenK.KCall
import PyProof.SeqI3
import PyProof.SliceMore
import PyProof.Rows.TupAssign
import PyProof.AutoIntOpsIf
import PyProof.ListOps
import PyProof.AutoSeq1
import PyProof.FactsAll.list_1
import PySem.Challenge.RW_k11_0045
set_option Elab.async false
section
namespace Mine
open PySem

inductive AV where
  | none
  | bool (b : Bool)
  | int (i : Int)
  | str (x : Str)
  | ref (i : Nat)
  | stat (v : Value)

inductive AO where
  | list (xs : List AV)
  | tuple (xs : List AV)
  | inst (C : Addr) (d : Nat)
  | dict (fs : List (Str × AV))
  | range (a b c : Int)
  | slice (lo hi st : Option Int)
  | «ints» (ns : List Int)

abbrev AH := List AO
abbrev Locs := List (Str × AV)
abbrev Pr := Addr → Obj → Prop

inductive AF where
  | next | brk | cont
  | ret (v : AV)

def Ext (as as' : List Addr) : Prop := ∃ l, as' = as ++ l
theorem Ext.refl (as : List Addr) : Ext as as := ⟨[], by simp⟩
theorem Ext.trans {a b c : List Addr} (x : Ext a b) (y : Ext b c) : Ext a c := by
  obtain ⟨l, rfl⟩ := x; obtain ⟨k, rfl⟩ := y; exact ⟨l ++ k, by simp⟩
theorem Ext.snoc (as : List Addr) (a : Addr) : Ext as (as ++ [a]) := ⟨[a], rfl⟩
theorem Ext.get {as as' : List Addr} (x : Ext as as') {i : Nat} {a : Addr} (h : as[i]? = some a) : as'[i]? = some a := by
  obtain ⟨l, rfl⟩ := x
  have : i < as.length := by
    rcases Nat.lt_or_ge i as.length with h' | h'
    · exact h'
    · rw [List.getElem?_eq_none h'] at h; cases h
  rw [List.getElem?_append_left this]; exact h

def VRel (as : List Addr) (v : Value) : AV → Prop
  | .none => v = .none
  | .bool b => v = .bool b
  | .int i => ∃ t, v = .int i t
  | .str x => ∃ t, v = .str x t
  | .ref i => ∃ a, as[i]? = some a ∧ v = .ref a
  | .stat u => v = u
theorem VRel.ext {as as' : List Addr} (x : Ext as as') {v : Value} {av : AV} (h : VRel as v av) : VRel as' v av := by
  cases av with
  | ref i => obtain ⟨a, h1, h2⟩ := h; exact ⟨a, x.get h1, h2⟩
  | _ => exact h

def VsRel (as : List Addr) : List Value → List AV → Prop
  | [], [] => True
  | v :: vs, x :: xs => VRel as v x ∧ VsRel as vs xs
  | _, _ => False
theorem VsRel.ext {as as' : List Addr} (x : Ext as as') : ∀ {vs : List Value} {xs : List AV}, VsRel as vs xs → VsRel as' vs xs
  | [], [], _ => trivial
  | _ :: _, _ :: _, ⟨h, r⟩ => ⟨h.ext x, r.ext x⟩
theorem VsRel.x0 {as : List Addr} {vs : List Value} (h : VsRel as vs []) : vs = [] := by
  cases vs with
  | nil => rfl
  | cons v vs => exact h.elim
theorem VsRel.xs {as : List Addr} {vs : List Value} {x : AV} {xs : List AV} (h : VsRel as vs (x :: xs)) : ∃ v us, vs = v :: us ∧ VRel as v x ∧ VsRel as us xs := by
  cases vs with
  | nil => exact h.elim
  | cons v vs => exact ⟨v, vs, rfl, h.1, h.2⟩
theorem VsRel.x1 {as : List Addr} {vs : List Value} {x : AV} (h : VsRel as vs [x]) : ∃ v, vs = [v] ∧ VRel as v x := by
  obtain ⟨v, us, rfl, h1, h2⟩ := h.xs
  rw [h2.x0]; exact ⟨v, rfl, h1⟩
theorem VsRel.x2 {as : List Addr} {vs : List Value} {x y : AV} (h : VsRel as vs [x, y]) : ∃ v w, vs = [v, w] ∧ VRel as v x ∧ VRel as w y := by
  obtain ⟨v, us, rfl, h1, h2⟩ := h.xs
  obtain ⟨w, rfl, h3⟩ := h2.x1
  exact ⟨v, w, rfl, h1, h3⟩
theorem VsRel.length {as : List Addr} : ∀ {vs : List Value} {xs : List AV}, VsRel as vs xs → vs.length = xs.length
  | [], [], _ => rfl
  | _ :: _, _ :: _, ⟨_, r⟩ => by simp [r.length]
theorem VsRel.get {as : List Addr} : ∀ {vs : List Value} {xs : List AV}, VsRel as vs xs → ∀ {i : Nat} {x : AV}, xs[i]? = some x → ∃ v, vs[i]? = some v ∧ VRel as v x
  | [], [], _, _, _, h => by simp at h
  | v :: vs, x :: xs, ⟨h, r⟩, 0, y, e => by simp at e; subst e; exact ⟨v, rfl, h⟩
  | v :: vs, x :: xs, ⟨h, r⟩, i + 1, y, e => by simp at e; simpa using r.get e
theorem VsRel.append {as : List Addr} : ∀ {vs us : List Value} {xs ys : List AV}, VsRel as vs xs → VsRel as us ys → VsRel as (vs ++ us) (xs ++ ys)
  | [], _, [], _, _, h => h
  | _ :: _, _, _ :: _, _, ⟨h, r⟩, k => ⟨h, r.append k⟩
def FsRel (P : Params) (as : List Addr) : List DictEntry → List (Str × AV) → Prop
  | [], [] => True
  | e :: es, f :: fs => (∃ t, e.key = .str f.1 t) ∧ VRel as e.val f.2 ∧ FsRel P as es fs
  | _, _ => False
theorem FsRel.ext {P : Params} {as as' : List Addr} (x : Ext as as') : ∀ {es : List DictEntry} {fs : List (Str × AV)}, FsRel P as es fs → FsRel P as' es fs
  | [], [], _ => trivial
  | _ :: _, _ :: _, ⟨h, h2, r⟩ => ⟨h, h2.ext x, r.ext x⟩

def ORel (P : Params) (as : List Addr) (o : Obj) : AO → Prop
  | .list xs => ∃ vs n, o = ⟨.type "list", none, .seq (List.toArray vs) n, #[]⟩ ∧ VsRel as vs xs
  | .tuple xs => ∃ vs n, o = ⟨.type "tuple", none, .seq (List.toArray vs) n, #[]⟩ ∧ VsRel as vs xs
  | .inst C d => ∃ dx, as[d]? = some dx ∧ o = ⟨.ref C, some dx, .plain, #[]⟩
  | .dict fs => ∃ es n, o = ⟨.type "dict", none, .dict (List.toArray es) n, #[]⟩ ∧ FsRel P as es fs
  | .range a b c => ∃ t u v, o = ⟨.type "range", none, .fields #[.int a t, .int b u, .int c v], #[]⟩
  | .slice lo hi st => ∃ vl vu vs, o = ⟨.type "slice", none, .fields #[vl, vu, vs], #[]⟩ ∧ IsPart vl lo ∧ IsPart vu hi ∧ IsPart vs st
  | .ints ns => ∃ vs n, o.cls = .type "list" ∧ o.data = .seq (List.toArray vs) n ∧ VsRel as vs (ns.map AV.int)
theorem ORel.ext {P : Params} {as as' : List Addr} (x : Ext as as') {o : Obj} {ao : AO} (h : ORel P as o ao) : ORel P as' o ao := by
  cases ao with
  | list xs => obtain ⟨vs, n, e, r⟩ := h; exact ⟨vs, n, e, r.ext x⟩
  | tuple xs => obtain ⟨vs, n, e, r⟩ := h; exact ⟨vs, n, e, r.ext x⟩
  | inst C d => obtain ⟨dx, e, r⟩ := h; exact ⟨dx, x.get e, r⟩
  | dict fs => obtain ⟨es, n, e, r⟩ := h; exact ⟨es, n, e, r.ext x⟩
  | range a b c => exact h
  | slice a b c => exact h
  | «ints» ns => obtain ⟨vs, n, e, e2, r⟩ := h; exact ⟨vs, n, e, e2, r.ext x⟩
def AO.isMut : AO → Bool
  | .ints _ => false
  | _ => true

structure Wd where
  prog : Program
  w : World
  H : Heap
  mg : Str → Option Value
  mb : Str → Option Value
  gl : H.Ns mainGlobals mg
  bl : H.Ns builtinsNs mb
  bt : ∀ x : Str, x ≠ "__name__" → mb x = bootBuiltins x
  lim : H.NoLimit

def Wd.In (W : Wd) (P : Pr) : Prop := ∀ a o, W.H.get? a = some o → P a o

structure Rep (W : Wd) (P : Pr) (as : List Addr) (σ : AH) (h : Heap) : Prop where
  len : as.length = σ.length
  nd : as.Nodup
  keep : ∀ a o, P a o → h.get? a = some o
  obj : ∀ (i : Nat) a ao, as[i]? = some a → σ[i]? = some ao →
    ∃ o, h.get? a = some o ∧ ORel W.w.params as o ao ∧ (ao.isMut = true → ∀ o', ¬ P a o') ∧ (ao.isMut = false → W.H.get? a = some o)

section
variable {W : Wd} {P P' : Pr} {as : List Addr} {σ : AH} {h h' : Heap}
theorem Rep.weaken (R : Rep W P as σ h) (hp : ∀ a o, P' a o → P a o) : Rep W P' as σ h :=
  ⟨R.len, R.nd, fun a o x => R.keep a o (hp a o x), fun i a ao h1 h2 => by
    obtain ⟨o, e, r, m, n⟩ := R.obj i a ao h1 h2
    exact ⟨o, e, r, fun hm o' x => m hm o' (hp _ _ x), n⟩⟩
theorem Rep.grow (R : Rep W P as σ h) (hk : ∀ b o, h.get? b = some o → h'.get? b = some o) : Rep W P as σ h' :=
  ⟨R.len, R.nd, fun a o x => hk _ _ (R.keep a o x), fun i a ao h1 h2 => by
    obtain ⟨o, e, r⟩ := R.obj i a ao h1 h2
    exact ⟨o, hk _ _ e, r⟩⟩
theorem Rep.idx (R : Rep W P as σ h) {i : Nat} {ao : AO} (e : σ[i]? = some ao) : ∃ a, as[i]? = some a := by
  have hi : i < σ.length := by
    rcases Nat.lt_or_ge i σ.length with h' | h'
    · exact h'
    · rw [List.getElem?_eq_none h'] at e; cases e
  rw [← R.len] at hi
  exact ⟨as[i], by simp⟩
theorem Rep.at (R : Rep W P as σ h) {i : Nat} {ao : AO} (e : σ[i]? = some ao) : ∃ a o, as[i]? = some a ∧ h.get? a = some o ∧ ORel W.w.params as o ao := by
  obtain ⟨a, ha⟩ := R.idx e
  obtain ⟨o, h1, h2, _⟩ := R.obj i a ao ha e
  exact ⟨a, o, ha, h1, h2⟩
theorem Rep.lt (R : Rep W P as σ h) {a : Addr} (ha : a ∈ as) : ∃ o, h.get? a = some o := by
  obtain ⟨i, hi⟩ := List.mem_iff_getElem?.mp ha
  have hl : i < as.length := by
    rcases Nat.lt_or_ge i as.length with h' | h'
    · exact h'
    · rw [List.getElem?_eq_none h'] at hi; cases hi
  have hs : i < σ.length := R.len ▸ hl
  obtain ⟨o, e, _⟩ := R.obj i a σ[i] hi (by simp)
  exact ⟨o, e⟩
theorem Rep.alloc (R : Rep W P as σ h) {a : Addr} {o : Obj} {ao : AO} (hf : h.get? a = none) (hk : ∀ b x, h.get? b = some x → h'.get? b = some x) (e : h'.get? a = some o)
    (r : ORel W.w.params (as ++ [a]) o ao) (hm : ao.isMut = true) : Rep W P (as ++ [a]) (σ ++ [ao]) h' := by
  have na : a ∉ as := fun q => by obtain ⟨x, ex⟩ := R.lt q; rw [hf] at ex; cases ex
  refine ⟨by simp [R.len], ?_, fun b x q => hk _ _ (R.keep b x q), fun i b bo h1 h2 => ?_⟩
  · rw [List.nodup_append]
    exact ⟨R.nd, by simp, fun x hx y hy e => by simp at hy; exact na (hy ▸ e ▸ hx)⟩
  · rcases Nat.lt_trichotomy i as.length with q | q | q
    · rw [List.getElem?_append_left q] at h1
      rw [List.getElem?_append_left (R.len ▸ q)] at h2
      obtain ⟨x, e1, r1, m1⟩ := R.obj i b bo h1 h2
      exact ⟨x, hk _ _ e1, r1.ext (Ext.snoc ..), m1⟩
    · subst q
      have h1' : b = a := by simpa using h1.symm
      have h2' : bo = ao := by rw [R.len] at h2; simpa using h2.symm
      subst h1' h2'
      exact ⟨o, e, r, (fun _ o' q => by have := R.keep _ _ q; rw [hf] at this; cases this), (fun q => by rw [hm] at q; cases q)⟩
    · rw [List.getElem?_eq_none (by rw [List.length_append, List.length_singleton]; (first|lia|omega))] at h1; cases h1

def Pr.add (P : Pr) (a : Addr) (o : Obj) : Pr := fun b x => P b x ∨ (b = a ∧ x = o)
def Pr.or (P O : Pr) : Pr := fun b x => P b x ∨ O b x
theorem Rep.hold (R : Rep W P as σ h) {a : Addr} {o : Obj} (na : a ∉ as) (e : h.get? a = some o) : Rep W (P.add a o) as σ h :=
  ⟨R.len, R.nd, fun b x q => q.elim (R.keep b x) (fun ⟨h1, h2⟩ => by subst h1 h2; exact e), fun i b bo h1 h2 => by
    obtain ⟨x, e1, r1, m1, n1⟩ := R.obj i b bo h1 h2
    refine ⟨x, e1, r1, fun hm o' q => q.elim (m1 hm o') fun ⟨z, _⟩ => na (z ▸ List.mem_of_getElem? h1), n1⟩⟩
theorem Rep.set (R : Rep W P as σ h) {i : Nat} {a : Addr} {o' : Obj} {ao ao' : AO} (ha : as[i]? = some a) (hs : σ[i]? = some ao) (hm : ao.isMut = true) (hm' : ao'.isMut = true)
    (same : Heap.SameBut a h h') (e : h'.get? a = some o') (r : ORel W.w.params as o' ao') : Rep W P as (σ.set i ao') h' := by
  obtain ⟨o, e0, r0, m0, _⟩ := R.obj i a ao ha hs
  refine ⟨by simp [R.len], R.nd, fun b x q => ?_, fun j b bo h1 h2 => ?_⟩
  · have hb : b ≠ a := fun z => m0 hm x (z ▸ q)
    exact (same.2 b hb).trans (R.keep b x q)
  · rw [List.getElem?_set] at h2
    by_cases q : i = j
    · subst q
      rw [if_pos rfl] at h2
      have hb : b = a := by rw [ha] at h1; exact (Option.some.inj h1).symm
      subst hb
      split at h2
      · cases h2
        exact ⟨o', e, r, (fun _ => m0 hm), (fun z => by rw [hm'] at z; cases z)⟩
      · cases h2
    · rw [if_neg q] at h2
      have hb : b ≠ a := fun z => by
        subst z
        exact q ((List.getElem?_inj (List.getElem?_eq_some_iff.mp ha).1 R.nd).mp (ha.trans h1.symm))
      obtain ⟨x, e1, r1⟩ := R.obj j b bo h1 h2
      exact ⟨x, (same.2 b hb).trans e1, r1⟩
end
end Mine
end
section
namespace Mine
open PySem

def Room (n : Nat) (A : Around) : Prop := A.handled = none ∧ A.depth + 10 * n + 20 < recursionLimit ∧ A.units + 100 * n + 200 < cLine
theorem Room.deeper {n : Nat} {A : Around} (h : Room (n + 1) A) (env : Env) : Room n (A.deeper env) := by
  refine ⟨h.1, ?_, ?_⟩
  · have := h.2.1; show A.depth + 1 + 10 * n + 20 < _; (first|lia|omega)
  · have := h.2.2; show A.units + 3 + 100 * n + 200 < _; (first|lia|omega)

structure EnvIs (env : Env) (sc : Scope) : Prop where
  kind : sc.kind = .function
  sc : env.scope = sc
  gl : env.globals = mainGlobals
  bl : env.builtins = builtinsNs

def NsObj (o : Obj) (mm : Str → Option Value) : Prop := ∃ es ep, o.data = .dict es ep ∧ StrKeys es ∧ ∀ name, nsFind es name = mm name
theorem NsObj.ns {o : Obj} {mm : Str → Option Value} {h : Heap} {a : Addr} (x : NsObj o mm) (e : h.get? a = some o) : h.Ns a mm := by
  obtain ⟨es, ep, h1, h2⟩ := x; exact ⟨o, es, ep, e, h1, h2⟩
theorem NsObj.of {mm : Str → Option Value} {h : Heap} {a : Addr} (x : h.Ns a mm) : ∃ o, h.get? a = some o ∧ NsObj o mm := by
  obtain ⟨o, es, ep, e, h1, h2⟩ := x; exact ⟨o, e, es, ep, h1, h2⟩

structure Loc (P : Pr) (env : Env) (m : Locs) (as : List Addr) : Prop where
  loc : ∃ oL mm, P env.locals oL ∧ NsObj oL mm ∧ ∀ x av, m.lookup x = some av → env.scope.names.lookup x = some .local → ∃ v, VRel as v av ∧ mm x = some v
  cel : ∀ x av, m.lookup x = some av → (env.scope.names.lookup x = some .cell ∨ env.scope.names.lookup x = some .free) →
    ∃ v c o, VRel as v av ∧ env.cells.lookup x = some c ∧ P c o ∧ o.data = .cell (some v)
theorem Loc.ext {P : Pr} {env : Env} {m : Locs} {as as' : List Addr} (x : Loc P env m as) (e : Ext as as') : Loc P env m as' := by
  refine ⟨?_, fun y av h1 h2 => ?_⟩
  · obtain ⟨oL, mm, h1, h2, h3⟩ := x.loc
    exact ⟨oL, mm, h1, h2, fun y av a b => let ⟨v, p, q⟩ := h3 y av a b; ⟨v, p.ext e, q⟩⟩
  · obtain ⟨v, c, o, p, q⟩ := x.cel y av h1 h2; exact ⟨v, c, o, p.ext e, q⟩
theorem Loc.up {P P' : Pr} {env : Env} {m : Locs} {as : List Addr} (x : Loc P env m as) (hp : ∀ a o, P a o → P' a o) : Loc P' env m as := by
  refine ⟨?_, fun y av h1 h2 => ?_⟩
  · obtain ⟨oL, mm, h1, h2, h3⟩ := x.loc
    exact ⟨oL, mm, hp _ _ h1, h2, h3⟩
  · obtain ⟨v, c, o, p, q, r, t⟩ := x.cel y av h1 h2; exact ⟨v, c, o, p, q, hp _ _ r, t⟩

def Run (W : Wd) (P : Pr) (A : Around) (as : List Addr) (s : Shared) (t : Sem Value) (Q : AV → AH → Prop) : Prop :=
  ∀ (Qc : Value → Shared → Prop) (E : Value → Shared → Prop),
    (∀ v av h' tk' as' σ', Ext as as' → VRel as' v av → Rep W P as' σ' h' → Q av σ' → Qc v { s with heap := h', toks := tk' }) →
    wpAny (model W.prog W.w) A t Qc E s
def RunB (W : Wd) (P : Pr) (A : Around) (as : List Addr) (s : Shared) (t : Sem Bool) (Q : Bool → AH → Prop) : Prop :=
  ∀ (Qc : Bool → Shared → Prop) (E : Value → Shared → Prop),
    (∀ b h' tk' as' σ', Ext as as' → Rep W P as' σ' h' → Q b σ' → Qc b { s with heap := h', toks := tk' }) →
    wpAny (model W.prog W.w) A t Qc E s

def TE (W : Wd) (n : Nat) (sc : Scope) (m : Locs) (e : Expr) (Q : AV → AH → Prop) (σ : AH) : Prop :=
  ∀ (A : Around) (env : Env) (P : Pr) (as : List Addr) (s : Shared), Room n A → EnvIs env sc → W.In P → Loc P env m as → Rep W P as σ s.heap →
    Run W P A as s (eval e env) Q
def TT (W : Wd) (n : Nat) (sc : Scope) (m : Locs) (e : Expr) (Q : Bool → AH → Prop) (σ : AH) : Prop :=
  ∀ (A : Around) (env : Env) (P : Pr) (as : List Addr) (s : Shared), Room n A → EnvIs env sc → W.In P → Loc P env m as → Rep W P as σ s.heap →
    RunB W P A as s (isTrue e env (eval e env)) Q
def TBin (W : Wd) (n : Nat) (op : Operator) (a b : AV) (Q : AV → AH → Prop) (σ : AH) : Prop :=
  ∀ (A : Around) (P : Pr) (as : List Addr) (s : Shared) (va vb : Value), Room n A → W.In P → VRel as va a → VRel as vb b → Rep W P as σ s.heap → Run W P A as s (binaryOp op va vb) Q
def TCmp (W : Wd) (n : Nat) (op : CmpOp) (a b : AV) (Q : AV → AH → Prop) (σ : AH) : Prop :=
  ∀ (A : Around) (P : Pr) (as : List Addr) (s : Shared) (va vb : Value), Room n A → W.In P → VRel as va a → VRel as vb b → Rep W P as σ s.heap → Run W P A as s (compareOp op va vb) Q
def TUn (W : Wd) (n : Nat) (op : UnaryOp) (a : AV) (Q : AV → AH → Prop) (σ : AH) : Prop :=
  ∀ (A : Around) (P : Pr) (as : List Addr) (s : Shared) (va : Value), Room n A → W.In P → VRel as va a → Rep W P as σ s.heap → Run W P A as s (unaryOp op va) Q
def TTr (W : Wd) (n : Nat) (a : AV) (Q : Bool → AH → Prop) (σ : AH) : Prop :=
  ∀ (A : Around) (P : Pr) (as : List Addr) (s : Shared) (va : Value), Room n A → W.In P → VRel as va a → Rep W P as σ s.heap → RunB W P A as s (truthy va) Q
def TCall (W : Wd) (n : Nat) (f : AV) (args : List AV) (Q : AV → AH → Prop) (σ : AH) : Prop :=
  ∀ (A : Around) (P : Pr) (as : List Addr) (s : Shared) (fv : Value) (vals : List Value), Room n A → W.In P → VRel as fv f → VsRel as vals args → Rep W P as σ s.heap → Run W P A as s (call fv vals) Q

section
variable {W : Wd} {n : Nat} {sc : Scope} {m : Locs} {σ : AH} {Q : AV → AH → Prop} {pos : Pos}

theorem TE.mono {e : Expr} {Q' : AV → AH → Prop} (h : TE W n sc m e Q σ) (hq : ∀ v σ, Q v σ → Q' v σ) : TE W n sc m e Q' σ :=
  fun A env P as s r e i l R Qc E k => h A env P as s r e i l R Qc E fun v av h' tk' as' σ' x y z q => k v av h' tk' as' σ' x y z (hq _ _ q)
theorem kD {i : Int} {k : Nat} (h : Q (.int i) σ) : TE W n sc m (.Constant (.int i) k pos) Q σ :=
  fun _ _ _ as s _ _ _ _ R _ _ c => wpAny_Constant_int (c _ (.int i) s.heap _ as σ (Ext.refl _) ⟨_, rfl⟩ R h)
theorem gY {b : Bool} {k : Nat} (h : Q (.bool b) σ) : TE W n sc m (.Constant (.bool b) k pos) Q σ :=
  fun _ _ _ as s _ _ _ _ R _ _ c => wpAny_Constant_bool (c _ (.bool b) s.heap s.toks as σ (Ext.refl _) rfl R h)
theorem kJ {x : Str} {k : Nat} (h : Q (.str x) σ) : TE W n sc m (.Constant (.str x) k pos) Q σ :=
  fun _ _ _ as s _ _ _ _ R _ _ c => wpAny_Constant_str (c _ (.str x) s.heap _ as σ (Ext.refl _) ⟨_, rfl⟩ R h)

def nameOk (sc : Scope) (x : Str) : Bool := match sc.names.lookup x with
  | some .local | some .cell => !(x == ("__debug__" : Str))
  | some .free => !(x == ("__debug__" : Str)) && !(x == ("__classdict__" : Str))
  | _ => false
theorem kG {x : Str} {av : AV} (hm : m.lookup x = some av) (hk : nameOk sc x = true) (h : Q av σ) : TE W n sc m (.Name x pos) Q σ := by
  intro A env P as s _ he _ hl R Qc E c
  have fin : ∀ v, VRel as v av → Qc v s := fun v hv => c v av s.heap s.toks as σ (Ext.refl _) hv R h
  unfold nameOk at hk
  have hsc : env.scope.kind = .function := by rw [he.sc]; exact he.kind
  split at hk
  · rename_i hn
    obtain ⟨oL, mm, h1, h2, h3⟩ := hl.loc
    obtain ⟨v, hv, hmm⟩ := h3 x av hm (by rw [he.sc]; exact hn)
    exact wpAny_Name (wpAny_loadName_local hsc (by unfold Env.kindOf; rw [he.sc]; exact hn) (h2.ns (R.keep _ _ h1)) hmm (fin v hv)) (by simpa using hk)
  · rename_i hn
    obtain ⟨v, cc, o, hv, h1, h2, h3⟩ := hl.cel x av hm (.inl (by rw [he.sc]; exact hn))
    exact wpAny_Name (wpAny_loadName_cell hsc (by unfold Env.kindOf; rw [he.sc]; exact hn) h1 ⟨o, R.keep _ _ h2, h3⟩ (fin v hv)) (by simpa using hk)
  · rename_i hn
    obtain ⟨v, cc, o, hv, h1, h2, h3⟩ := hl.cel x av hm (.inr (by rw [he.sc]; exact hn))
    rw [Bool.and_eq_true] at hk
    exact wpAny_Name (wpAny_loadName_free hsc (by unfold Env.kindOf; rw [he.sc]; exact hn) h1 ⟨o, R.keep _ _ h2, h3⟩ (fin v hv) (by simpa using hk.2)) (by simpa using hk.1)
  · cases hk
def globOk (sc : Scope) (x : Str) : Bool := match sc.names.lookup x with
  | some .globalImplicit => !(x == ("__debug__" : Str))
  | _ => false
theorem te_glob {x : Str} {v : Value} (hm : W.mg x = some v) (hk : globOk sc x = true) (h : Q (.stat v) σ) : TE W n sc m (.Name x pos) Q σ := by
  intro A env P as s _ he hi _ R Qc E c
  unfold globOk at hk
  split at hk
  · rename_i hn
    refine Calls.Name_function_global (by rw [he.sc]; exact he.kind) (by unfold Env.kindOf; rw [he.sc]; exact hn) ?_ (by simpa using hk)
    refine Calls.loadGlobal_global (mg := W.mg) ?_ hm (c v (.stat v) s.heap s.toks as σ (Ext.refl _) rfl R h)
    rw [he.gl]; exact W.gl.keeps fun b o q => R.keep b o (hi b o q)
  · cases hk
theorem gZ {x : Str} {v : Value} (hm : W.mg x = none) (hb : bootBuiltins x = some v) (hn : x ≠ "__name__") (hk : globOk sc x = true) (h : Q (.stat v) σ) : TE W n sc m (.Name x pos) Q σ := by
  intro A env P as s _ he hi _ R Qc E c
  unfold globOk at hk
  split at hk
  · rename_i hn'
    refine Calls.Name_function_global (by rw [he.sc]; exact he.kind) (by unfold Env.kindOf; rw [he.sc]; exact hn') ?_ (by simpa using hk)
    refine Calls.loadGlobal_builtin (mg := W.mg) (mb := W.mb) ?_ hm ?_ ((W.bt x hn).trans hb) (c v (.stat v) s.heap s.toks as σ (Ext.refl _) rfl R h)
    · rw [he.gl]; exact W.gl.keeps fun b o q => R.keep b o (hi b o q)
    · rw [he.bl]; exact W.bl.keeps fun b o q => R.keep b o (hi b o q)
  · cases hk

theorem gX {l r : Expr} {op : Operator} (h : TE W n sc m l (fun a σ₁ => TE W n sc m r (fun b σ₂ => TBin W n op a b Q σ₂) σ₁) σ) : TE W n sc m (.BinOp l op r pos) Q σ := by
  intro A env P as s hr he hi hl R Qc E c
  refine wpAny_BinOp (h A env P as s hr he hi hl R _ E fun va a h₁ tk₁ as₁ σ₁ x₁ r₁ R₁ q₁ => ?_)
  refine q₁ A env P as₁ _ hr he hi (hl.ext x₁) R₁ _ E fun vb b h₂ tk₂ as₂ σ₂ x₂ r₂ R₂ q₂ => ?_
  refine q₂ A P as₂ _ va vb hr hi (r₁.ext x₂) r₂ R₂ _ E fun v av h₃ tk₃ as₃ σ₃ x₃ r₃ R₃ q₃ => ?_
  exact c v av h₃ tk₃ as₃ σ₃ ((x₁.trans x₂).trans x₃) r₃ R₃ q₃
theorem kB {l r : Expr} {op : CmpOp} (hm : behindInMarks op r = false) (h : TE W n sc m l (fun a σ₁ => TE W n sc m r (fun b σ₂ => TCmp W n op a b Q σ₂) σ₁) σ) : TE W n sc m (.Compare l [op] [r] pos) Q σ := by
  intro A env P as s hr he hi hl R Qc E c
  refine wpAny_Compare1 (h A env P as s hr he hi hl R _ E fun va a h₁ tk₁ as₁ σ₁ x₁ r₁ R₁ q₁ => ?_) hm
  refine q₁ A env P as₁ _ hr he hi (hl.ext x₁) R₁ _ E fun vb b h₂ tk₂ as₂ σ₂ x₂ r₂ R₂ q₂ => ?_
  refine q₂ A P as₂ _ va vb hr hi (r₁.ext x₂) r₂ R₂ _ E fun v av h₃ tk₃ as₃ σ₃ x₃ r₃ R₃ q₃ => ?_
  exact c v av h₃ tk₃ as₃ σ₃ ((x₁.trans x₂).trans x₃) r₃ R₃ q₃
theorem kL {l : Expr} {op : UnaryOp} (h : TE W n sc m l (fun a σ₁ => TUn W n op a Q σ₁) σ) : TE W n sc m (.UnaryOp op l pos) Q σ := by
  intro A env P as s hr he hi hl R Qc E c
  refine wpAny_UnaryOp (h A env P as s hr he hi hl R _ E fun va a h₁ tk₁ as₁ σ₁ x₁ r₁ R₁ q₁ => ?_)
  exact q₁ A P as₁ _ va hr hi r₁ R₁ _ E fun v av h₃ tk₃ as₃ σ₃ x₃ r₃ R₃ q₃ => c v av h₃ tk₃ as₃ σ₃ (x₁.trans x₃) r₃ R₃ q₃
theorem te_and {x y : Expr} (h : TE W n sc m x (fun a σ₁ => TTr W n a (fun t σ₂ => if t then TE W n sc m y Q σ₂ else Q a σ₂) σ₁) σ) : TE W n sc m (.BoolOp .And [x, y] pos) Q σ := by
  intro A env P as s hr he hi hl R Qc E c
  refine wpAny_And2 (h A env P as s hr he hi hl R _ E fun va a h₁ tk₁ as₁ σ₁ x₁ r₁ R₁ q₁ => ?_)
  refine q₁ A P as₁ _ va hr hi r₁ R₁ _ E fun b h₂ tk₂ as₂ σ₂ x₂ R₂ q₂ => ?_
  cases b with
  | true => exact q₂ A env P as₂ _ hr he hi (hl.ext (x₁.trans x₂)) R₂ _ E fun v av h₃ tk₃ as₃ σ₃ x₃ r₃ R₃ q₃ => c v av h₃ tk₃ as₃ σ₃ ((x₁.trans x₂).trans x₃) r₃ R₃ q₃
  | false => exact c va a h₂ tk₂ as₂ σ₂ (x₁.trans x₂) (r₁.ext x₂) R₂ q₂
theorem te_or {x y : Expr} (h : TE W n sc m x (fun a σ₁ => TTr W n a (fun t σ₂ => if t then Q a σ₂ else TE W n sc m y Q σ₂) σ₁) σ) : TE W n sc m (.BoolOp .Or [x, y] pos) Q σ := by
  intro A env P as s hr he hi hl R Qc E c
  refine wpAny_Or2 (h A env P as s hr he hi hl R _ E fun va a h₁ tk₁ as₁ σ₁ x₁ r₁ R₁ q₁ => ?_)
  refine q₁ A P as₁ _ va hr hi r₁ R₁ _ E fun b h₂ tk₂ as₂ σ₂ x₂ R₂ q₂ => ?_
  cases b with
  | false => exact q₂ A env P as₂ _ hr he hi (hl.ext (x₁.trans x₂)) R₂ _ E fun v av h₃ tk₃ as₃ σ₃ x₃ r₃ R₃ q₃ => c v av h₃ tk₃ as₃ σ₃ ((x₁.trans x₂).trans x₃) r₃ R₃ q₃
  | true => exact c va a h₂ tk₂ as₂ σ₂ (x₁.trans x₂) (r₁.ext x₂) R₂ q₂
variable {QB : Bool → AH → Prop}
theorem pH {l r : Expr} {op : CmpOp} (hm : behindInMarks op r = false) (h : TE W n sc m l (fun a σ₁ => TE W n sc m r (fun b σ₂ => TCmp W n op a b (fun v σ₃ => TTr W n v QB σ₃) σ₂) σ₁) σ) : TT W n sc m (.Compare l [op] [r] pos) QB σ := by
  intro A env P as s hr he hi hl R Qc E c
  refine wpAny_isTrue_Compare1 (h A env P as s hr he hi hl R _ E fun va a h₁ tk₁ as₁ σ₁ x₁ r₁ R₁ q₁ => ?_) hm
  refine q₁ A env P as₁ _ hr he hi (hl.ext x₁) R₁ _ E fun vb b h₂ tk₂ as₂ σ₂ x₂ r₂ R₂ q₂ => ?_
  refine q₂ A P as₂ _ va vb hr hi (r₁.ext x₂) r₂ R₂ _ E fun v av h₃ tk₃ as₃ σ₃ x₃ r₃ R₃ q₃ => ?_
  exact q₃ A P as₃ _ v hr hi r₃ R₃ _ E fun b h₄ tk₄ as₄ σ₄ x₄ R₄ q₄ => c b h₄ tk₄ as₄ σ₄ (((x₁.trans x₂).trans x₃).trans x₄) R₄ q₄
theorem pJ {x : Expr} (h : TT W n sc m x (fun b σ₁ => QB (!b) σ₁) σ) : TT W n sc m (.UnaryOp .Not x pos) QB σ := by
  intro A env P as s hr he hi hl R Qc E c
  exact wpAny_isTrue_Not (h A env P as s hr he hi hl R _ E fun b h₁ tk₁ as₁ σ₁ x₁ R₁ q₁ => c _ h₁ tk₁ as₁ σ₁ x₁ R₁ q₁)
def TAll (W : Wd) (n : Nat) (sc : Scope) (m : Locs) (op : BoolOp) (es : List Expr) (QB : Bool → AH → Prop) (σ : AH) : Prop :=
  ∀ (A : Around) (env : Env) (P : Pr) (as : List Addr) (s : Shared), Room n A → EnvIs env sc → W.In P → Loc P env m as → Rep W P as σ s.heap →
    RunB W P A as s (allTrue op es env) QB
theorem pG {op : BoolOp} {es : List Expr} (h : TAll W n sc m op es QB σ) : TT W n sc m (.BoolOp op es pos) QB σ :=
  fun A env P as s hr he hi hl R Qc E c => wpAny_isTrue_BoolOp (h A env P as s hr he hi hl R Qc E c)
theorem gB (h : QB true σ) : TAll W n sc m .And [] QB σ := fun _ _ _ as s _ _ _ _ R _ _ c => wpAny_allTrue_And_nil (c true s.heap s.toks as σ (Ext.refl _) R h)
theorem gA {x : Expr} {es : List Expr} (h : TT W n sc m x (fun b σ₁ => if b then TAll W n sc m .And es QB σ₁ else QB false σ₁) σ) : TAll W n sc m .And (x :: es) QB σ := by
  intro A env P as s hr he hi hl R Qc E c
  refine wpAny_allTrue_And_cons (h A env P as s hr he hi hl R _ E fun b h₁ tk₁ as₁ σ₁ x₁ R₁ q₁ => ?_)
  cases b with
  | true => exact q₁ A env P as₁ _ hr he hi (hl.ext x₁) R₁ _ E fun b h₂ tk₂ as₂ σ₂ x₂ R₂ q₂ => c b h₂ tk₂ as₂ σ₂ (x₁.trans x₂) R₂ q₂
  | false => exact c false h₁ tk₁ as₁ σ₁ x₁ R₁ q₁
def plainTest : Expr → Bool
  | .UnaryOp .Not _ _ => false
  | .BoolOp .. => false
  | .IfExp .. => false
  | .Compare .. => false
  | _ => true
theorem pK {e : Expr} (hp : plainTest e = true) (h : TE W n sc m e (fun v σ₁ => TTr W n v QB σ₁) σ) : TT W n sc m e QB σ := by
  intro A env P as s hr he hi hl R Qc E c
  refine wpAny_isTrue_value (h A env P as s hr he hi hl R _ E fun v av h₁ tk₁ as₁ σ₁ x₁ r₁ R₁ q₁ => ?_) ?_
  · exact q₁ A P as₁ _ v hr hi r₁ R₁ _ E fun b h₂ tk₂ as₂ σ₂ x₂ R₂ q₂ => c b h₂ tk₂ as₂ σ₂ (x₁.trans x₂) R₂ q₂
  · cases e <;> first | rfl | (cases hp; done) | skip
    rename_i op x p
    cases op <;> first | rfl | (cases hp; done)
theorem pM {b : Bool} (h : QB b σ) : TTr W n (.bool b) QB σ := by
  intro A P as s va _ _ hv R Qc E c
  cases hv
  exact wpAny_truthy_bool (c b s.heap s.toks as σ (Ext.refl _) R h)

variable {a b : Int}
theorem tbin_of {op : Operator} {a b z : Int} (h : Q (.int z) σ)
    (rule : ∀ (A : Around) (s : Shared) (t u : Tok) (Qc : Value → Shared → Prop) (E : Value → Shared → Prop), Room n A → Qc (.int z s.toks) { s with toks := s.toks + 1 } → wpAny (model W.prog W.w) A (binaryOp op (.int a t) (.int b u)) Qc E s) : TBin W n op (.int a) (.int b) Q σ := by
  intro A P as s va vb hr _ h1 h2 R Qc E c
  obtain ⟨t, rfl⟩ := h1
  obtain ⟨u, rfl⟩ := h2
  exact rule A s t u Qc E hr (c _ (.int z) s.heap _ as σ (Ext.refl _) ⟨_, rfl⟩ R h)
theorem gJ (h : Q (.int (a + b)) σ) : TBin W n .Add (.int a) (.int b) Q σ := tbin_of h fun _ _ _ _ _ _ _ q => P.add_int q
theorem gN (h : Q (.int (a - b)) σ) : TBin W n .Sub (.int a) (.int b) Q σ := tbin_of h fun _ _ _ _ _ _ _ q => P.sub_int q
theorem gM (hm : IntMulOk a b) (h : Q (.int (a * b)) σ) : TBin W n .Mult (.int a) (.int b) Q σ := tbin_of h fun _ _ _ _ _ _ _ q => P.mul_int q hm
theorem gL (hb : b ≠ 0) (h : Q (.int (a.fmod b)) σ) : TBin W n .Mod (.int a) (.int b) Q σ := tbin_of h fun _ _ _ _ _ _ _ q => AutoIntOps.mod_1 (by simpa using hb) q
theorem gK (hb : b ≠ 0) (hp : Builtin.divisionGoesByPylong a b = false) (h : Q (.int (a.fdiv b)) σ) : TBin W n .FloorDiv (.int a) (.int b) Q σ := tbin_of h fun _ _ _ _ _ _ _ q => AutoIntOps.floordiv_1 (by simpa using hb) (by simp [hp]) q
theorem tcmp_of {op : CmpOp} {a b : Int} {z : Bool} (h : Q (.bool z) σ)
    (rule : ∀ (A : Around) (s : Shared) (t u : Tok) (Qc : Value → Shared → Prop) (E : Value → Shared → Prop), Qc (.bool z) s → wpAny (model W.prog W.w) A (compareOp op (.int a t) (.int b u)) Qc E s) : TCmp W n op (.int a) (.int b) Q σ := by
  intro A P as s va vb _ _ h1 h2 R Qc E c
  obtain ⟨t, rfl⟩ := h1
  obtain ⟨u, rfl⟩ := h2
  exact rule A s t u Qc E (c _ (.bool z) s.heap s.toks as σ (Ext.refl _) rfl R h)
theorem gU (h : Q (.bool (decide (a < b))) σ) : TCmp W n .Lt (.int a) (.int b) Q σ := tcmp_of h fun _ _ _ _ _ _ q => P.lt_int q
theorem gQ (h : Q (.bool (decide (b < a))) σ) : TCmp W n .Gt (.int a) (.int b) Q σ := tcmp_of h fun _ _ _ _ _ _ q => P.gt_int q
theorem gO (h : Q (.bool (a == b)) σ) : TCmp W n .Eq (.int a) (.int b) Q σ := tcmp_of h fun _ _ _ _ _ _ q => P.eq_int q
theorem gV (h : Q (.bool (a != b)) σ) : TCmp W n .NotEq (.int a) (.int b) Q σ := tcmp_of h fun _ _ _ _ _ _ q => P.ne_int q
theorem pN (h : Q (.int (-a)) σ) : TUn W n .USub (.int a) Q σ := by
  intro A P as s va _ _ h1 R Qc E c
  obtain ⟨t, rfl⟩ := h1
  exact PySem.P.neg_int (c _ (.int (-a)) s.heap _ as σ (Ext.refl _) ⟨_, rfl⟩ R h)
theorem pO {v : AV} (h : TTr W n v (fun b σ₁ => Q (.bool (!b)) σ₁) σ) : TUn W n .Not v Q σ := by
  intro A P as s va hr hi h1 R Qc E c
  exact not_value (h A P as s va hr hi h1 R _ E fun b h₂ tk₂ as₂ σ₂ x₂ R₂ q₂ => c _ (.bool (!b)) h₂ tk₂ as₂ σ₂ x₂ rfl R₂ q₂)
end
end Mine
end
section
namespace Mine
open PySem

def FRel (as : List Addr) (f : Flow) : AF → Prop
  | .next => f = .next
  | .brk => f = .brk
  | .cont => f = .cont
  | .ret v => ∃ x, f = .ret x ∧ VRel as x v
structure Own (env : Env) (own : List Addr) (P O : Pr) : Prop where
  loc : env.locals ∈ own
  cel : ∀ x c, env.cells.lookup x = some c → c ∈ own ∧ c ≠ env.locals ∧ ∃ o v, O c o ∧ o.data = .cell v
  hasC : ∀ x, env.scope.names.lookup x = some .cell → ∃ c, env.cells.lookup x = some c
  inj : ∀ x y c, env.cells.lookup x = some c → env.cells.lookup y = some c → x = y
  dom : ∀ a o, O a o → a ∈ own
  has : ∀ a ∈ own, ∃ o, O a o
  off : ∀ a ∈ own, ∀ o, ¬ P a o
def Pr.put (O : Pr) (a : Addr) (o : Obj) : Pr := fun b x => (b = a ∧ x = o) ∨ (b ≠ a ∧ O b x)

def setL (x : Str) (v : AV) : Locs → Locs
  | [] => [(x, v)]
  | (y, w) :: r => if x == y then (y, v) :: r else (y, w) :: setL x v r
theorem setL_same (x : Str) (v : AV) : ∀ m : Locs, (setL x v m).lookup x = some v
  | [] => by simp [setL]
  | (y, w) :: r => by
    unfold setL
    cases h : x == y with
    | true => simp [List.lookup, h]
    | false => simp [List.lookup, h, setL_same x v r]
theorem setL_other {x y : Str} (v : AV) (hy : y ≠ x) : ∀ m : Locs, (setL x v m).lookup y = m.lookup y
  | [] => by
    have : (y == x) = false := by simpa using hy
    simp [setL, List.lookup, this]
  | (z, w) :: r => by
    unfold setL
    cases h : x == z with
    | true =>
      have hz : x = z := by simpa using h
      subst hz
      have : (y == x) = false := by simpa using hy
      simp [List.lookup, this]
    | false =>
      cases q : y == z with
      | true => simp [List.lookup, q]
      | false => simp [List.lookup, q, setL_other v hy r]

section
variable {W : Wd} {P O : Pr} {as : List Addr} {σ : AH} {h h' : Heap} {env : Env} {own : List Addr}
theorem Rep.ownSet (R : Rep W (P.or O) as σ h) (hi : W.In P) (ow : Own env own P O) {a0 : Addr} {o0 o1 : Obj} (h0 : O a0 o0) (same : Heap.SameBut a0 h h') (e : h'.get? a0 = some o1) : Rep W (P.or (O.put a0 o1)) as σ h' := by
  have hin := ow.dom _ _ h0
  refine ⟨R.len, R.nd, fun b x q => ?_, fun i b bo h1 h2 => ?_⟩
  · rcases q with q | ⟨rfl, rfl⟩ | ⟨q, q'⟩
    · have hb : b ≠ a0 := fun z => ow.off _ hin x (z ▸ q)
      exact (same.2 b hb).trans (R.keep b x (.inl q))
    · exact e
    · exact (same.2 b q).trans (R.keep b x (.inr q'))
  · obtain ⟨o, e1, r1, m1, n1⟩ := R.obj i b bo h1 h2
    have hb : b ≠ a0 := fun z => by
      subst z
      cases hm : bo.isMut with
      | true => exact m1 hm o0 (.inr h0)
      | false => exact ow.off _ hin o (hi _ _ (n1 hm))
    refine ⟨o, (same.2 b hb).trans e1, r1, fun hm o' q => ?_, n1⟩
    rcases q with q | ⟨z, _⟩ | ⟨_, q⟩
    · exact m1 hm o' (.inl q)
    · exact hb z
    · exact m1 hm o' (.inr q)
theorem Own.put (ow : Own env own P O) {a0 : Addr} {o0 o1 : Obj} (h0 : O a0 o0) (hc : ∀ x, env.cells.lookup x = some a0 → ∃ v, o1.data = .cell v) : Own env own P (O.put a0 o1) := by
  refine ⟨ow.loc, fun x c q => ?_, ow.hasC, ow.inj, fun a o q => ?_, fun a q => ?_, ow.off⟩
  · obtain ⟨h1, h2, o, v, h3, h4⟩ := ow.cel x c q
    refine ⟨h1, h2, ?_⟩
    by_cases z : c = a0
    · subst z
      obtain ⟨v', hv⟩ := hc x q
      exact ⟨o1, v', .inl ⟨rfl, rfl⟩, hv⟩
    · exact ⟨o, v, .inr ⟨z, h3⟩, h4⟩
  · rcases q with ⟨rfl, _⟩ | ⟨_, q⟩
    · exact ow.dom _ _ h0
    · exact ow.dom _ _ q
  · by_cases z : a = a0
    · exact ⟨o1, .inl ⟨z, rfl⟩⟩
    · obtain ⟨o, h⟩ := ow.has a q
      exact ⟨o, .inr ⟨z, h⟩⟩
end

def storeOk (sc : Scope) (x : Str) : Bool := match sc.names.lookup x with
  | some .local | some .cell => true
  | _ => false

theorem store_own {W : Wd} {n : Nat} {sc : Scope} {A : Around} {env : Env} {own : List Addr} {P O : Pr} {as : List Addr} {σ : AH} {m : Locs} {s : Shared} {x : Str} {vv : Value} {v : AV} {Qc : Unit → Shared → Prop} {E : Value → Shared → Prop}
    (_hr : Room n A) (he : EnvIs env sc) (hi : W.In P) (ow : Own env own P O) (hl : Loc (P.or O) env m as) (R : Rep W (P.or O) as σ s.heap) (hv : VRel as vv v) (hx : storeOk sc x = true)
    (c : ∀ h' tk' O', Own env own P O' → Loc (P.or O') env (setL x v m) as → Rep W (P.or O') as σ h' → Qc () { s with heap := h', toks := tk' }) : wpAny (model W.prog W.w) A (storeName env x vv) Qc E s := by
  have hsc : env.scope.kind = .function := by rw [he.sc]; exact he.kind
  obtain ⟨oL, mm, p1, p2, p3⟩ := hl.loc
  have pL : O env.locals oL := p1.resolve_left fun q => ow.off _ ow.loc _ q
  unfold storeOk at hx
  split at hx
  · rename_i hn
    have hn' : env.scope.names.lookup x = some .local := by rw [he.sc]; exact hn
    refine wpAny_storeName_local hn' (p2.ns (R.keep _ _ p1)) (fun h' hns hsb => ?_) (by rw [hsc]; rfl)
    obtain ⟨oL', e', ns'⟩ := NsObj.of hns
    refine c h' _ (O.put env.locals oL') (ow.put pL fun y q => absurd rfl (ow.cel y _ q).2.1) ⟨⟨oL', _, .inr (.inl ⟨rfl, rfl⟩), ns', fun y av q1 q2 => ?_⟩, fun y av q1 q2 => ?_⟩ (R.ownSet hi ow pL hsb e')
    · by_cases z : y = x
      · subst z
        rw [setL_same] at q1; cases q1
        exact ⟨vv, hv, by simp⟩
      · rw [setL_other v z] at q1
        obtain ⟨u, h1, h2⟩ := p3 y av q1 q2
        exact ⟨u, h1, by simp [z, h2]⟩
    · have z : y ≠ x := fun z => by subst z; rw [hn'] at q2; rcases q2 with q2 | q2 <;> cases q2
      rw [setL_other v z] at q1
      obtain ⟨u, cc, o, h1, h2, h3, h4⟩ := hl.cel y av q1 q2
      exact ⟨u, cc, o, h1, h2, h3.elim .inl fun q => .inr (.inr ⟨(ow.cel y cc h2).2.1, q⟩), h4⟩
  · rename_i hn
    have hn' : env.scope.names.lookup x = some .cell := by rw [he.sc]; exact hn
    obtain ⟨cc, hc⟩ := ow.hasC x hn'
    · obtain ⟨k1, k2, oc, vc, k3, k4⟩ := ow.cel x cc hc
      refine wpAny_storeName_cell hsc hn' hc ⟨oc, R.keep _ _ (.inr k3), k4⟩ fun h' hcell hsb => ?_
      obtain ⟨oc', e', d'⟩ := hcell
      refine c h' s.toks (O.put cc oc') (ow.put k3 fun y _ => ⟨_, d'⟩) ⟨⟨oL, mm, .inr (.inr ⟨Ne.symm k2, pL⟩), p2, fun y av q1 q2 => ?_⟩, fun y av q1 q2 => ?_⟩ (R.ownSet hi ow k3 hsb e')
      · have z : y ≠ x := fun z => by subst z; rw [hn'] at q2; cases q2
        rw [setL_other v z] at q1
        exact p3 y av q1 q2
      · by_cases z : y = x
        · subst z
          rw [setL_same] at q1; cases q1
          exact ⟨vv, cc, oc', hv, hc, .inr (.inl ⟨rfl, rfl⟩), d'⟩
        · rw [setL_other v z] at q1
          obtain ⟨u, c2, o, h1, h2, h3, h4⟩ := hl.cel y av q1 q2
          have hne : c2 ≠ cc := fun w => z (ow.inj y x cc (w ▸ h2) hc)
          exact ⟨u, c2, o, h1, h2, h3.elim .inl fun q => .inr (.inr ⟨hne, q⟩), h4⟩
  · cases hx
end Mine
end
section
namespace Mine
open PySem

section
variable {W : Wd} {P P₁ P₂ O : Pr} {as : List Addr} {σ : AH} {h h' : Heap}
theorem Rep.move (R : Rep W P₁ as σ h) (hk : ∀ b x, P₂ b x → h'.get? b = some x) (hsub : ∀ b x, b ∈ as → P₂ b x → P₁ b x) (hobj : ∀ b ∈ as, ∀ x, h.get? b = some x → h'.get? b = some x) : Rep W P₂ as σ h' :=
  ⟨R.len, R.nd, hk, fun i b bo h1 h2 => by
    obtain ⟨o, e1, r1, m1, n1⟩ := R.obj i b bo h1 h2
    have hb := List.mem_of_getElem? h1
    exact ⟨o, hobj b hb o e1, r1, fun hm o' q => m1 hm o' (hsub b o' hb q), n1⟩⟩
theorem Rep.off (R : Rep W P as σ h) {a : Addr} {o : Obj} (hp : P a o) (hn : W.H.get? a = none) : a ∉ as := fun q => by
  obtain ⟨i, hi⟩ := List.mem_iff_getElem?.mp q
  have hl : i < as.length := (List.getElem?_eq_some_iff.mp hi).1
  have hs : i < σ.length := R.len ▸ hl
  obtain ⟨x, e1, r1, m1, n1⟩ := R.obj i a σ[i] hi (by simp)
  cases hm : (σ[i] : AO).isMut with
  | true => exact m1 hm o hp
  | false => have := n1 hm; rw [hn] at this; cases this
theorem Rep.fresh (R : Rep W P as σ h) {a : Addr} (e : h.get? a = none) : a ∉ as := fun q => by obtain ⟨o, h1⟩ := R.lt q; rw [e] at h1; cases h1
theorem Wd.In.or {P O : Pr} (hi : W.In P) : W.In (P.or O) := fun a o q => .inl (hi a o q)
theorem Wd.In.add {P : Pr} {a : Addr} {o : Obj} (hi : W.In P) : W.In (P.add a o) := fun a o q => .inl (hi a o q)
theorem Wd.In.none {P : Pr} (hi : W.In P) (R : Rep W P as σ h) {a : Addr} (e : h.get? a = none) : W.H.get? a = none := by
  cases q : W.H.get? a with
  | none => rfl
  | some o => have := R.keep _ _ (hi _ _ q); rw [e] at this; cases this
theorem get?_size_none (h : Heap) : h.get? h.objs.size = none := by
  cases q : h.get? h.objs.size with
  | none => rfl
  | some o => exact absurd (Heap.lt_size q) (Nat.lt_irrefl _)
end

def TX (W : Wd) (n : Nat) (sc : Scope) (t : Env → Sem Flow) (Q : AF → Locs → AH → Prop) (m : Locs) (σ : AH) : Prop :=
  ∀ (A : Around) (env : Env) (own : List Addr) (P O : Pr) (as : List Addr) (s : Shared), Room n A → EnvIs env sc → W.In P → Own env own P O → Loc (P.or O) env m as → Rep W (P.or O) as σ s.heap →
    ∀ (Qc : Flow → Shared → Prop) (E : Value → Shared → Prop),
      (∀ f af h' tk' as' σ' m' O', Ext as as' → FRel as' f af → Own env own P O' → Loc (P.or O') env m' as' → Rep W (P.or O') as' σ' h' → Q af m' σ' → Qc f { s with heap := h', toks := tk' }) →
      wpAny (model W.prog W.w) A (t env) Qc E s
abbrev TSs (W : Wd) (n : Nat) (sc : Scope) (ss : List Stmt) := TX W n sc (execs ss)
abbrev TS (W : Wd) (n : Nat) (sc : Scope) (st : Stmt) := TX W n sc (exec st)
def TA (W : Wd) (n : Nat) (sc : Scope) (t : Expr) (v : AV) (Q : Locs → AH → Prop) (m : Locs) (σ : AH) : Prop :=
  ∀ (A : Around) (env : Env) (own : List Addr) (P O : Pr) (as : List Addr) (s : Shared) (vv : Value), Room n A → EnvIs env sc → W.In P → Own env own P O → Loc (P.or O) env m as → Rep W (P.or O) as σ s.heap → VRel as vv v →
    ∀ (Qc : Unit → Shared → Prop) (E : Value → Shared → Prop),
      (∀ h' tk' as' σ' m' O', Ext as as' → Own env own P O' → Loc (P.or O') env m' as' → Rep W (P.or O') as' σ' h' → Q m' σ' → Qc () { s with heap := h', toks := tk' }) →
      wpAny (model W.prog W.w) A (assign t env vv) Qc E s

section
variable {W : Wd} {n : Nat} {sc : Scope} {m : Locs} {σ : AH} {Q : AF → Locs → AH → Prop} {pos : Pos}

theorem TX.mono {t : Env → Sem Flow} {Q' : AF → Locs → AH → Prop} (h : TX W n sc t Q m σ) (hq : ∀ f m σ, Q f m σ → Q' f m σ) : TX W n sc t Q' m σ :=
  fun A env own P O as s r e i o l R Qc E k => h A env own P O as s r e i o l R Qc E fun f af h' tk' as' σ' m' O' x1 x2 x3 x4 x5 q => k f af h' tk' as' σ' m' O' x1 x2 x3 x4 x5 (hq _ _ _ q)
theorem pB (h : Q .next m σ) : TSs W n sc [] Q m σ :=
  fun _ _ _ _ O as s _ _ _ ow hl R _ _ c => wpAny_execs_nil (c .next .next s.heap s.toks as σ m O (Ext.refl _) rfl ow hl R h)
abbrev thenQ (W : Wd) (n : Nat) (sc : Scope) (rest : List Stmt) (Q : AF → Locs → AH → Prop) : AF → Locs → AH → Prop
  | .next => TSs W n sc rest Q
  | f => Q f
theorem kW {st : Stmt} {rest : List Stmt} (h : TS W n sc st (thenQ W n sc rest Q) m σ) : TSs W n sc (st :: rest) Q m σ := by
  intro A env own P O as s hr he hi ow hl R Qc E c
  refine wpAny_execs_cons (h A env own P O as s hr he hi ow hl R _ E fun f af h₁ tk₁ as₁ σ₁ m₁ O₁ x₁ f₁ ow₁ l₁ R₁ q₁ => ?_)
  cases af with
  | next =>
    cases f₁
    exact q₁ A env own P O₁ as₁ _ hr he hi ow₁ l₁ R₁ _ E fun f af h₂ tk₂ as₂ σ₂ m₂ O₂ x₂ f₂ ow₂ l₂ R₂ q₂ => c f af h₂ tk₂ as₂ σ₂ m₂ O₂ (x₁.trans x₂) f₂ ow₂ l₂ R₂ q₂
  | brk => cases f₁; exact c _ .brk h₁ tk₁ as₁ σ₁ m₁ O₁ x₁ rfl ow₁ l₁ R₁ q₁
  | cont => cases f₁; exact c _ .cont h₁ tk₁ as₁ σ₁ m₁ O₁ x₁ rfl ow₁ l₁ R₁ q₁
  | ret v =>
    obtain ⟨x, rfl, hv⟩ := f₁
    exact c _ (.ret v) h₁ tk₁ as₁ σ₁ m₁ O₁ x₁ ⟨x, rfl, hv⟩ ow₁ l₁ R₁ q₁
theorem kX (h : Q .cont m σ) : TS W n sc (.Continue pos) Q m σ :=
  fun _ _ _ _ O as s _ _ _ ow hl R _ _ c => wpAny_Continue (c .cont .cont s.heap s.toks as σ m O (Ext.refl _) rfl ow hl R h)
theorem pF {e : Expr} (h : TE W n sc m e (fun v σ₁ => Q (.ret v) m σ₁) σ) : TS W n sc (.Return (some e) pos) Q m σ := by
  intro A env own P O as s hr he hi ow hl R Qc E c
  refine wpAny_Return_some (h A env (P.or O) as s hr he hi.or hl R _ E fun v av h₁ tk₁ as₁ σ₁ x₁ r₁ R₁ q₁ => ?_)
  exact c _ (.ret av) h₁ tk₁ as₁ σ₁ m O x₁ ⟨v, rfl, r₁⟩ ow (hl.ext x₁) R₁ q₁
theorem pA {test : Expr} {body orelse : List Stmt} (h : TT W n sc m test (fun b σ₁ => if b then TSs W n sc body Q m σ₁ else TSs W n sc orelse Q m σ₁) σ) : TS W n sc (.If test body orelse pos) Q m σ := by
  intro A env own P O as s hr he hi ow hl R Qc E c
  refine wpAny_If (h A env (P.or O) as s hr he hi.or hl R _ E fun b h₁ tk₁ as₁ σ₁ x₁ R₁ q₁ => ?_)
  cases b with
  | true => exact q₁ A env own P O as₁ _ hr he hi ow (hl.ext x₁) R₁ _ E fun f af h₂ tk₂ as₂ σ₂ m₂ O₂ x₂ f₂ ow₂ l₂ R₂ q₂ => c f af h₂ tk₂ as₂ σ₂ m₂ O₂ (x₁.trans x₂) f₂ ow₂ l₂ R₂ q₂
  | false => exact q₁ A env own P O as₁ _ hr he hi ow (hl.ext x₁) R₁ _ E fun f af h₂ tk₂ as₂ σ₂ m₂ O₂ x₂ f₂ ow₂ l₂ R₂ q₂ => c f af h₂ tk₂ as₂ σ₂ m₂ O₂ (x₁.trans x₂) f₂ ow₂ l₂ R₂ q₂
def notComp : Expr → Bool
  | .ListComp .. | .SetComp .. | .DictComp .. => false
  | _ => true
theorem swaps_not {e : Expr} (h : notComp e = true) (t : Option Expr) (l : Nat) (env : Env) : swapsWith e t l env = pure false := by
  cases e <;> first | rfl | (cases h; done)
abbrev dropQ (Q : AF → Locs → AH → Prop) (m : Locs) : AV → AH → Prop
  | .none, σ | .bool _, σ | .int _, σ | .str _, σ => Q .next m σ
  | _, _ => False
theorem kZ {e : Expr} (hs : notComp e = true) (h : TE W n sc m e (dropQ Q m) σ) : TS W n sc (.Expr e pos) Q m σ := by
  intro A env own P O as s hr he hi ow hl R Qc E c
  refine wpAny_Expr (h A env (P.or O) as s hr he hi.or hl R _ E fun v av h₁ tk₁ as₁ σ₁ x₁ r₁ R₁ q₁ => ?_) ?_ (swaps_not hs ..)
  · have fin : Q .next m σ₁ → Qc .next { s with heap := h₁, toks := tk₁ } := fun q => c .next .next h₁ tk₁ as₁ σ₁ m O x₁ rfl ow (hl.ext x₁) R₁ q
    cases av with
    | none => cases r₁; exact fin q₁
    | bool b => cases r₁; exact fin q₁
    | int i => obtain ⟨t, rfl⟩ := r₁; exact fin q₁
    | str x => obtain ⟨t, rfl⟩ := r₁; exact fin q₁
    | ref i => exact q₁.elim
    | stat u => exact q₁.elim
  · unfold interactive; rw [he.sc, he.kind]; rfl

theorem ta_name {x : Str} {v : AV} {QA : Locs → AH → Prop} (hx : storeOk sc x = true) (h : QA (setL x v m) σ) : TA W n sc (.Name x pos) v QA m σ := by
  intro A env own P O as s vv hr he hi ow hl R hv Qc E c
  exact wpAny_assign_Name (store_own hr he hi ow hl R hv hx fun h' tk' O' ow' l' R' => c h' tk' as σ _ O' (Ext.refl _) ow' l' R' h)
theorem kR {x : Str} {px : Pos} {e : Expr} (hs : notComp e = true) (hx : storeOk sc x = true) (h : TE W n sc m e (fun v σ₁ => Q .next (setL x v m) σ₁) σ) : TS W n sc (.Assign [.Name x px] e pos) Q m σ := by
  intro A env own P O as s hr he hi ow hl R Qc E c
  refine wpAny_Assign_Name (h A env (P.or O) as s hr he hi.or hl R _ E fun v av h₁ tk₁ as₁ σ₁ x₁ r₁ R₁ q₁ => ?_) (swaps_not hs ..)
  exact store_own hr he hi ow (hl.ext x₁) R₁ r₁ hx fun h' tk' O' ow' l' R' => c .next .next h' tk' as₁ σ₁ _ O' x₁ rfl ow' l' R' q₁

abbrev loopQ (J : Locs → AH → Prop) (Q : AF → Locs → AH → Prop) : AF → Locs → AH → Prop
  | .next => J
  | .cont => J
  | .brk => Q .next
  | .ret v => Q (.ret v)
def notSet : Expr → Bool
  | .Set .. => false
  | _ => true
theorem folded_not {e : Expr} (h : notSet e = true) (env : Env) (x : Value) : foldedSetIterable e env x = pure x := by
  cases e <;> first | rfl | (cases h; done)

structure Turns (W : Wd) (A : Around) (as₀ : List Addr) (I : Addr) (St : Nat → Obj → Prop) (len : Nat) (It : Nat → AV) (J : Nat → AH → Prop) : Prop where
  item : ∀ i P as σ (s : Shared) o (Qc : Option Value → Shared → Prop) (E : Value → Shared → Prop), i < len → W.In P → Ext as₀ as → Rep W P as σ s.heap → J i σ → P I o → St i o →
    (∀ v h' tk' o', VRel as v (It i) → St (i + 1) o' → Heap.SameBut I s.heap h' → h'.get? I = some o' → Qc (some v) { s with heap := h', toks := tk' }) → wpAny (model W.prog W.w) A (pyNext (.ref I)) Qc E s
  done : ∀ P as σ (s : Shared) o (Qc : Option Value → Shared → Prop) (E : Value → Shared → Prop), W.In P → Ext as₀ as → Rep W P as σ s.heap → J len σ → P I o → St len o →
    (∀ h' tk', Heap.ExtBut I s.heap h' → Qc none { s with heap := h', toks := tk' }) → wpAny (model W.prog W.w) A (pyNext (.ref I)) Qc E s
  self : ∀ i (s : Shared) o (Qc : Value → Shared → Prop) (E : Value → Shared → Prop), s.heap.get? I = some o → St i o → Qc (.ref I) s → wpAny (model W.prog W.w) A (pyIter (.ref I)) Qc E s
  owned : ∀ i (s : Shared) o v (elts : List Expr) k pos (Qc : Unit → Shared → Prop) (E : Value → Shared → Prop), s.heap.get? I = some o → St i o → Qc () s → wpAny (model W.prog W.w) A (letOwnedTupleGo (.Tuple elts k pos) (.ref I) v) Qc E s

theorem Loc.drop {P O : Pr} {env : Env} {own : List Addr} {m : Locs} {as : List Addr} {I : Addr} {o : Obj} (l : Loc ((P.add I o).or O) env m as) (w : Own env own P O) (nI : I ∉ own) : Loc (P.or O) env m as := by
  refine ⟨?_, fun y av h1 h2 => ?_⟩
  · obtain ⟨oL, mm, h1, h2⟩ := l.loc
    refine ⟨oL, mm, ?_, h2⟩
    rcases h1 with (q | ⟨q, _⟩) | q
    · exact .inl q
    · exact absurd (q ▸ w.loc) nI
    · exact .inr q
  · obtain ⟨v, c, oc, p, q, r, t⟩ := l.cel y av h1 h2
    refine ⟨v, c, oc, p, q, ?_, t⟩
    rcases r with (r | ⟨r, _⟩) | r
    · exact .inl r
    · exact absurd (r ▸ (w.cel y c q).1) nI
    · exact .inr r
theorem nP' {P O O' : Pr} {env : Env} {own : List Addr} {I : Addr} (w : Own env own P O') (nown : I ∉ own) (nP : ∀ o, ¬ (P.or O) I o) (o : Obj) : ¬ (P.or O') I o :=
  fun q => q.elim (fun q => nP o (.inl q)) fun q => nown (w.dom _ _ q)
def plainTarget : Expr → Bool
  | .Name .. => true
  | .Tuple .. => true
  | _ => false
theorem owned_go {target : Expr} {A : Around} {as : List Addr} {I : Addr} {St : Nat → Obj → Prop} {len : Nat} {It : Nat → AV} {J : Nat → AH → Prop} (T : Turns W A as I St len It J) (ht : plainTarget target = true) {i : Nat} {s : Shared} {o : Obj} {v : Value} {Qc : Unit → Shared → Prop} {E : Value → Shared → Prop} (e : s.heap.get? I = some o) (st : St i o) (h : Qc () s) : wpAny (model W.prog W.w) A (letOwnedTupleGo target (.ref I) v) Qc E s := by
  cases target <;> first | (cases ht; done) | exact wpAny_pure h | exact T.owned i _ o v _ _ _ _ _ e st h
theorem for_turns {target : Expr} {body : List Stmt} {A : Around} {env : Env} {own : List Addr} {P O : Pr} {as : List Addr} {s : Shared} {I : Addr} {St : Nat → Obj → Prop} {len : Nat} {It : Nat → AV} {J : Nat → Locs → AH → Prop} {o₀ : Obj}
    {Qc : Flow → Shared → Prop} {E : Value → Shared → Prop}
    (T : Turns W A as I St len It fun i σ => ∃ m', J i m' σ) (ht : plainTarget target = true) (hr : Room n A) (he : EnvIs env sc) (hi : W.In P) (ow : Own env own P O) (hl : Loc (P.or O) env m as) (R : Rep W (P.or O) as σ s.heap)
    (hI : s.heap.get? I = some o₀) (h0 : St 0 o₀) (nI : W.H.get? I = none) (nas : I ∉ as) (nP : ∀ o, ¬ (P.or O) I o) (j0 : J 0 m σ)
    (turn : ∀ i m' σ', i < len → J i m' σ' → TA W n sc target (It i) (fun m₂ σ₂ => TSs W n sc body (loopQ (J (i + 1)) Q) m₂ σ₂) m' σ')
    (fin : ∀ m' σ', J len m' σ' → Q .next m' σ')
    (c : ∀ f af h' tk' as' σ' m' O', Ext as as' → FRel as' f af → Own env own P O' → Loc (P.or O') env m' as' → Rep W (P.or O') as' σ' h' → Q af m' σ' → Qc f { s with heap := h', toks := tk' }) :
    codeAny (model W.prog W.w) A (.forLoop target (.ref I) body [] env) (fun r s' => match r with | .ok f => Qc f s' | .error e => cameBackBy (model W.prog W.w) A env E e s') s := by
  have nown : I ∉ own := fun q => let ⟨o, h⟩ := ow.has I q; nP o (.inr h)
  refine codeAny_forLoop_any (fun k s' => ∃ i h' tk' as' σ' m' O' o', i ≤ len ∧ k = len + 1 - i ∧ s' = { s with heap := h', toks := tk' } ∧ Ext as as' ∧ Own env own P O' ∧ Loc (P.or O') env m' as' ∧ Rep W ((P.add I o').or O') as' σ' h' ∧ J i m' σ' ∧ St i o') ?_ (len + 1)
    ⟨0, s.heap, s.toks, as, σ, m, O, o₀, Nat.zero_le _, rfl, rfl, Ext.refl _, ow, hl, ?_, j0, h0⟩
  · rintro k s' ⟨i, h₁, tk₁, as₁, σ₁, m₁, O₁, o₁, hle, rfl, rfl, x₁, ow₁, l₁, R₁, j₁, st₁⟩
    have pI : ((P.add I o₁).or O₁) I o₁ := .inl (.inr ⟨rfl, rfl⟩)
    have nI₁ : I ∉ as₁ := R₁.off pI nI
    have hi₁ : W.In ((P.add I o₁).or O₁) := hi.add.or
    by_cases hlt : i < len
    · refine T.item i _ as₁ σ₁ _ o₁ _ _ hlt hi₁ x₁ R₁ ⟨m₁, j₁⟩ pI st₁ fun v h₂ tk₂ o₂ hv st₂ sb₂ e₂ => ?_
      have R₂ : Rep W ((P.add I o₂).or O₁) as₁ σ₁ h₂ := by
        refine R₁.move (fun b x q => ?_) (fun b x hb q => ?_) fun b hb x e => (sb₂.2 b fun z => nI₁ (z ▸ hb)).trans e
        · by_cases z : b = I
          · subst z
            rcases q with (q | ⟨_, q⟩) | q
            · exact absurd (.inl q) (nP' ow₁ nown nP x)
            · subst q; exact e₂
            · exact absurd (ow₁.dom _ _ q) nown
          · refine (sb₂.2 b z).trans (R₁.keep b x ?_)
            rcases q with (q | ⟨q, _⟩) | q
            · exact .inl (.inl q)
            · exact absurd q z
            · exact .inr q
        · rcases q with (q | ⟨q, _⟩) | q
          · exact .inl (.inl q)
          · exact absurd (q ▸ hb) nI₁
          · exact .inr q
      have go : ∀ s₃ : Shared, s₃ = { s with heap := h₂, toks := tk₂ } → wpAny (model W.prog W.w) A (assign target env v) (fun _ s₂ => wpAny (model W.prog W.w) A (execs body env) (fun f s₃ => match f with
            | .next | .cont => ∃ m, m < len + 1 - i ∧ (fun k s' => ∃ i h' tk' as' σ' m' O' o', i ≤ len ∧ k = len + 1 - i ∧ s' = { s with heap := h', toks := tk' } ∧ Ext as as' ∧ Own env own P O' ∧ Loc (P.or O') env m' as' ∧ Rep W ((P.add I o').or O') as' σ' h' ∧ J i m' σ' ∧ St i o') m s₃
            | .brk => Qc .next s₃
            | .ret v => Qc (.ret v) s₃) (notedBy (model W.prog W.w) A env fun e s' => cameBackBy (model W.prog W.w) A env E e s') s₂) (notedBy (model W.prog W.w) A env fun e s' => cameBackBy (model W.prog W.w) A env E e s') s₃ := by
        rintro s₃ rfl
        have owP : ∀ O', Own env own P O' → Own env own (P.add I o₂) O' := fun O' w => ⟨w.loc, w.cel, w.hasC, w.inj, w.dom, w.has, fun a ha o q => q.elim (w.off a ha o) fun ⟨z, _⟩ => nown (z ▸ ha)⟩
        have owD : ∀ O', Own env own (P.add I o₂) O' → Own env own P O' := fun O' w => ⟨w.loc, w.cel, w.hasC, w.inj, w.dom, w.has, fun a ha o q => w.off a ha o (.inl q)⟩
        have lD : ∀ O' m' as', Own env own P O' → Loc ((P.add I o₂).or O') env m' as' → Loc (P.or O') env m' as' := fun O' m' as' w l => l.drop w nown
        refine turn i m₁ σ₁ hlt j₁ A env own (P.add I o₂) O₁ as₁ _ v hr he hi.add (owP _ ow₁) (l₁.up fun a o q => q.elim (fun q => .inl (.inl q)) .inr) R₂ hv _ _ fun h₃ tk₃ as₃ σ₃ m₃ O₃ x₃ ow₃ l₃ R₃ q₃ => ?_
        refine q₃ A env own (P.add I o₂) O₃ as₃ _ hr he hi.add ow₃ l₃ R₃ _ _ fun f af h₄ tk₄ as₄ σ₄ m₄ O₄ x₄ f₄ ow₄ l₄ R₄ q₄ => ?_
        have R₄' : Rep W (P.or O₄) as₄ σ₄ h₄ := R₄.weaken fun a o q => q.elim (fun q => .inl (.inl q)) .inr
        have x' := (x₁.trans x₃).trans x₄
        cases af with
        | next => cases f₄; exact ⟨len + 1 - (i + 1), by (first|lia|omega), i + 1, h₄, tk₄, as₄, σ₄, m₄, O₄, o₂, hlt, rfl, rfl, x', owD _ ow₄, lD _ _ _ (owD _ ow₄) l₄, R₄, q₄, st₂⟩
        | cont => cases f₄; exact ⟨len + 1 - (i + 1), by (first|lia|omega), i + 1, h₄, tk₄, as₄, σ₄, m₄, O₄, o₂, hlt, rfl, rfl, x', owD _ ow₄, lD _ _ _ (owD _ ow₄) l₄, R₄, q₄, st₂⟩
        | brk => cases f₄; exact c .next .next h₄ tk₄ as₄ σ₄ m₄ O₄ x' rfl (owD _ ow₄) (lD _ _ _ (owD _ ow₄) l₄) R₄' q₄
        | ret u =>
          obtain ⟨y, rfl, hy⟩ := f₄
          exact c _ (.ret u) h₄ tk₄ as₄ σ₄ m₄ O₄ x' ⟨y, rfl, hy⟩ (owD _ ow₄) (lD _ _ _ (owD _ ow₄) l₄) R₄' q₄
      exact owned_go T ht (s := { s with heap := h₂, toks := tk₂ }) e₂ st₂ (go _ rfl)
    · have hi' : i = len := by (first|lia|omega)
      subst hi'
      refine T.done _ as₁ σ₁ _ o₁ _ _ hi₁ x₁ R₁ ⟨m₁, j₁⟩ pI st₁ fun h₂ tk₂ xb => ?_
      refine wpAny_execs_nil (c .next .next h₂ tk₂ as₁ σ₁ m₁ O₁ x₁ rfl ow₁ l₁ ?_ (fin _ _ j₁))
      refine R₁.move (fun b x q => ?_) (fun b x _ q => q.elim (fun q => .inl (.inl q)) .inr) fun b hb x e => xb b x (fun z => nI₁ (z ▸ hb)) e
      have hb : b ≠ I := fun z => by
        subst z
        rcases q with q | q
        · exact nP' ow₁ nown nP x (.inl q)
        · exact nown (ow₁.dom _ _ q)
      exact xb b x hb (R₁.keep b x (q.elim (fun q => .inl (.inl q)) .inr))
  · refine (R.hold nas hI).weaken fun a o q => ?_
    rcases q with (q | q) | q
    · exact .inl (.inl q)
    · exact .inr q
    · exact .inl (.inr q)
end
end Mine
end
section
namespace Mine
open PySem

section
variable {W : Wd} {n : Nat} {sc : Scope} {m : Locs} {σ : AH} {Q : AF → Locs → AH → Prop} {pos : Pos} {A : Around}

theorem isList_of {as : List Addr} {o : Obj} {xs : List AV} {a : Addr} {h : Heap} {P : Params} (e : h.get? a = some o) (r : ORel P as o (.list xs)) : ∃ vs, h.IsList a (List.toArray vs) ∧ VsRel as vs xs := by
  obtain ⟨vs, k, rfl, hv⟩ := r
  exact ⟨vs, ⟨_, e, rfl, k, rfl⟩, hv⟩

theorem Turns.list {as₀ : List Addr} {I al : Addr} {l : Nat} {xs : List AV} {J : Nat → AH → Prop} (hh : A.handled = none) (ha : as₀[l]? = some al) (hJ : ∀ i σ, i ≤ xs.length → J i σ → σ[l]? = some (.list xs)) :
    Turns W A as₀ I (fun i o => o.cls = .type "list_iterator" ∧ o.data = .fields #[.ref al, .int i 0]) xs.length (fun i => (xs[i]?).getD .none) J where
  item := by
    intro i P as σ s o Qc E hlt hi x R j pI st c
    obtain ⟨a, oa, h1, h2, h3⟩ := R.at (hJ i σ (Nat.le_of_lt hlt) j)
    have : a = al := by rw [x.get ha] at h1; exact (Option.some.inj h1).symm
    subst this
    obtain ⟨vs, hL, hv⟩ := isList_of h2 h3
    have hx : xs[i]? = some xs[i] := by simp
    obtain ⟨v, hv1, hv2⟩ := hv.get hx
    refine wpAny_pyNext_list_item ⟨o, R.keep _ _ pI, st.1, st.2⟩ hL (x := v) (by simpa using hv1) fun h' hit sb => ?_
    obtain ⟨o', e', c', d'⟩ := hit
    exact c v h' s.toks o' (by rw [hx]; exact hv2) ⟨c', d'⟩ sb e'
  done := by
    intro P as σ s o Qc E hi x R j pI st c
    obtain ⟨a, oa, h1, h2, h3⟩ := R.at (hJ _ σ (Nat.le_refl _) j)
    have : a = al := by rw [x.get ha] at h1; exact (Option.some.inj h1).symm
    subst this
    obtain ⟨vs, hL, hv⟩ := isList_of h2 h3
    exact wpAny_pyNext_list_end hh ⟨o, R.keep _ _ pI, st.1, st.2⟩ hL (by simp [hv.length]) fun h' xb => c h' s.toks xb
  self := fun _ _ o _ _ e st q => wpAny_pyIter_listiter ⟨o, e, st.1, st.2⟩ q
  owned := by
    intro i s o v elts k pos Qc E e st q
    cases v with
    | ref T => exact wpAny_letOwnedTupleGo_listiter ⟨o, e, st.1, st.2⟩ q
    | _ => exact wpAny_pure q
theorem Turns.range {as₀ : List Addr} {I : Addr} {a c : Int} {len : Nat} {J : Nat → AH → Prop} (hh : A.handled = none) :
    Turns W A as₀ I (fun i o => o = { cls := .type "range_iterator", dict := none, data := .fields #[rawInt (a + i * c), rawInt ((len : Int) - (i : Nat)), rawInt c], slots := #[] }) len (fun i => .int (a + i * c)) J where
  item := by
    intro i P as σ s o Qc E hlt hi x R j pI st k
    subst st
    refine wpAny_pyNext_range_item (R.keep _ _ pI) (by (first|lia|omega)) fun h' hit sb => ?_
    refine k _ h' _ _ ⟨_, rfl⟩ ?_ sb hit
    have e1 : a + ((i + 1 : Nat) : Int) * c = a + (i : Nat) * c + c := by rw [Int.natCast_add, Int.add_mul]; (first|lia|omega)
    have e2 : (len : Int) - ((i + 1 : Nat) : Int) = (len : Int) - (i : Nat) - 1 := by (first|lia|omega)
    rw [e1, e2]
  done := by
    intro P as σ s o Qc E hi x R j pI st k
    subst st
    exact wpAny_pyNext_range_end hh (R.keep _ _ pI) (by (first|lia|omega)) fun h' xb => k h' s.toks xb
  self := fun _ _ o _ _ e st q => wpAny_pyIter_rangeiter (by subst st; exact e) q
  owned := by
    intro i s o v elts k pos Qc E e st q
    subst st
    cases v with
    | ref T =>
      refine wpAny_bind (wpAny_load e ?_)
      exact wpAny_pure q
    | _ => exact wpAny_pure q
theorem Turns.long {as₀ : List Addr} {I : Addr} {a c : Int} {len : Nat} {J : Nat → AH → Prop} (hh : A.handled = none) :
    Turns W A as₀ I (fun i o => o = { cls := .type "longrange_iterator", dict := none, data := .fields #[rawInt (a + i * c), rawInt ((len : Int) - (i : Nat)), rawInt c], slots := #[] }) len (fun i => .int (a + i * c)) J where
  item := by
    intro i P as σ s o Qc E hlt hi x R j pI st k
    subst st
    refine wpAny_pyNext_long_item (R.keep _ _ pI) (by (first|lia|omega)) fun h' hit sb => ?_
    refine k _ h' _ _ ⟨_, rfl⟩ ?_ sb hit
    have e1 : a + ((i + 1 : Nat) : Int) * c = a + (i : Nat) * c + c := by rw [Int.natCast_add, Int.add_mul]; (first|lia|omega)
    have e2 : (len : Int) - ((i + 1 : Nat) : Int) = (len : Int) - (i : Nat) - 1 := by (first|lia|omega)
    rw [e1, e2]
  done := by
    intro P as σ s o Qc E hi x R j pI st k
    subst st
    exact wpAny_pyNext_long_end hh (R.keep _ _ pI) (by (first|lia|omega)) fun h' xb => k h' s.toks xb
  self := fun _ _ o _ _ e st q => wpAny_pyIter_longiter (by subst st; exact e) q
  owned := by
    intro i s o v elts k pos Qc E e st q
    subst st
    cases v with
    | ref T =>
      refine wpAny_bind (wpAny_load e ?_)
      exact wpAny_pure q
    | _ => exact wpAny_pure q

def ForList (W : Wd) (n : Nat) (sc : Scope) (target : Expr) (body : List Stmt) (Q : AF → Locs → AH → Prop) (m : Locs) (v : AV) (σ : AH) : Prop :=
  ∃ (l : Nat) (xs : List AV) (J : Nat → Locs → AH → Prop), v = .ref l ∧ J 0 m σ ∧ (∀ i m' σ', i ≤ xs.length → J i m' σ' → σ'[l]? = some (.list xs)) ∧
    (∀ i x m' σ', xs[i]? = some x → J i m' σ' → TA W n sc target x (fun m₂ σ₂ => TSs W n sc body (loopQ (J (i + 1)) Q) m₂ σ₂) m' σ') ∧ (∀ m' σ', J xs.length m' σ' → Q .next m' σ')
theorem ts_for_list {target iter : Expr} {body : List Stmt} (hs : notSet iter = true) (ht : plainTarget target = true) (h : TE W n sc m iter (ForList W n sc target body Q m) σ) : TS W n sc (.For target iter body [] pos) Q m σ := by
  intro A env own P O as s hr he hi ow hl R Qc E c
  refine wpAny_For (h A env (P.or O) as s hr he hi.or hl R _ E fun v av h₁ tk₁ as₁ σ₁ x₁ r₁ R₁ q₁ => ?_) fun x => folded_not hs env x
  obtain ⟨l, xs, J, rfl, j0, jl, turn, fin⟩ := q₁
  obtain ⟨al, e1, rfl⟩ := r₁
  obtain ⟨a, oa, h1, h2, h3⟩ := R₁.at (jl 0 m σ₁ (Nat.zero_le _) j0)
  have : a = al := by rw [e1] at h1; exact (Option.some.inj h1).symm
  subst this
  obtain ⟨vs, hL, hv⟩ := isList_of h2 h3
  refine wpAny_pyIter_list (s := { s with heap := h₁, toks := tk₁ }) hL ?_
  have fr := get?_size_none h₁
  have R₂ := R₁.grow (h' := h₁.push { cls := .type "list_iterator", data := .fields #[.ref a, .int 0 0] }) fun b o e => Heap.get?_push_of_some _ e
  refine for_turns (Turns.list hr.1 e1 fun i σ hle ⟨m', j⟩ => jl i m' σ hle j) ht hr he hi ow (hl.ext x₁) R₂ (Heap.get?_push_size _ rfl) ⟨rfl, rfl⟩ (hi.or.none R₁ fr) (R₁.fresh fr) (fun o q => by have := R₁.keep _ _ q; rw [fr] at this; cases this) j0
    (fun i m' σ' hlt j => ?_) fin fun f af h' tk' as' σ' m' O' x2 f2 ow2 l2 R2 q2 => c f af h' tk' as' σ' m' O' (x₁.trans x2) f2 ow2 l2 R2 q2
  have hx : xs[i]? = some xs[i] := by simp
  rw [hx]
  exact turn i _ m' σ' hx j
def ForRange (W : Wd) (n : Nat) (sc : Scope) (target : Expr) (body : List Stmt) (Q : AF → Locs → AH → Prop) (m : Locs) (v : AV) (σ : AH) : Prop :=
  ∃ (r : Nat) (a b c : Int) (len : Nat) (J : Nat → Locs → AH → Prop), v = .ref r ∧ σ[r]? = some (.range a b c) ∧ Builtin.Range.rangeSize a b c = (len : Int) ∧ J 0 m σ ∧
    (∀ i m' σ', i < len → J i m' σ' → TA W n sc target (.int (a + i * c)) (fun m₂ σ₂ => TSs W n sc body (loopQ (J (i + 1)) Q) m₂ σ₂) m' σ') ∧ (∀ m' σ', J len m' σ' → Q .next m' σ')
theorem ts_for_range {target iter : Expr} {body : List Stmt} (hs : notSet iter = true) (ht : plainTarget target = true) (h : TE W n sc m iter (ForRange W n sc target body Q m) σ) : TS W n sc (.For target iter body [] pos) Q m σ := by
  intro A env own P O as s hr he hi ow hl R Qc E c
  refine wpAny_For (h A env (P.or O) as s hr he hi.or hl R _ E fun v av h₁ tk₁ as₁ σ₁ x₁ r₁ R₁ q₁ => ?_) fun x => folded_not hs env x
  obtain ⟨l, a, b, k, len, J, rfl, e0, hlen, j0, turn, fin⟩ := q₁
  obtain ⟨al, e1, rfl⟩ := r₁
  obtain ⟨a', oa, h1, h2, h3⟩ := R₁.at e0
  have : a' = al := by rw [e1] at h1; exact (Option.some.inj h1).symm
  subst this
  obtain ⟨t, u, w, rfl⟩ := h3
  have fr := get?_size_none h₁
  cases hsm : Builtin.Range.small a b k with
  | true =>
    refine wpAny_pyIter_range (s := { s with heap := h₁, toks := tk₁ }) h2 hsm ?_
    have R₂ := R₁.grow (h' := h₁.push { cls := .type "range_iterator", data := .fields #[rawInt a, rawInt (Builtin.Range.rangeSize a b k), rawInt k] }) fun b o e => Heap.get?_push_of_some _ e
    refine for_turns (J := J) (Turns.range (a := a) (c := k) (len := len) hr.1) ht hr he hi ow (hl.ext x₁) R₂ (Heap.get?_push_size _ rfl) (by simp [hlen]) (hi.or.none R₁ fr) (R₁.fresh fr) (fun o q => by have := R₁.keep _ _ q; rw [fr] at this; cases this) j0
      turn fin fun f af h' tk' as' σ' m' O' x2 f2 ow2 l2 R2 q2 => c f af h' tk' as' σ' m' O' (x₁.trans x2) f2 ow2 l2 R2 q2
  | false =>
    refine wpAny_pyIter_longrange (s := { s with heap := h₁, toks := tk₁ }) h2 hsm ?_
    have R₂ := R₁.grow (h' := h₁.push { cls := .type "longrange_iterator", data := .fields #[rawInt a, rawInt (Builtin.Range.rangeSize a b k), rawInt k] }) fun b o e => Heap.get?_push_of_some _ e
    refine for_turns (J := J) (Turns.long (a := a) (c := k) (len := len) hr.1) ht hr he hi ow (hl.ext x₁) R₂ (Heap.get?_push_size _ rfl) (by simp [hlen]) (hi.or.none R₁ fr) (R₁.fresh fr) (fun o q => by have := R₁.keep _ _ q; rw [fr] at this; cases this) j0
      turn fin fun f af h' tk' as' σ' m' O' x2 f2 ow2 l2 R2 q2 => c f af h' tk' as' σ' m' O' (x₁.trans x2) f2 ow2 l2 R2 q2
end
end Mine
end
section
namespace Mine
open PySem

def TCode (W : Wd) (n : Nat) (f : AV) (args : List AV) (Q : AV → AH → Prop) (σ : AH) : Prop :=
  ∀ (A : Around) (P : Pr) (as : List Addr) (s : Shared) (fv : Value) (vals : List Value), Room n A → W.In P → VRel as fv f → VsRel as vals args → Rep W P as σ s.heap →
    ∀ (Qc : Value → Shared → Prop) (E : Value → Shared → Prop),
      (∀ v av h' tk' as' σ', Ext as as' → VRel as' v av → Rep W P as' σ' h' → Q av σ' → Qc v { s with heap := h', toks := tk' }) →
      codeAny (model W.prog W.w) A (.call fv ⟨vals, []⟩) (fun r s' => match r with | .ok (.ret v) => Qc v s' | .ok _ => False | .error e => E e s') s
theorem TCode.call {W : Wd} {n : Nat} {f : AV} {args : List AV} {Q : AV → AH → Prop} {σ : AH} (h : TCode W n f args Q σ) : TCall W n f args Q σ :=
  fun A P as s fv vals r i x y R Qc E k => wpAny_call (h A P as s fv vals r i x y R Qc E k)
structure FnIs (W : Wd) (f : Addr) (ps : List Str) (body : List Stmt) (sc : Scope) : Prop where
  ex : ∃ o fd, W.H.get? f = some o ∧ o.data = .func fd ∧ fd.body = .stmts body ∧ fd.scope = sc ∧ fd.closure = [] ∧ fd.globals = mainGlobals ∧ fd.builtins = builtinsNs ∧ W.H.CodeRec fd.code fd.qualname ∧
    (∀ vals : List Value, vals.length = ps.length → bindArgs fd ⟨vals, []⟩ = pure (ps.zip vals))
  kind : sc.kind = .function
  co : sc.isCoroutine = false
  gen : sc.isGenerator = false
  nd : ps.Nodup
  loc : (ps.all fun x => storeOk sc x) = true

abbrev retQ (Q : AV → AH → Prop) : AF → Locs → AH → Prop
  | .ret v, _, σ => Q v σ
  | .next, _, σ => Q .none σ
  | _, _, _ => False

theorem lookup_zip_rel {as : List Addr} : ∀ {ps : List Str} {vals : List Value} {args : List AV}, VsRel as vals args → ∀ {x : Str} {av : AV}, (ps.zip args).lookup x = some av → ∃ v, (ps.zip vals).lookup x = some v ∧ VRel as v av
  | [], _, _, _, _, _, e => by simp at e
  | _ :: _, [], [], _, _, _, e => by simp at e
  | p :: ps, v :: vs, a :: args, ⟨h, r⟩, x, av, e => by
    simp only [List.zip_cons_cons, List.lookup_cons] at e ⊢
    cases q : x == p with
    | true => rw [q] at e; cases e; exact ⟨v, rfl, h⟩
    | false => rw [q] at e; exact lookup_zip_rel r e
theorem lookup_zip_mem {α : Type} : ∀ {ps : List Str} {vs : List α} {x : Str} {v : α}, (ps.zip vs).lookup x = some v → x ∈ ps
  | [], _, _, _, e => by simp at e
  | _ :: _, [], _, _, e => by simp at e
  | p :: ps, v :: vs, x, u, e => by
    simp only [List.zip_cons_cons, List.lookup_cons] at e
    cases q : x == p with
    | true => rw [beq_iff_eq.mp q]; exact .head _
    | false => rw [q] at e; exact .tail _ (lookup_zip_mem e)
theorem bindL_off (k : Str → Option NameKind) : ∀ (ps : List Str) (vs : List Value) (m : Str → Option Value) (x : Str), x ∉ ps → bindL k (ps.zip vs) m x = m x
  | [], _, _, _, _ => by simp [bindL]
  | _ :: _, [], _, _, _ => by simp [bindL]
  | p :: ps, v :: vs, m, x, h => by
    simp only [List.zip_cons_cons, bindL]
    rw [bindL_off k ps vs _ x fun q => h (.tail _ q)]
    split
    · exact if_neg fun (q : x = p) => h (q ▸ .head _)
    · rfl
theorem bindC_off (k : Str → Option NameKind) : ∀ (ps : List Str) (vs : List Value) (m : Str → Option Value) (x : Str), x ∉ ps → bindC k (ps.zip vs) m x = m x
  | [], _, _, _, _ => by simp [bindC]
  | _ :: _, [], _, _, _ => by simp [bindC]
  | p :: ps, v :: vs, m, x, h => by
    simp only [List.zip_cons_cons, bindC]
    rw [bindC_off k ps vs _ x fun q => h (.tail _ q)]
    split
    · rfl
    · exact if_neg fun (q : x = p) => h (q ▸ .head _)
theorem bindL_get {k : Str → Option NameKind} : ∀ {ps : List Str} {vs : List Value} {m : Str → Option Value} {x : Str} {v : Value}, ps.Nodup → (ps.zip vs).lookup x = some v → k x = some .local → bindL k (ps.zip vs) m x = some v
  | [], _, _, _, _, _, e, _ => by simp at e
  | _ :: _, [], _, _, _, _, e, _ => by simp at e
  | p :: ps, v :: vs, m, x, u, nd, e, hk => by
    simp only [List.zip_cons_cons, List.lookup_cons] at e
    simp only [List.zip_cons_cons, bindL]
    obtain ⟨n1, n2⟩ := List.nodup_cons.mp nd
    cases q : x == p with
    | true =>
      rw [q] at e; cases e
      have := beq_iff_eq.mp q
      subst this
      rw [bindL_off k ps vs _ x n1, if_pos hk]
      simp
    | false => rw [q] at e; exact bindL_get n2 e hk
theorem bindC_get {k : Str → Option NameKind} : ∀ {ps : List Str} {vs : List Value} {m : Str → Option Value} {x : Str} {v : Value}, ps.Nodup → (ps.zip vs).lookup x = some v → ¬ k x = some .local → bindC k (ps.zip vs) m x = some v
  | [], _, _, _, _, _, e, _ => by simp at e
  | _ :: _, [], _, _, _, _, e, _ => by simp at e
  | p :: ps, v :: vs, m, x, u, nd, e, hk => by
    simp only [List.zip_cons_cons, List.lookup_cons] at e
    simp only [List.zip_cons_cons, bindC]
    obtain ⟨n1, n2⟩ := List.nodup_cons.mp nd
    cases q : x == p with
    | true =>
      rw [q] at e; cases e
      have := beq_iff_eq.mp q
      subst this
      rw [bindC_off k ps vs _ x n1, if_neg hk]
      simp
    | false => rw [q] at e; exact bindC_get n2 e hk
theorem lookup_isSome_of_mem {α : Type} : ∀ {l : List (Str × α)} {x : Str} {a : α}, (x, a) ∈ l → (l.lookup x).isSome = true
  | (y, b) :: r, x, a, h => by
    rw [List.lookup_cons]
    cases q : x == y with
    | true => rfl
    | false =>
      rcases List.mem_cons.mp h with e | h
      · cases e; simp at q
      · exact lookup_isSome_of_mem h
theorem cellsFrom_mem : ∀ (names : List (Str × NameKind)) (k : Nat) (acc : List (Str × Addr)) (p : Str × Addr), p ∈ acc → p ∈ cellsFrom k names acc
  | [], _, _, _, h => h
  | (x, kd) :: r, k, acc, p, h => by
    unfold cellsFrom
    split
    · exact cellsFrom_mem r _ _ _ (.tail _ h)
    · exact cellsFrom_mem r _ _ _ h
theorem cellsFrom_has : ∀ (names : List (Str × NameKind)) (k : Nat) (acc : List (Str × Addr)) (x : Str), names.lookup x = some .cell → ((cellsFrom k names acc).lookup x).isSome = true
  | [], _, _, _, h => by simp at h
  | (y, kd) :: r, k, acc, x, h => by
    rw [List.lookup_cons] at h
    unfold cellsFrom
    cases q : x == y with
    | true =>
      rw [q] at h
      have := beq_iff_eq.mp q
      subst this
      cases h
      exact lookup_isSome_of_mem (cellsFrom_mem r _ _ (x, k) (.head _))
    | false =>
      rw [q] at h
      split
      · exact cellsFrom_has r _ _ x h
      · exact cellsFrom_has r _ _ x h

section
variable {W : Wd} {n : Nat} {σ : AH} {Q : AV → AH → Prop}
theorem code_fn {f : Addr} {ps : List Str} {body : List Stmt} {sc : Scope} {args : List AV} (F : FnIs W f ps body sc) (ha : args.length = ps.length) (h : TSs W n sc body (retQ Q) (ps.zip args) σ) : TCode W (n + 1) (.stat (.ref f)) args Q σ := by
  intro A P as s fv vals hr hi hf hv R Qc E c
  cases hf
  obtain ⟨o, fd, h1, h2, h3, rfl, h5, h6, h7, h8, h9⟩ := F.ex
  have hst : ∀ b x, W.H.get? b = some x → s.heap.get? b = some x := fun b x e => R.keep _ _ (hi _ _ e)
  have hlv : vals.length = ps.length := hv.length.trans ha
  have hloc : ∀ x ∈ ps, fd.scope.names.lookup x = some .local ∨ fd.scope.names.lookup x = some .cell := fun x hx => by
    have := List.all_eq_true.mp F.loc x hx
    unfold storeOk at this
    split at this
    · rename_i e; exact .inl e
    · rename_i e; exact .inr e
    · cases this
  refine codeAny_call_cells (binds := ps.zip vals) (by have := hr.2.1; (first|lia|omega)) (hst _ _ h1) h2 (W.lim.keeps hst) (h8.keeps hst) h3 (h9 vals hlv) h5 ?_ ?_ F.co F.gen F.kind
  · intro x hx
    rcases hloc x.1 (List.of_mem_zip (a := x.1) (b := x.2) hx).1 with e | e
    · exact .inl e
    · exact .inr ⟨e, cellsFrom_has _ _ _ _ e⟩
  · intro s₁ X
    obtain ⟨hp, tk, rfl⟩ := X.toInCall.same
    generalize henv : callEnvC fd s.heap.objs.size f = env at X ⊢
    have eL : env.locals = s.heap.objs.size := by rw [← henv]; rfl
    have esc : env.scope = fd.scope := by rw [← henv]; rfl
    have egl : env.globals = mainGlobals := by rw [← henv]; exact h6
    have ebl : env.builtins = builtinsNs := by rw [← henv]; exact h7
    have ecl : env.cells = cellsFrom (s.heap.objs.size + 1) fd.scope.names [] := by rw [← henv]; rfl
    obtain ⟨oL, e0, nsL⟩ := NsObj.of X.toInCall.ns
    let own : List Addr := env.locals :: env.cells.filterMap fun p => env.cells.lookup p.1
    let O : Pr := fun a o => a ∈ own ∧ hp.get? a = some o
    have ownC : ∀ x c, env.cells.lookup x = some c → c ∈ own := fun x c e => .tail _ (List.mem_filterMap.mpr ⟨(x, c), mem_of_lookup e, e⟩)
    have ownI : ∀ a ∈ own, a = env.locals ∨ ∃ x, env.cells.lookup x = some a := fun a ha => by
      rcases List.mem_cons.mp ha with e | ha
      · exact .inl e
      · obtain ⟨p, _, e⟩ := List.mem_filterMap.mp ha; exact .inr ⟨p.1, e⟩
    have above : ∀ a ∈ own, s.heap.objs.size ≤ a := fun a ha => by
      rcases ownI a ha with e | ⟨x, e⟩
      · rw [e, eL]; exact Nat.le_refl _
      · have := X.above x a (mem_of_lookup e); rw [eL] at this; exact Nat.le_of_lt this
    have ow : Own env own P O := by
      refine ⟨.head _, fun x c e => ⟨ownC x c e, Nat.ne_of_gt (X.above x c (mem_of_lookup e)), ?_⟩, fun x e => ?_, fun x y c e1 e2 => name_of_addr X.apart (mem_of_lookup e1) (mem_of_lookup e2), fun a o q => q.1, fun a ha => ?_, fun a ha o q => ?_⟩
      · obtain ⟨oc, q1, q2⟩ := X.cell x c e
        exact ⟨oc, _, ⟨ownC x c e, q1⟩, q2⟩
      · rw [ecl]; rw [esc] at e
        exact Option.isSome_iff_exists.mp (cellsFrom_has _ _ _ _ e)
      · rcases ownI a ha with e | ⟨x, e⟩
        · exact ⟨oL, ha, e ▸ e0⟩
        · obtain ⟨oc, q1, _⟩ := X.cell x a e; exact ⟨oc, ha, q1⟩
      · have := Heap.lt_size (R.keep _ _ q); exact absurd (above a ha) (Nat.not_le.mpr this)
    have R₁ : Rep W (P.or O) as σ hp := by
      refine R.move (fun b x q => ?_) (fun b x hb q => ?_) fun b _ x e => X.toInCall.keep b x e
      · rcases q with q | q
        · exact X.toInCall.keep _ _ (R.keep _ _ q)
        · exact q.2
      · rcases q with q | q
        · exact q
        · obtain ⟨z, hz⟩ := R.lt hb
          have := Heap.lt_size hz
          exact absurd (above b q.1) (Nat.not_le.mpr this)
    have l₁ : Loc (P.or O) env (ps.zip args) as := by
      refine ⟨⟨oL, _, .inr ⟨.head _, e0⟩, nsL, fun x av q1 q2 => ?_⟩, fun x av q1 q2 => ?_⟩
      · obtain ⟨v, v1, v2⟩ := lookup_zip_rel hv q1
        exact ⟨v, v2, bindL_get F.nd v1 q2⟩
      · obtain ⟨v, v1, v2⟩ := lookup_zip_rel hv q1
        have hk : env.scope.names.lookup x = some .cell := by
          rcases hloc x (lookup_zip_mem q1) with e | e
          · rw [esc] at q2; rw [e] at q2; rcases q2 with q2 | q2 <;> cases q2
          · rw [esc]; exact e
        obtain ⟨cc, hc⟩ := ow.hasC x hk
        obtain ⟨oc, k1, k2⟩ := X.cell x cc hc
        refine ⟨v, cc, oc, v2, hc, .inr ⟨ownC x cc hc, k1⟩, ?_⟩
        rw [k2]
        exact congrArg _ (bindC_get F.nd v1 (by show ¬ env.scope.names.lookup x = some .local; rw [hk]; intro z; cases z))
    refine h (A.deeper env) env own P O as _ (hr.deeper env) ⟨F.kind, esc, egl, ebl⟩ hi ow l₁ R₁ _ _ fun fl af h' tk' as' σ' m' O' x' f' ow' l' R' q' => ?_
    have R'' : Rep W P as' σ' h' := R'.weaken fun a o q => .inl q
    cases af with
    | next => cases f'; exact c _ .none h' tk' as' σ' x' rfl R'' q'
    | ret v => obtain ⟨y, rfl, hy⟩ := f'; exact c _ v h' tk' as' σ' x' hy R'' q'
    | brk => exact q'.elim
    | cont => exact q'.elim
end
end Mine
end
section
namespace Mine
open PySem

section
variable {W : Wd} {P : Pr} {as : List Addr} {σ : AH} {h h' : Heap}
theorem Rep.push (R : Rep W P as σ h) {o : Obj} {ao : AO} (hf : o.isFreed = false) (hm : ao.isMut = true) (r : ORel W.w.params (as ++ [h.objs.size]) o ao) : Rep W P (as ++ [h.objs.size]) (σ ++ [ao]) (h.push o) :=
  R.alloc (get?_size_none h) (fun _ _ e => Heap.get?_push_of_some _ e) (Heap.get?_push_size _ hf) r hm
theorem Rep.vnew (R : Rep W P as σ h) (a : Addr) : VRel (as ++ [a]) (.ref a) (.ref σ.length) := ⟨a, by rw [← R.len]; simp, rfl⟩
theorem Rep.ref (R : Rep W P as σ h) {v : Value} {i : Nat} {ao : AO} (hv : VRel as v (.ref i)) (e : σ[i]? = some ao) : ∃ a o, v = .ref a ∧ as[i]? = some a ∧ h.get? a = some o ∧ ORel W.w.params as o ao := by
  obtain ⟨a, h1, rfl⟩ := hv
  obtain ⟨a', o, h2, h3, h4⟩ := R.at e
  rw [h1] at h2; cases h2
  exact ⟨a, o, rfl, h1, h3, h4⟩
end

section
variable {W : Wd} {n : Nat} {sc : Scope} {m : Locs} {σ : AH} {Q : AV → AH → Prop} {pos : Pos}

def TEs (W : Wd) (n : Nat) (sc : Scope) (m : Locs) (es : List Expr) (Q : List AV → AH → Prop) (σ : AH) : Prop :=
  ∀ (A : Around) (env : Env) (P : Pr) (as : List Addr) (s : Shared) (pos : Pos), Room n A → EnvIs env sc → W.In P → Loc P env m as → Rep W P as σ s.heap →
    ∀ (Qc : List Value → Shared → Prop) (E : Value → Shared → Prop),
      (∀ vs avs h' tk' as' σ', Ext as as' → VsRel as' vs avs → Rep W P as' σ' h' → Q avs σ' → Qc vs { s with heap := h', toks := tk' }) →
      wpAny (model W.prog W.w) A (spliced (backTo pos (starEach es env))) Qc E s
def notStar : Expr → Bool
  | .Starred .. => false
  | _ => true
theorem star_not {e : Expr} (h : notStar e = true) (rest : List Expr) (env : Env) : starEach (e :: rest) env = (false, eval e env) :: starEach rest env := by
  cases e <;> first | rfl | (cases h; done)
theorem kN {Q : List AV → AH → Prop} (h : Q [] σ) : TEs W n sc m [] Q σ :=
  fun _ _ _ as s _ _ _ _ _ R _ _ c => wpAny_items_nil (c [] [] s.heap s.toks as σ (Ext.refl _) trivial R h)
theorem kM {e : Expr} {es : List Expr} {Q : List AV → AH → Prop} (hs : notStar e = true) (h : TE W n sc m e (fun v σ₁ => TEs W n sc m es (fun vs σ₂ => Q (v :: vs) σ₂) σ₁) σ) : TEs W n sc m (e :: es) Q σ := by
  intro A env P as s pos hr he hi hl R Qc E c
  refine wpAny_items_cons (h A env P as s hr he hi hl R _ E fun v av h₁ tk₁ as₁ σ₁ x₁ r₁ R₁ q₁ => ?_) (star_not hs es env)
  exact q₁ A env P as₁ _ pos hr he hi (hl.ext x₁) R₁ _ E fun vs avs h₂ tk₂ as₂ σ₂ x₂ r₂ R₂ q₂ => c (v :: vs) (av :: avs) h₂ tk₂ as₂ σ₂ (x₁.trans x₂) ⟨r₁.ext x₂, r₂⟩ R₂ q₂
theorem kE {es : List Expr} (h : TEs W n sc m es (fun vs σ₁ => vs.length ≤ sizeLine ∧ Q (.ref σ₁.length) (σ₁ ++ [.list vs])) σ) : TE W n sc m (.List es pos) Q σ := by
  intro A env P as s hr he hi hl R Qc E c
  refine wpAny_List (h A env P as s pos hr he hi hl R _ E fun vs avs h₁ tk₁ as₁ σ₁ x₁ r₁ R₁ q₁ => ⟨by rw [r₁.length]; exact q₁.1, ?_⟩)
  exact c _ (.ref σ₁.length) _ tk₁ (as₁ ++ [h₁.objs.size]) (σ₁ ++ [.list avs]) (x₁.trans (Ext.snoc ..)) (R₁.vnew _) (R₁.push (ao := .list avs) rfl rfl ⟨vs, 0, rfl, r₁.ext (Ext.snoc ..)⟩) q₁.2
theorem kK {es : List Expr} {k : Nat} (h : TEs W n sc m es (fun vs σ₁ => vs.length ≤ sizeLine ∧ Q (.ref σ₁.length) (σ₁ ++ [.tuple vs])) σ) : TE W n sc m (.Tuple es k pos) Q σ := by
  intro A env P as s hr he hi hl R Qc E c
  refine wpAny_Tuple (h A env P as s pos hr he hi hl R _ E fun vs avs h₁ tk₁ as₁ σ₁ x₁ r₁ R₁ q₁ => ⟨by rw [r₁.length]; exact q₁.1, ?_⟩)
  exact c _ (.ref σ₁.length) _ tk₁ (as₁ ++ [h₁.objs.size]) (σ₁ ++ [.tuple avs]) (x₁.trans (Ext.snoc ..)) (R₁.vnew _) (R₁.push (ao := .tuple avs) rfl rfl ⟨vs, 0, rfl, r₁.ext (Ext.snoc ..)⟩) q₁.2

def TIdx (W : Wd) (n : Nat) (value slice : Expr) (o i : AV) (Q : AV → AH → Prop) (σ : AH) : Prop :=
  ∀ (A : Around) (P : Pr) (as : List Addr) (s : Shared) (vo vi : Value), Room n A → W.In P → VRel as vo o → VRel as vi i → Rep W P as σ s.heap → Run W P A as s (PyProof.Rows.subscriptTail value slice vo vi) Q
theorem kC {value slice : Expr} (h : TE W n sc m value (fun o σ₁ => TE W n sc m slice (fun i σ₂ => TIdx W n value slice o i Q σ₂) σ₁) σ) : TE W n sc m (.Subscript value slice pos) Q σ := by
  intro A env P as s hr he hi hl R Qc E c
  refine PyProof.Rows.Subscript_ (h A env P as s hr he hi hl R _ E fun va a h₁ tk₁ as₁ σ₁ x₁ r₁ R₁ q₁ => ?_)
  refine q₁ A env P as₁ _ hr he hi (hl.ext x₁) R₁ _ E fun vb b h₂ tk₂ as₂ σ₂ x₂ r₂ R₂ q₂ => ?_
  exact q₂ A P as₂ _ va vb hr hi (r₁.ext x₂) r₂ R₂ _ E fun v av h₃ tk₃ as₃ σ₃ x₃ r₃ R₃ q₃ => c v av h₃ tk₃ as₃ σ₃ ((x₁.trans x₂).trans x₃) r₃ R₃ q₃
def notSlice : Expr → Bool
  | .Slice .. => false
  | _ => true
theorem subscripted_not {e : Expr} (h : notSlice e = true) (o i : Value) : subscripted e false o i = operate [o, i] (getItem o i) := by
  cases e <;> first | rfl | (cases h; done)
def pyIdx (len : Nat) (k : Int) : Option Nat := if 0 ≤ k then (if k < (len : Int) then some k.toNat else none) else if -(len : Int) ≤ k then some (k + len).toNat else none
theorem getItem_listA {prog : Program} {w : World} {A : Around} {E : Value → Shared → Prop} {s : Shared} {l : Addr} {vs : List Value} {k : Int} {t : Tok} {j : Nat} {x : Value} {Qc : Value → Shared → Prop} (hl : s.heap.IsList l vs.toArray) (hj : pyIdx vs.length k = some j) (hx : vs[j]? = some x)
    (hlo : -(2 ^ 63) ≤ k) (hhi : k < 2 ^ 63) (h : Qc x s) : wpAny (model prog w) A (getItem (.ref l) (.int k t)) Qc E s := by
  unfold pyIdx at hj
  split at hj
  · rename_i h0
    split at hj
    · cases hj
      exact wpAny_getItem_list hl h0 hhi (by simpa using hx) h
    · cases hj
  · rename_i h0
    split at hj
    · rename_i h1
      cases hj
      exact wpAny_getItem_list_neg hl (by (first|lia|omega)) (by simpa using h1) hlo (by simpa using hx) h
    · cases hj
theorem tidx_list {value slice : Expr} {l : Nat} {xs : List AV} {k : Int} {j : Nat} {x : AV} (hns : notSlice slice = true) (hl : σ[l]? = some (.list xs)) (hj : pyIdx xs.length k = some j) (hx : xs[j]? = some x) (hb : -(2 ^ 63) ≤ k ∧ k < 2 ^ 63) (h : Q x σ) :
    TIdx W n value slice (.ref l) (.int k) Q σ := by
  intro A P as s vo vi hr hi h1 h2 R Qc E c
  obtain ⟨a, o, rfl, e1, e2, r⟩ := R.ref h1 hl
  obtain ⟨t, rfl⟩ := h2
  obtain ⟨vs, hL, hv⟩ := isList_of e2 r
  obtain ⟨v, v1, v2⟩ := hv.get hx
  exact PyProof.Rows.tail_any hL.typeIs slot_list_getitem.lookup (getItem_listA hL (by rw [hv.length]; exact hj) v1 hb.1 hb.2 (c v x s.heap s.toks as σ (Ext.refl _) v2 R h)) (subscripted_not hns ..)
theorem isInts_of {as : List Addr} {o : Obj} {ns : List Int} {a : Addr} {h : Heap} {P : Params} (e : h.get? a = some o) (r : ORel P as o (.ints ns)) : ∃ vs, h.IsList a (List.toArray vs) ∧ VsRel as vs (ns.map AV.int) := by
  obtain ⟨vs, k, h1, h2, hv⟩ := r
  exact ⟨vs, ⟨_, e, h1, k, h2⟩, hv⟩
theorem tidx_ints {value slice : Expr} {l : Nat} {ns : List Int} {k : Int} {x : Int} (hns : notSlice slice = true) (hl : σ[l]? = some (.ints ns)) (h0 : 0 ≤ k) (hx : ns[k.toNat]? = some x) (hb : k < 2 ^ 63) (h : Q (.int x) σ) :
    TIdx W n value slice (.ref l) (.int k) Q σ := by
  intro A P as s vo vi hr hi h1 h2 R Qc E c
  obtain ⟨a, o, rfl, e1, e2, r⟩ := R.ref h1 hl
  obtain ⟨t, rfl⟩ := h2
  obtain ⟨vs, hL, hv⟩ := isInts_of e2 r
  obtain ⟨v, v1, v2⟩ := hv.get (i := k.toNat) (x := .int x) (by simp [hx])
  exact PyProof.Rows.tail_any hL.typeIs slot_list_getitem.lookup (wpAny_getItem_list hL h0 hb (by simpa using v1) (c v (.int x) s.heap s.toks as σ (Ext.refl _) v2 R h)) (subscripted_not hns ..)
theorem tidx_tuple {value slice : Expr} {l : Nat} {xs : List AV} {k : Int} {j : Nat} {x : AV} (hns : notSlice slice = true) (hl : σ[l]? = some (.tuple xs)) (hj : seqIndex? k xs.length = some j) (hx : xs[j]? = some x) (hb : -(2 ^ 63) ≤ k ∧ k < 2 ^ 63) (h : Q x σ) :
    TIdx W n value slice (.ref l) (.int k) Q σ := by
  intro A P as s vo vi hr hi h1 h2 R Qc E c
  obtain ⟨a, o, rfl, e1, e2, r⟩ := R.ref h1 hl
  obtain ⟨t, rfl⟩ := h2
  obtain ⟨vs, nn, rfl, hv⟩ := r
  obtain ⟨v, v1, v2⟩ := hv.get hx
  have hT : PyProof.Rows.IsTup s.heap a vs.toArray := ⟨_, e2, rfl, nn, rfl⟩
  exact PyProof.Rows.tail_any hT.typeIs PyProof.Rows.slot_tuple_getitem.lookup (PyProof.Rows.getItem_tuple hT hb.1 hb.2 (by simpa [hv.length] using hj) (by simpa using v1) (c v x s.heap s.toks as σ (Ext.refl _) v2 R h)) (subscripted_not hns ..)

def TOpt (W : Wd) (n : Nat) (sc : Scope) (m : Locs) (e : Option Expr) (Q : Option Int → AH → Prop) (σ : AH) : Prop := match e with
  | none => Q none σ
  | some e => TE W n sc m e (fun v σ₁ => ∃ k, v = .int k ∧ Q (some k) σ₁) σ
theorem opt_part {e : Option Expr} {Q : Option Int → AH → Prop} (h : TOpt W n sc m e Q σ) {A : Around} {env : Env} {P : Pr} {as : List Addr} {s : Shared} (hr : Room n A) (he : EnvIs env sc) (hi : W.In P) (hl : Loc P env m as) (R : Rep W P as σ s.heap)
    {Qc : Value → Shared → Prop} {E : Value → Shared → Prop} (c : ∀ v k h' tk' as' σ', Ext as as' → IsPart v k → Rep W P as' σ' h' → Q k σ' → Qc v { s with heap := h', toks := tk' }) : wpAny (model W.prog W.w) A (evalPart e env) Qc E s := by
  cases e with
  | none => exact wpAny_pure (c .none none s.heap s.toks as σ (Ext.refl _) .none R h)
  | some e =>
    rw [evalPart_some]
    refine h A env P as s hr he hi hl R _ E fun v av h₁ tk₁ as₁ σ₁ x₁ r₁ R₁ q₁ => ?_
    obtain ⟨k, rfl, q⟩ := q₁
    obtain ⟨t, rfl⟩ := r₁
    exact c _ (some k) h₁ tk₁ as₁ σ₁ x₁ (.int k t) R₁ q
theorem kI {lower upper step : Option Expr} {p : Pos} (h : TOpt W n sc m lower (fun lo σ₁ => TOpt W n sc m upper (fun hi σ₂ => TOpt W n sc m step (fun st σ₃ => Q (.ref σ₃.length) (σ₃ ++ [.slice lo hi st])) σ₂) σ₁) σ) : TE W n sc m (.Slice lower upper step p) Q σ := by
  intro A env P as s hr he hi hl R Qc E c
  refine wpAny_Slice (opt_part h hr he hi hl R fun vl lo h₁ tk₁ as₁ σ₁ x₁ p₁ R₁ q₁ => ?_)
  refine opt_part q₁ hr he hi (hl.ext x₁) R₁ fun vu hi' h₂ tk₂ as₂ σ₂ x₂ p₂ R₂ q₂ => ?_
  refine opt_part q₂ hr he hi (hl.ext (x₁.trans x₂)) R₂ fun vs st h₃ tk₃ as₃ σ₃ x₃ p₃ R₃ q₃ => ?_
  exact c _ (.ref σ₃.length) _ tk₃ (as₃ ++ [h₃.objs.size]) (σ₃ ++ [.slice lo hi' st]) (((x₁.trans x₂).trans x₃).trans (Ext.snoc ..)) (R₃.vnew _) (R₃.push (ao := .slice lo hi' st) rfl rfl ⟨vl, vu, vs, rfl, p₁, p₂, p₃⟩) q₃
def pickL {α : Type} (xs : List α) (lo hi st : Option Int) : List α :=
  (sliceRange (sliceBounds lo hi st xs.length).1 (sliceBounds lo hi st xs.length).2.1 (sliceBounds lo hi st xs.length).2.2).filterMap (xs[·]?)
theorem pickL_eq (vs : List Value) (lo hi st : Option Int) : slicePick vs.toArray lo hi st = (pickL vs lo hi st).toArray := by
  simp [slicePick, pickL]
theorem VsRel.pick {as : List Addr} {vs : List Value} {xs : List AV} (h : VsRel as vs xs) : ∀ ks : List Nat, VsRel as (ks.filterMap (vs[·]?)) (ks.filterMap (xs[·]?))
  | [] => trivial
  | k :: ks => by
    cases q : xs[k]? with
    | none =>
      have : vs[k]? = none := by
        rw [List.getElem?_eq_none_iff] at q ⊢; rw [h.length]; exact q
      rw [List.filterMap_cons_none this, List.filterMap_cons_none q]; exact h.pick ks
    | some x =>
      obtain ⟨v, v1, v2⟩ := h.get q
      rw [List.filterMap_cons_some v1, List.filterMap_cons_some q]; exact ⟨v2, h.pick ks⟩
theorem tidx_slice {lo' hi' st' : Option Expr} {p : Pos} {v : Expr} {l sl : Nat} {xs : List AV} {lo hi st : Option Int} (hl : σ[l]? = some (.list xs)) (hs : σ[sl]? = some (.slice lo hi st)) (h0 : st ≠ some 0) (hz : xs.length ≤ sizeLine)
    (h : Q (.ref σ.length) (σ ++ [.list (pickL xs lo hi st)])) : TIdx W n v (.Slice lo' hi' st' p) (.ref l) (.ref sl) Q σ := by
  intro A P as s vo vi hr hi'' h1 h2 R Qc E c
  obtain ⟨a, o, rfl, e1, e2, r⟩ := R.ref h1 hl
  obtain ⟨b, os, rfl, f1, f2, rs⟩ := R.ref h2 hs
  obtain ⟨vs, hL, hv⟩ := isList_of e2 r
  obtain ⟨vl, vu, vst, rfl, p1, p2, p3⟩ := rs
  have key : wpAny (model W.prog W.w) A (getItem (.ref a) (.ref b)) Qc E s := by
    refine wpAny_getItem_list_slice hL ⟨_, f2, rfl, rfl⟩ p1 p2 p3 h0 ?_ (by simp [hv.length, hz])
    refine c _ (.ref σ.length) _ s.toks (as ++ [s.heap.objs.size]) _ (Ext.snoc ..) (R.vnew _) (R.push (ao := .list (pickL xs lo hi st)) rfl rfl ?_) h
    refine ⟨pickL vs lo hi st, 0, by rw [pickL_eq], ?_⟩
    have := hv.pick (sliceRange (sliceBounds lo hi st xs.length).1 (sliceBounds lo hi st xs.length).2.1 (sliceBounds lo hi st xs.length).2.2)
    unfold pickL
    rw [hv.length]
    exact this.ext (Ext.snoc ..)
  cases st' with
  | none => exact PyProof.Rows.tail_any (ops := [.ref b, .ref a]) hL.typeIs slot_list_getitem.lookup key rfl
  | some e => exact PyProof.Rows.tail_any (ops := [.ref a, .ref b]) hL.typeIs slot_list_getitem.lookup key rfl

theorem tcall_len {l : Nat} {xs : List AV} (hl : σ[l]? = some (.list xs)) (hz : (xs.length : Int) < 2 ^ 63) (h : Q (.int xs.length) σ) : TCall W n (.stat (.builtin "len")) [.ref l] Q σ := by
  intro A P as s fv vals hr hi hf hv R Qc E c
  cases hf
  obtain ⟨v, rfl, h1⟩ := VsRel.x1 hv
  obtain ⟨a, o, rfl, e1, e2, r⟩ := R.ref h1 hl
  obtain ⟨vs, hL, hv⟩ := isList_of e2 r
  have hs : vs.toArray.size = xs.length := by simp [hv.length]
  exact Calls.call_len_list hL (by rw [hs]; exact hz) (c _ (.int xs.length) s.heap _ as σ (Ext.refl _) ⟨_, by rw [hs]⟩ R h)
theorem tcall_len_ints {l : Nat} {ns : List Int} (hl : σ[l]? = some (.ints ns)) (hz : (ns.length : Int) < 2 ^ 63) (h : Q (.int ns.length) σ) : TCall W n (.stat (.builtin "len")) [.ref l] Q σ := by
  intro A P as s fv vals hr hi hf hv R Qc E c
  cases hf
  obtain ⟨v, rfl, h1⟩ := VsRel.x1 hv
  obtain ⟨a, o, rfl, e1, e2, r⟩ := R.ref h1 hl
  obtain ⟨vs, hL, hv⟩ := isInts_of e2 r
  have hs : vs.toArray.size = ns.length := by simp [hv.length]
  exact Calls.call_len_list hL (by rw [hs]; exact hz) (c _ (.int ns.length) s.heap _ as σ (Ext.refl _) ⟨_, by rw [hs]⟩ R h)
end
end Mine
end
section
namespace Mine
open PySem

section
variable {prog : Program} {w : World} {A : Around} {E : Value → Shared → Prop} {s : Shared}
theorem setItem_exact {l : Addr} {items : Array Value} {nn : Nat} {k : Int} {t : Tok} {v : Value} {j : Nat} {Qc : Unit → Shared → Prop} (hl : s.heap.get? l = some { cls := .type "list", data := .seq items nn })
    (hj : pyIdx items.size k = some j) (hlo : -(2 ^ 63) ≤ k) (hhi : k < 2 ^ 63) (h : Qc () { s with heap := s.heap.update l (Obj.mapSeq (·.setIfInBounds j v)) }) : wpAny (model prog w) A (setItem (.ref l) (.int k t) v) Qc E s := by
  have hL : s.heap.IsList l items := ⟨_, hl, rfl, nn, rfl⟩
  have hjs : j < items.size := by
    unfold pyIdx at hj
    split at hj
    · split at hj
      · cases hj; (first|lia|omega)
      · cases hj
    · split at hj
      · cases hj; (first|lia|omega)
      · cases hj
  have hx' : items[j]? = some items[j] := Array.getElem?_eq_getElem hjs
  unfold setItem
  refine wpAny_holding ?_
  refine wpAny_bind (wpAny_sequenceKey hL.typeIs (by decide) ?_)
  refine wpAny_bind (wpAny_callSpecial?_slot (name := Str.ofString "__setitem__") hL.typeIs slot_list_setitem
    (wpAny_call_entry slot_list_setitem hL.typeIs entry_list_setitem ?_ (args_list_setitem _ _ _)))
  show wpAny _ _ (Builtin.List.listSubscript? (.int k t) >>= _) _ _ s
  have hfit : Builtin.List.listFitsIndex k = true := by
    rcases Int.lt_or_le k 0 with q | q
    · exact fitsIndex_neg q hlo
    · exact fitsIndex_of q hhi
  refine wpAny_bind (wpAny_listSubscript_int hfit ?_)
  rcases Int.lt_or_le k 0 with q | q
  · obtain ⟨m, rfl⟩ : ∃ m : Nat, k = Int.negSucc m := by
      cases k with
      | ofNat m => exact absurd q (by simp)
      | negSucc m => exact ⟨m, rfl⟩
    have hj2 : seqIndex? (Int.negSucc m) items.size = some j := by
      unfold pyIdx at hj
      rw [if_neg (Int.not_le.mpr q)] at hj
      split at hj
      · rename_i h1
        rw [seqIndex_neg q h1]; exact hj
      · cases hj
    show wpAny _ _ ((Builtin.List.listItems (.ref l) >>= fun xs => pure ((seqIndex? (Int.negSucc m) xs.size).bind fun j => xs[j]?.map (j, ·))) >>= _) _ _ s
    refine wpAny_bind (wpAny_bind (wpAny_listItems hl rfl (wpAny_pure ?_)))
    rw [hj2, Option.bind_some, hx']
    show wpAny _ _ (setSeqItemAt l j v >>= _) _ _ s
    refine wpAny_bind (wpAny_setSeqItemAt hl rfl ?_)
    exact wpAny_pure ⟨.none, rfl, wpAny_pure h⟩
  · obtain ⟨j', rfl⟩ := Int.eq_ofNat_of_zero_le q
    have : j' = j := by
      unfold pyIdx at hj
      rw [if_pos q] at hj
      split at hj
      · cases hj; rfl
      · cases hj
    subst this
    show wpAny _ _ ((seqItemAt l j' >>= fun r => pure (r.map (j', ·))) >>= _) _ _ s
    refine wpAny_bind (wpAny_bind (wpAny_seqItemAt hl rfl (wpAny_pure ?_)))
    rw [hx']
    show wpAny _ _ (setSeqItemAt l j' v >>= _) _ _ s
    refine wpAny_bind (wpAny_setSeqItemAt hl rfl ?_)
    exact wpAny_pure ⟨.none, rfl, wpAny_pure h⟩

theorem delItem_slice {l sl : Addr} {items : Array Value} {nn : Nat} {vl vu vs : Value} {lo hi st : Option Int} {Qc : Unit → Shared → Prop} (hl : s.heap.get? l = some { cls := .type "list", data := .seq items nn })
    (hs : s.heap.IsSliceOf sl vl vu vs) (pl : IsPart vl lo) (pu : IsPart vu hi) (ps : IsPart vs st) (h0 : st ≠ some 0) (hz : items.size ≤ sizeLine)
    (h : ∀ sel : Nat → Bool, (∀ k : Nat, sel k = if (sliceBounds lo hi st items.size).2.2 > 0 then decide ((sliceBounds lo hi st items.size).1 ≤ k) && decide ((k : Int) < (sliceBounds lo hi st items.size).2.1) && ((k : Int) - (sliceBounds lo hi st items.size).1) % (sliceBounds lo hi st items.size).2.2 == 0
        else decide ((sliceBounds lo hi st items.size).2.1 < k) && decide ((k : Int) ≤ (sliceBounds lo hi st items.size).1) && ((sliceBounds lo hi st items.size).1 - (k : Int)) % (-(sliceBounds lo hi st items.size).2.2) == 0) →
      Qc () { s with heap := s.heap.update l (Obj.mapSeq fun xs => (xs.toList.zipIdx.filterMap fun p => if sel p.2 = true then none else some p.1).toArray) }) : wpAny (model prog w) A (delItem (.ref l) (.ref sl)) Qc E s := by
  have hL : s.heap.IsList l items := ⟨_, hl, rfl, nn, rfl⟩
  obtain ⟨os, hos, hcs, hds⟩ := id hs
  have hTs : s.TypeIs (.ref sl) "slice" := ⟨os, hos, hcs⟩
  refine wpAny_delItem_slot hL.typeIs (by decide) F.slot_list_delitem (wpAny_call_entry F.slot_list_delitem hL.typeIs F.entry_list_delitem ?_ (F.args_list_delitem_2 _ _))
  show wpAny _ _ (Builtin.List.listSubscript? (.ref sl) >>= _) _ _ s
  refine wpAny_bind ?_
  unfold Builtin.List.listSubscript?
  refine wpAny_bind (wpAny_specialOf hTs slice_no_index ?_)
  simp only [Option.isNone_none, if_true]
  refine wpAny_pure ?_
  show wpAny _ _ (typeOf (.ref sl) >>= _) _ _ s
  refine wpAny_bind (wpAny_typeOf hTs ?_)
  rw [if_neg (by decide)]
  rw [listSliceParts_eq]
  have hstep : ¬ ((rawPart st == rawInt 0) = true) := by
    cases st with
    | none => exact Bool.false_ne_true
    | some c =>
      intro hh
      have : c = 0 := by simpa [rawPart, rawInt] using hh
      exact h0 (by rw [this])
  refine wpAny_bind (wpAny_bind (wpAny_field hos hds (x := vs) rfl (wpAny_bind (wpAny_listPart ps ?_))))
  rw [if_neg hstep]
  refine wpAny_bind (wpAny_field hos hds (x := vl) rfl (wpAny_bind (wpAny_listPart pl ?_)))
  refine wpAny_bind (wpAny_field hos hds (x := vu) rfl (wpAny_bind (wpAny_listPart pu (wpAny_pure ?_))))
  refine wpAny_bind (wpAny_listItems hl rfl ?_)
  refine wpAny_bind (wpAny_of_eq (sliceIndices_raw lo hi st items.size h0) ?_)
  refine wpAny_bind (wpAny_rule ?_)
  refine wpAny_bind (wpAny_updateSeq (a := l) hl rfl ?_ hz ?_)
  · refine wpAny_bind (wpAny_letGo (wpAny_pure ?_))
    refine ⟨.none, rfl, ?_⟩
    exact h (fun k => _) fun k => rfl
  · refine Nat.le_trans ?_ (Nat.le_succ_of_le hz)
    rw [List.size_toArray]
    refine Nat.le_trans (List.length_filterMap_le ..) ?_
    simp
end
end Mine
end
section
namespace Mine
open PySem PySem.W

section
variable {W : Wd} {n : Nat} {sc : Scope} {m : Locs} {σ : AH} {Q : AV → AH → Prop} {pos : Pos}

inductive Keeps (W : Wd) : Value → Prop where
  | builtin (id : String) : Keeps W (.builtin id)
  | type (t : String) : Keeps W (.type t)
  | fn {a : Addr} {o : Obj} {fd : FuncData} : W.H.get? a = some o → o.data = .func fd → Keeps W (.ref a)
  | cls {K : Frag} {C : Addr} : K.In W.H → keepIn K (.ref C) = true → Keeps W (.ref C)
theorem Keeps.looks {f : Value} (k : Keeps W f) {h : Heap} (hh : ∀ b o, W.H.get? b = some o → h.get? b = some o) : ∃ k, (k = Keeper.frame ∨ k = Keeper.machine ∨ k = Keeper.boundFrame) ∧ Looks (model W.prog W.w) h (keeperOf f) k := by
  cases k with
  | builtin id => exact ⟨.machine, .inr (.inl rfl), Looks.of_pure rfl⟩
  | type t => exact ⟨.machine, .inr (.inl rfl), Looks.of_pure rfl⟩
  | fn h1 h2 =>
    refine ⟨.frame, .inl rfl, (Looks.ld (part := none) (hh _ _ h1)).andThen ?_⟩
    rw [h2]; exact .now
  | cls X hk => exact keeps_K hk h (X.keeps hh)
theorem any_backTo (pos : Pos) (env : Env) : ∀ es : List Expr, (es.all notStar) = true → ((backTo pos (starEach es env)).any (·.1)) = false
  | [], _ => rfl
  | e :: es, h => by
    have h' : notStar e = true ∧ es.all notStar = true := by simpa using h
    rw [star_not h'.1]
    show (false || (backTo pos (starEach es env)).any (·.1)) = false
    rw [any_backTo pos env es h'.2]; rfl
theorem evalArgs_none {M : Model} {A : Around} {E : Value → Shared → Prop} {s : Shared} {f : Value} {pos : Pos} {env : Env} {Q : Args → Shared → Prop} (h : wpAny M A (spliced (backTo pos (starEach [] env))) (fun vs s' => Q ⟨vs, []⟩ s') E s) : wpAny M A (evalArgs f true (backTo pos (starEach [] env)) []) Q E s := by
  unfold evalArgs
  show wpAny M A (spliced (backTo pos (starEach [] env)) >>= _) Q E s
  refine wpAny_bind (wpAny_mono h (fun vs s' h' => ?_) fun _ _ x => x)
  refine wpAny_bind (wpAny_pure ?_)
  refine wpAny_holding ?_
  exact wpAny_bind (wpAny_pure (wpAny_bind (wpAny_pure (wpAny_pure h'))))
theorem callW {A : Around} {env : Env} {P : Pr} {as : List Addr} {s : Shared} {args : List Expr} {f : Value} {first : List Value} {af : AV} {afirst : List AV} {Qc : Value → Shared → Prop} {E : Value → Shared → Prop}
    (hn : args.all notStar = true) (h : TEs W n sc m args (fun vs σ₁ => TCall W n af (afirst ++ vs) Q σ₁) σ) (hk : Keeps W f) (hf : VRel as f af) (hfs : VsRel as first afirst)
    (hr : Room n A) (he : EnvIs env sc) (hi : W.In P) (hl : Loc P env m as) (R : Rep W P as σ s.heap)
    (c : ∀ v av h' tk' as' σ', Ext as as' → VRel as' v av → Rep W P as' σ' h' → Q av σ' → Qc v { s with heap := h', toks := tk' }) :
    wpAny (model W.prog W.w) A (callWith pos f first (backTo pos (starEach args env)) []) Qc E s := by
  refine callWith_of (P := fun h => ∀ b o, W.H.get? b = some o → h.get? b = some o) (by rw [any_backTo pos env args hn]; rfl) (fun h hh => hk.looks hh) ?_
  have key : wpAny (model W.prog W.w) A (spliced (backTo pos (starEach args env))) (fun vs s₁ => (∀ b o, W.H.get? b = some o → s₁.heap.get? b = some o) ∧ wpAny (model W.prog W.w) A (call f (first ++ vs)) Qc E s₁) E s := by
    refine h A env P as s pos hr he hi hl R _ E fun vs avs h₁ tk₁ as₁ σ₁ x₁ r₁ R₁ q₁ => ⟨fun b o e => R₁.keep _ _ (hi _ _ e), ?_⟩
    exact q₁ A P as₁ _ f (first ++ vs) hr hi (hf.ext x₁) ((hfs.ext x₁).append r₁) R₁ Qc E fun v av h₂ tk₂ as₂ σ₂ x₂ r₂ R₂ q₂ => c v av h₂ tk₂ as₂ σ₂ (x₁.trans x₂) r₂ R₂ q₂
  cases args with
  | nil => exact evalArgs_none key
  | cons e rest =>
    have h' : notStar e = true ∧ rest.all notStar = true := by simpa using hn
    rw [star_not h'.1] at key ⊢
    exact Calls.evalArgs_plain key
def notAttr : Expr → Bool
  | .Attribute .. => false
  | _ => true
theorem te_call {func : Expr} {args : List Expr} (ha : notAttr func = true) (hn : args.all notStar = true)
    (h : TE W n sc m func (fun fv σ₁ => (∃ f, fv = .stat f ∧ Keeps W f) ∧ TEs W n sc m args (fun vs σ₂ => TCall W n fv vs Q σ₂) σ₁) σ) : TE W n sc m (.Call func args [] pos) Q σ := by
  intro A env P as s hr he hi hl R Qc E c
  have e : eval (.Call func args [] pos) env = (do callWith pos (← eval func env) [] (backTo pos (starEach args env)) []) := by
    cases func <;> first | rfl | (cases ha; done)
  rw [e]
  refine wpAny_bind (h A env P as s hr he hi hl R _ E fun v av h₁ tk₁ as₁ σ₁ x₁ r₁ R₁ q₁ => ?_)
  obtain ⟨⟨f, rfl, hk⟩, q⟩ := q₁
  cases r₁
  exact callW (afirst := []) hn q hk rfl trivial hr he hi (hl.ext x₁) R₁ fun v av h₂ tk₂ as₂ σ₂ x₂ r₂ R₂ q₂ => c v av h₂ tk₂ as₂ σ₂ (x₁.trans x₂) r₂ R₂ q₂
def TMeth (W : Wd) (n : Nat) (o : AV) (name : Str) (Q : AV → List AV → AH → Prop) (σ : AH) : Prop :=
  ∀ (A : Around) (P : Pr) (as : List Addr) (s : Shared) (vo : Value) (pl : Sem Bool), Room n A → W.In P → VRel as vo o → Rep W P as σ s.heap →
    ∀ (Qc : Value × List Value → Shared → Prop) (E : Value → Shared → Prop),
      (∀ f fs af afs h' tk' as' σ', Ext as as' → Keeps W f → VRel as' f af → VsRel as' fs afs → Rep W P as' σ' h' → Q af afs σ' → Qc (f, fs) { s with heap := h', toks := tk' }) →
      wpAny (model W.prog W.w) A (getMethod vo name pl) Qc E s
theorem kF {o : Expr} {name : Str} {apos : Pos} {args : List Expr} (hn : args.all notStar = true)
    (he' : ∀ env, eval (.Call (.Attribute o name apos) args [] pos) env = (do
      let ov ← eval o env
      standAt apos.atName
      let (f, first) ← holding [ov] (getMethod ov name (do return (← importBound o env).getD true))
      callWith pos f first (backTo pos (starEach args env)) []))
    (h : TE W n sc m o (fun ov σ₁ => TMeth W n ov name (fun f fs σ₂ => TEs W n sc m args (fun vs σ₃ => TCall W n f (fs ++ vs) Q σ₃) σ₂) σ₁) σ) : TE W n sc m (.Call (.Attribute o name apos) args [] pos) Q σ := by
  intro A env P as s hr he hi hl R Qc E c
  rw [he' env]
  refine wpAny_bind (h A env P as s hr he hi hl R _ E fun v av h₁ tk₁ as₁ σ₁ x₁ r₁ R₁ q₁ => ?_)
  refine wpAny_bind (wpAny_standAt (wpAny_bind (wpAny_holding ?_)))
  refine q₁ A P as₁ _ v _ hr hi r₁ R₁ _ E fun f fs af afs h₂ tk₂ as₂ σ₂ x₂ k₂ f₂ fs₂ R₂ q₂ => ?_
  exact callW hn q₂ k₂ f₂ fs₂ hr he hi (hl.ext (x₁.trans x₂)) R₂ fun v av h₃ tk₃ as₃ σ₃ x₃ r₃ R₃ q₃ => c v av h₃ tk₃ as₃ σ₃ ((x₁.trans x₂).trans x₃) r₃ R₃ q₃
theorem tmeth_append {l : Nat} {xs : List AV} {QM : AV → List AV → AH → Prop} (hl : σ[l]? = some (.list xs)) (h : QM (.stat (.builtin "list.append")) [.ref l] σ) : TMeth W n (.ref l) "append" QM σ := by
  intro A P as s vo pl hr hi hv R Qc E c
  obtain ⟨a, o, rfl, e1, e2, r⟩ := R.ref hv hl
  obtain ⟨vs, nn, rfl, hvs⟩ := r
  exact Calls.getMethod_list_append e2 rfl rfl (c _ _ (.stat (.builtin "list.append")) [.ref l] s.heap s.toks as σ (Ext.refl _) (.builtin _) rfl ⟨⟨a, e1, rfl⟩, trivial⟩ R h)
theorem tcall_append {l : Nat} {xs : List AV} {v : AV} (hl : σ[l]? = some (.list xs)) (hz : xs.length ≤ sizeLine) (h : Q .none (σ.set l (.list (xs ++ [v])))) : TCall W n (.stat (.builtin "list.append")) [.ref l, v] Q σ := by
  intro A P as s fv vals hr hi hf hv R Qc E c
  cases hf
  obtain ⟨u, w, rfl, h1, h2⟩ := VsRel.x2 hv
  obtain ⟨a, o, rfl, e1, e2, r⟩ := R.ref h1 hl
  obtain ⟨vs, nn, rfl, hvs⟩ := r
  refine wpAny_list_append_plain ⟨nn, e2⟩ (fun h' hp sb => ?_) (by simp [hvs.length, hz])
  obtain ⟨n', e'⟩ := hp
  refine c .none .none h' s.toks as _ (Ext.refl _) rfl (R.set (ao' := .list (xs ++ [v])) e1 hl rfl rfl sb e' ⟨vs ++ [w], n', by simp, hvs.append ⟨h2, trivial⟩⟩) h
end
end Mine
end
section
namespace Mine
open PySem

section
variable {W : Wd} {n : Nat} {sc : Scope} {m : Locs} {σ : AH} {Q : AV → AH → Prop} {pos : Pos}

theorem tbin_addL {l r : Nat} {xs ys : List AV} (hl : σ[l]? = some (.list xs)) (hr' : σ[r]? = some (.list ys)) (hz : xs.length + ys.length ≤ sizeLine) (h : Q (.ref σ.length) (σ ++ [.list (xs ++ ys)])) : TBin W n .Add (.ref l) (.ref r) Q σ := by
  intro A P as s va vb hr hi h1 h2 R Qc E c
  obtain ⟨a, o, rfl, e1, e2, r1⟩ := R.ref h1 hl
  obtain ⟨b, o2, rfl, f1, f2, r2⟩ := R.ref h2 hr'
  obtain ⟨vs, n1, rfl, hv⟩ := r1
  obtain ⟨us, n2, rfl, hu⟩ := r2
  refine PySem.P.add_list e2 f2 ?_ (by simp [hv.length, hu.length, hz])
  exact c _ (.ref σ.length) _ s.toks (as ++ [s.heap.objs.size]) _ (Ext.snoc ..) (R.vnew _) (R.push (ao := .list (xs ++ ys)) rfl rfl ⟨vs ++ us, 0, by simp, (hv.append hu).ext (Ext.snoc ..)⟩) h
theorem foldl_reps {α : Type} (vs : List α) : ∀ k (acc : Array α), List.foldl (fun x1 x2 => x1 ++ x2) acc (List.replicate k vs.toArray) = acc ++ (List.replicate k vs).flatten.toArray
  | 0, acc => by simp
  | k + 1, acc => by
    rw [List.replicate_succ, List.foldl_cons, foldl_reps vs k, List.replicate_succ, List.flatten_cons]
    apply Array.ext'; simp
theorem VsRel.reps {as : List Addr} {vs : List Value} {xs : List AV} (h : VsRel as vs xs) : ∀ k, VsRel as (List.replicate k vs).flatten (List.replicate k xs).flatten
  | 0 => trivial
  | k + 1 => by simp only [List.replicate_succ, List.flatten_cons]; exact h.append (h.reps k)
theorem tbin_mulL {l : Nat} {xs : List AV} {k : Int} (hl : σ[l]? = some (.list xs)) (hlo : -(2 ^ 63 : Int) ≤ k) (hhi : k < 2 ^ 63) (hz : xs.length * k.toNat ≤ 2 ^ 24) (h : Q (.ref σ.length) (σ ++ [.list (List.replicate k.toNat xs).flatten])) : TBin W n .Mult (.ref l) (.int k) Q σ := by
  intro A P as s va vb hr hi h1 h2 R Qc E c
  obtain ⟨a, o, rfl, e1, e2, r1⟩ := R.ref h1 hl
  obtain ⟨t, rfl⟩ := h2
  obtain ⟨vs, n1, rfl, hv⟩ := r1
  have fin : ∀ its : Array Value, its = (List.replicate k.toNat vs).flatten.toArray → Qc (.ref s.heap.objs.size) { s with heap := s.heap.push { cls := .type "list", data := .seq its } } := by
    rintro its rfl
    exact c _ (.ref σ.length) _ s.toks (as ++ [s.heap.objs.size]) _ (Ext.snoc ..) (R.vnew _) (R.push (ao := .list (List.replicate k.toNat xs).flatten) rfl rfl ⟨(List.replicate k.toNat vs).flatten, 0, rfl, (hv.reps _).ext (Ext.snoc ..)⟩) h
  have hsz : vs.toArray.size * k.toNat ≤ 2 ^ 24 := by simpa [hv.length] using hz
  refine wpAny_binaryOp_repeat_ref (T := "list") (U := "int") (by decide) ⟨_, e2, rfl⟩ (fun s' => typeIs_int s' k t) noFill_list_mul F.fills_int_mul F.slot_int_rmul repeat_list F.slot_int_index.lookup
    (call_meets F.slot_int_rmul (typeIs_int s k t) F.entry_int_rmul (F.args_int_rmul_2 _ _) (int___rmul___int_list k t a vs.toArray n1)
      ⟨e2, rfl, ⟨_, e2, rfl⟩, call_meets F.slot_list_mul ⟨_, e2, rfl⟩ F.entry_list_mul (F.args_list_mul_2 _ _)
        (AutoListH.list___mul___list_int_3 a vs.toArray n1 k t (by simp [Builtin.List.listFitsIndex]; (first|lia|omega)) (by (first|lia|omega)) (by simp only [Builtin.List.listTooLong, sizeLine_eq]; exact fun q => absurd (of_decide_eq_true q) (by (first|lia|omega)))) ⟨e2, fin _ ?_⟩⟩)
  by_cases q : vs.toArray.isEmpty = true
  · rw [if_pos q]
    have : vs = [] := by simpa using q
    subst this
    simp
  · rw [if_neg q, foldl_reps]; simp

def statIs : AV → Option Value
  | .none => some .none
  | .bool b => some (.bool b)
  | .stat (.type t) => some (.type t)
  | .stat (.builtin t) => some (.builtin t)
  | _ => none
theorem tcmp_isNot {x y : AV} {a b : Value} (hx : statIs x = some a) (hy : statIs y = some b) (hp : plainIs a b = true) (h : Q (.bool (!(a == b))) σ) : TCmp W n .IsNot x y Q σ := by
  intro A P as s va vb hr hi h1 h2 R Qc E c
  have e1 : va = a := by
    cases x with
    | none => cases hx; exact h1
    | bool b => cases hx; exact h1
    | stat u => cases u <;> first | (cases hx; exact h1) | cases hx
    | _ => cases hx
  have e2 : vb = b := by
    cases y with
    | none => cases hy; exact h2
    | bool b => cases hy; exact h2
    | stat u => cases u <;> first | (cases hy; exact h2) | cases hy
    | _ => cases hy
  subst e1 e2
  exact wpAny_isNot_plain hp (c _ (.bool _) s.heap s.toks as σ (Ext.refl _) rfl R h)

mutual
inductive Den (σ : AH) : AV → PyData → Prop
  | none : Den σ .none .none
  | bool (b) : Den σ (.bool b) (.bool b)
  | int (i) : Den σ (.int i) (.int i)
  | str (x) : Den σ (.str x) (.str x)
  | list {i xs ds} : σ[i]? = some (.list xs) → DenAll σ xs ds → Den σ (.ref i) (.list ds)
  | tuple {i xs ds} : σ[i]? = some (.tuple xs) → DenAll σ xs ds → Den σ (.ref i) (.tuple ds)
inductive DenAll (σ : AH) : List AV → List PyData → Prop
  | nil : DenAll σ [] []
  | cons {x xs d ds} : Den σ x d → DenAll σ xs ds → DenAll σ (x :: xs) (d :: ds)
end
mutual
theorem Den.reads {P : Pr} {as : List Addr} {h : Heap} (R : Rep W P as σ h) : ∀ {x : AV} {d : PyData}, Den σ x d → ∀ {v : Value}, VRel as v x → ∃ bs, Reads h v d bs
  | _, _, .none, v, hv => by cases hv; exact ⟨_, .none⟩
  | _, _, .bool b, v, hv => by cases hv; exact ⟨_, .bool b⟩
  | _, _, .int i, v, hv => by obtain ⟨t, rfl⟩ := hv; exact ⟨_, .int i t⟩
  | _, _, .str x, v, hv => by obtain ⟨t, rfl⟩ := hv; exact ⟨_, .str x t⟩
  | _, _, .list e ha, v, hv => by
    obtain ⟨a, o, rfl, e1, e2, r⟩ := R.ref hv e
    obtain ⟨vs, k, rfl, hvs⟩ := r
    obtain ⟨bs, hb⟩ := DenAll.reads R ha hvs
    exact ⟨_, .list e2 rfl rfl (by simpa using hb)⟩
  | _, _, .tuple e ha, v, hv => by
    obtain ⟨a, o, rfl, e1, e2, r⟩ := R.ref hv e
    obtain ⟨vs, k, rfl, hvs⟩ := r
    obtain ⟨bs, hb⟩ := DenAll.reads R ha hvs
    exact ⟨_, .tuple e2 rfl rfl (by simpa using hb)⟩
theorem DenAll.reads {P : Pr} {as : List Addr} {h : Heap} (R : Rep W P as σ h) : ∀ {xs : List AV} {ds : List PyData}, DenAll σ xs ds → ∀ {vs : List Value}, VsRel as vs xs → ∃ bs, ReadsAll h vs ds bs
  | _, _, .nil, [], _ => ⟨_, .nil⟩
  | _, _, .cons hd ha, v :: vs, ⟨h1, h2⟩ => by
    obtain ⟨b1, r1⟩ := Den.reads R hd h1
    obtain ⟨b2, r2⟩ := DenAll.reads R ha h2
    exact ⟨_, .cons r1 r2⟩
end
theorem tcmp_eqD {x y : AV} {d e : PyData} (hx : Den σ x d) (hy : Den σ y e) (c1 : d.canLay0 = true) (c2 : e.canLay0 = true) (hd : d.depth ≤ 100) (h : Q (.bool (PyData.eqv d e)) σ) : TCmp W n .Eq x y Q σ := by
  intro A P as s va vb hr hi h1 h2 R Qc E c
  obtain ⟨b1, r1⟩ := Den.reads R hx h1
  obtain ⟨b2, r2⟩ := Den.reads R hy h2
  exact SeqAt.compareEq_reads r1 r2 c1 c2 (by have := hr.2.2; (first|lia|omega)) (c _ (.bool _) s.heap s.toks as σ (Ext.refl _) rfl R h)
theorem tcmp_neD {x y : AV} {d e : PyData} (hx : Den σ x d) (hy : Den σ y e) (c1 : d.canLay0 = true) (c2 : e.canLay0 = true) (hd : d.depth ≤ 100) (h : Q (.bool (!PyData.eqv d e)) σ) : TCmp W n .NotEq x y Q σ := by
  intro A P as s va vb hr hi h1 h2 R Qc E c
  obtain ⟨b1, r1⟩ := Den.reads R hx h1
  obtain ⟨b2, r2⟩ := Den.reads R hy h2
  exact SeqAt.compareNe_reads r1 r2 c1 c2 (by have := hr.2.2; (first|lia|omega)) (c _ (.bool _) s.heap s.toks as σ (Ext.refl _) rfl R h)

theorem tcall_abs {a : Int} (h : Q (.int (if a < 0 then -a else a)) σ) : TCall W n (.stat (.builtin "abs")) [.int a] Q σ := by
  intro A P as s fv vals hr hi hf hv R Qc E c
  cases hf
  obtain ⟨v, rfl, ⟨t, e⟩⟩ := VsRel.x1 hv
  subst e
  exact PyProof.Rows.call_abs_int fun u tk => c _ (.int _) s.heap tk as σ (Ext.refl _) ⟨_, rfl⟩ R h
theorem tcall_list {l : Nat} {xs : List AV} (hl : σ[l]? = some (.list xs)) (hz : xs.length ≤ sizeLine) (h : Q (.ref σ.length) (σ ++ [.list xs])) : TCall W n (.stat (.type "list")) [.ref l] Q σ := by
  intro A P as s fv vals hr hi hf hv R Qc E c
  cases hf
  obtain ⟨v, rfl, h1⟩ := VsRel.x1 hv
  obtain ⟨a, o, rfl, e1, e2, r⟩ := R.ref h1 hl
  obtain ⟨vs, k, rfl, hvs⟩ := r
  refine call_list_seq a (.inl rfl) e2 rfl rfl (fun h' c' hk e' => ?_) (by simp [hvs.length, hz])
  exact c _ (.ref σ.length) h' s.toks (as ++ [s.heap.objs.size]) _ (Ext.snoc ..) (R.vnew _) (R.alloc (ao := .list xs) (get?_size_none _) hk e' ⟨vs, c', rfl, hvs.ext (Ext.snoc ..)⟩ rfl) h
theorem tcall_range1 {b : Int} (h : Q (.ref σ.length) (σ ++ [.range 0 b 1])) : TCall W n (.stat (.type "range")) [.int b] Q σ := by
  intro A P as s fv vals hr hi hf hv R Qc E c
  cases hf
  obtain ⟨v, rfl, ⟨t, e⟩⟩ := VsRel.x1 hv
  subst e
  exact call_range_1 (c _ (.ref σ.length) _ _ (as ++ [s.heap.objs.size]) _ (Ext.snoc ..) (R.vnew _) (R.push (ao := .range 0 b 1) rfl rfl ⟨_, _, _, rfl⟩) h)
theorem tcall_range2 {a b : Int} (h : Q (.ref σ.length) (σ ++ [.range a b 1])) : TCall W n (.stat (.type "range")) [.int a, .int b] Q σ := by
  intro A P as s fv vals hr hi hf hv R Qc E c
  cases hf
  obtain ⟨v, w, rfl, ⟨t, e⟩, ⟨u, e'⟩⟩ := VsRel.x2 hv
  subst e e'
  exact call_range_2 (c _ (.ref σ.length) _ _ (as ++ [s.heap.objs.size]) _ (Ext.snoc ..) (R.vnew _) (R.push (ao := .range a b 1) rfl rfl ⟨_, _, _, rfl⟩) h)
end
end Mine
end
section
namespace Mine
open PySem

def relabelS (scope sc : Scope) : Scope := { scope with names := scope.names.map fun (p : Str × NameKind) => if (p.2 == .free && sc.names.lookup p.1 == some .cell) then (p.1, NameKind.cell) else (p.1, p.2) }
theorem relabel_eq {env : Env} {sc : Scope} (he : EnvIs env sc) (scope : Scope) : relabel scope env = relabelS scope sc := by
  unfold relabel relabelS Env.kindOf
  rw [he.sc, he.kind]
  congr 1
  apply List.map_congr_left
  intro p _
  obtain ⟨x, k⟩ := p
  have : ((ScopeKind.function : ScopeKind) == .function) = true := rfl
  simp only [this, Bool.and_true]
theorem lookup_map_key {f : Str → NameKind → NameKind} (y : Str) : ∀ l : List (Str × NameKind), (l.map fun p => (p.1, f p.1 p.2)).lookup y = (l.lookup y).map (f y)
  | [] => rfl
  | (x, k) :: r => by
    simp only [List.map_cons, List.lookup_cons]
    cases q : y == x with
    | true => have := beq_iff_eq.mp q; subst this; simp
    | false => simp [lookup_map_key y r]
theorem lookup_relabelS (scope sc : Scope) (y : Str) : (relabelS scope sc).names.lookup y = (scope.names.lookup y).map fun k => if (k == .free && sc.names.lookup y == some .cell) then NameKind.cell else k := by
  unfold relabelS
  have : (scope.names.map fun (p : Str × NameKind) => if (p.2 == .free && sc.names.lookup p.1 == some .cell) then (p.1, NameKind.cell) else (p.1, p.2)) = scope.names.map fun p => (p.1, if (p.2 == .free && sc.names.lookup p.1 == some .cell) then NameKind.cell else p.2) := by
    apply List.map_congr_left; intro p _; split <;> rfl
  show (scope.names.map _).lookup y = _
  rw [this]
  exact lookup_map_key (f := fun x k => if (k == .free && sc.names.lookup x == some .cell) then NameKind.cell else k) y scope.names
def mC (scope : Scope) (x : Str) (v : AV) (m : Locs) : Locs := (x, v) :: m.filter fun p => scope.names.lookup p.1 == some .free
theorem lookup_filter_key (f : Str → Bool) (y : Str) : ∀ m : Locs, (m.filter fun p => f p.1).lookup y = if f y then m.lookup y else none
  | [] => by simp
  | (x, v) :: r => by
    simp only [List.filter_cons, List.lookup_cons]
    cases q : y == x with
    | true =>
      have := beq_iff_eq.mp q
      subst this
      cases hf : f y with
      | true => simp
      | false => simp [lookup_filter_key f y r, hf]
    | false =>
      cases hf : f x with
      | true => simp [List.lookup_cons, q, lookup_filter_key f y r]
      | false => simp [lookup_filter_key f y r]

def compOk (sc scope : Scope) (x : Str) (m : Locs) : Bool :=
  scope.kind == .function && scope.names.lookup x == some .local && scope.names.all fun p => match p.2 with
    | .local => scope.names.lookup p.1 == some .local
    | .free => (m.lookup p.1).isSome && (sc.names.lookup p.1 == some .cell || sc.names.lookup p.1 == some .free)
    | .cell => false
    | _ => true

def closL (env : Env) : List (Str × NameKind) → List (Str × Addr) → List (Str × Addr)
  | [], acc => acc
  | (x, k) :: r, acc => if k == .free then closL env r ((x, (env.cells.lookup x).getD 0) :: acc) else closL env r acc
theorem closL_eq {env : Env} (f : Str × NameKind → List (Str × Addr) → Sem (ForInStep (List (Str × Addr)))) (hf : ∀ x k acc, f (x, k) acc = if k == .free then (do let c ← cellOf env x; pure (.yield ((x, c) :: acc))) else pure (.yield acc)) :
    ∀ (l : List (Str × NameKind)) (acc : List (Str × Addr)), (∀ p ∈ l, p.2 = .free → (env.cells.lookup p.1).isSome = true) → forIn l acc f = pure (closL env l acc)
  | [], _, _ => rfl
  | (x, k) :: r, acc, h => by
    rw [List.forIn_cons, hf]
    unfold closL
    cases q : k == NameKind.free with
    | true =>
      simp only [if_true]
      obtain ⟨c, hc⟩ := Option.isSome_iff_exists.mp (h (x, k) (.head _) (beq_iff_eq.mp q))
      have : cellOf env x = pure c := by unfold cellOf; rw [hc]
      rw [this, hc]
      show forIn r ((x, c) :: acc) f = _
      exact closL_eq f hf r _ fun p hp => h p (.tail _ hp)
    | false =>
      simp only [Bool.false_eq_true, if_false]
      show forIn r acc f = _
      exact closL_eq f hf r _ fun p hp => h p (.tail _ hp)
theorem closure_eq {env : Env} {scope : Scope} (h : ∀ p ∈ scope.names, p.2 = .free → (env.cells.lookup p.1).isSome = true) : closureFor scope env = pure (closL env scope.names []) := by
  unfold closureFor
  have := closL_eq (env := env) (fun p acc => if p.2 == .free then (do let c ← cellOf env p.1; pure (.yield ((p.1, c) :: acc))) else pure (.yield acc)) (fun _ _ _ => rfl) scope.names [] h
  show (forIn scope.names [] _ >>= fun cs => pure cs) = _
  have e : (forIn scope.names ([] : List (Str × Addr)) fun (p : Str × NameKind) (cs : List (Str × Addr)) => (do
      if p.2 == .free then do let c ← cellOf env p.1; pure (ForInStep.yield ((p.1, c) :: cs)) else pure (ForInStep.yield cs) : Sem (ForInStep (List (Str × Addr))))) = pure (closL env scope.names []) := this
  rw [show (forIn scope.names ([] : List (Str × Addr)) _ : Sem (List (Str × Addr))) = pure (closL env scope.names []) from e]
  rfl
theorem closL_lookup {env : Env} (y : Str) : ∀ (l : List (Str × NameKind)) (acc : List (Str × Addr)), (∀ c, acc.lookup y = some c → env.cells.lookup y = some c) → (acc.lookup y).isSome = true ∨ (y, NameKind.free) ∈ l → (env.cells.lookup y).isSome = true → (closL env l acc).lookup y = env.cells.lookup y
  | [], acc, h, h2, h3 => by
    rcases h2 with h2 | h2
    · obtain ⟨c, hc⟩ := Option.isSome_iff_exists.mp h2
      show acc.lookup y = _
      rw [hc, h c hc]
    · cases h2
  | (x, k) :: r, acc, h, h2, h3 => by
    unfold closL
    have step : ∀ acc', (∀ c, acc'.lookup y = some c → env.cells.lookup y = some c) → (acc'.lookup y).isSome = true ∨ (y, NameKind.free) ∈ r → (closL env r acc').lookup y = env.cells.lookup y := fun acc' a b => closL_lookup y r acc' a b h3
    cases q : k == NameKind.free with
    | true =>
      simp only [if_true]
      by_cases e : y = x
      · subst e
        obtain ⟨c, hc⟩ := Option.isSome_iff_exists.mp h3
        exact step _ (fun c' h' => by simp [List.lookup_cons, hc] at h'; rw [hc, h']) (.inl (by simp [List.lookup_cons]))
      · have hb : (y == x) = false := by simpa using e
        refine step _ (fun c' h' => h c' (by simpa [List.lookup_cons, hb] using h')) ?_
        rcases h2 with h2 | h2
        · exact .inl (by simpa [List.lookup_cons, hb] using h2)
        · rcases List.mem_cons.mp h2 with z | z
          · cases z; exact absurd rfl e
          · exact .inr z
    | false =>
      simp only [Bool.false_eq_true, if_false]
      refine step _ h ?_
      rcases h2 with h2 | h2
      · exact .inl h2
      · rcases List.mem_cons.mp h2 with z | z
        · cases z; exact absurd q (by decide)
        · exact .inr z
theorem mem_of_lookupK : ∀ {l : List (Str × NameKind)} {y : Str} {k : NameKind}, l.lookup y = some k → (y, k) ∈ l
  | (x, k') :: r, y, k, h => by
    rw [List.lookup_cons] at h
    cases q : y == x with
    | true => rw [q] at h; cases h; rw [beq_iff_eq.mp q]; exact .head _
    | false => rw [q] at h; exact .tail _ (mem_of_lookupK h)

section
variable {W : Wd} {n : Nat} {sc : Scope} {m : Locs} {σ : AH} {pos : Pos}
def TIfs (W : Wd) (n : Nat) (sc : Scope) (m : Locs) (ifs : List Expr) (QB : Bool → AH → Prop) (σ : AH) : Prop := match ifs with
  | [] => QB true σ
  | c :: cs => TT W n sc m c (fun b σ₁ => if b then TIfs W n sc m cs QB σ₁ else QB false σ₁) σ
theorem ifs_false {A : Around} {env : Env} {s : Shared} {Qc : Bool → Shared → Prop} {E : Value → Shared → Prop} (h : Qc false s) : ∀ ifs : List Expr,
    wpAny (model W.prog W.w) A (forIn ifs false fun c r => if r = true then do let ok ← isTrue c env (eval c env); pure (ForInStep.yield ok) else pure (ForInStep.yield r)) Qc E s
  | [] => wpAny_pure h
  | c :: cs => by
    rw [List.forIn_cons]
    simp only [Bool.false_eq_true, if_false]
    exact wpAny_bind (wpAny_pure (ifs_false h cs))
theorem ifs_run {A : Around} {env : Env} {P : Pr} : ∀ (ifs : List Expr) {QB : Bool → AH → Prop} {σ : AH} {as : List Addr} {s : Shared} {Qc : Bool → Shared → Prop} {E : Value → Shared → Prop}, TIfs W n sc m ifs QB σ →
    Room n A → EnvIs env sc → W.In P → Loc P env m as → Rep W P as σ s.heap →
    (∀ b h' tk' as' σ', Ext as as' → Rep W P as' σ' h' → QB b σ' → Qc b { s with heap := h', toks := tk' }) →
    wpAny (model W.prog W.w) A (forIn ifs true fun c r => if r = true then do let ok ← isTrue c env (eval c env); pure (ForInStep.yield ok) else pure (ForInStep.yield r)) Qc E s
  | [], QB, σ, as, s, Qc, E, h, hr, he, hi, hl, R, c => wpAny_pure (c true s.heap s.toks as σ (Ext.refl _) R h)
  | e :: es, QB, σ, as, s, Qc, E, h, hr, he, hi, hl, R, c => by
    rw [List.forIn_cons]
    simp only [if_true]
    refine wpAny_bind (wpAny_bind (h A env P as s hr he hi hl R _ E fun b h₁ tk₁ as₁ σ₁ x₁ R₁ q₁ => wpAny_pure ?_))
    cases b with
    | true => exact ifs_run es q₁ hr he hi (hl.ext x₁) R₁ fun b h₂ tk₂ as₂ σ₂ x₂ R₂ q₂ => c b h₂ tk₂ as₂ σ₂ (x₁.trans x₂) R₂ q₂
    | false => exact ifs_false (c false h₁ tk₁ as₁ σ₁ x₁ R₁ q₁) es

theorem Rep.move3 {P : Pr} {as : List Addr} {h h' : Heap} {C D I : Addr} {oC oD oI oC' oD' oI' : Obj} (R : Rep W (((P.add C oC).add D oD).add I oI) as σ h) (bC : C ∉ as) (bD : D ∉ as) (bI : I ∉ as) (hP : ∀ b y, P b y → h'.get? b = some y) (gC : h'.get? C = some oC') (gD : h'.get? D = some oD') (gI : h'.get? I = some oI') (ha : ∀ b ∈ as, ∀ y, h.get? b = some y → h'.get? b = some y) : Rep W (((P.add C oC').add D oD').add I oI') as σ h' := by
  refine R.move (fun b y q => ?_) (fun b y hb q => ?_) ha
  · rcases q with ((q | ⟨rfl, rfl⟩) | ⟨rfl, rfl⟩) | ⟨rfl, rfl⟩
    · exact hP b y q
    · exact gC
    · exact gD
    · exact gI
  · rcases q with ((q | ⟨rfl, rfl⟩) | ⟨rfl, rfl⟩) | ⟨rfl, rfl⟩
    · exact .inl (.inl (.inl q))
    · exact absurd hb bC
    · exact absurd hb bD
    · exact absurd hb bI
theorem Rep.into3 {P : Pr} {as : List Addr} {h : Heap} {C D I : Addr} {oC oD oI : Obj} (R : Rep W P as σ h) (bC : C ∉ as) (bD : D ∉ as) (bI : I ∉ as) (gC : h.get? C = some oC) (gD : h.get? D = some oD) (gI : h.get? I = some oI) : Rep W (((P.add C oC).add D oD).add I oI) as σ h := by
  refine R.move (fun b y q => ?_) (fun b y hb q => ?_) fun b hb y e => e
  · rcases q with ((q | ⟨rfl, rfl⟩) | ⟨rfl, rfl⟩) | ⟨rfl, rfl⟩
    · exact R.keep _ _ q
    · exact gC
    · exact gD
    · exact gI
  · rcases q with ((q | ⟨rfl, rfl⟩) | ⟨rfl, rfl⟩) | ⟨rfl, rfl⟩
    · exact q
    · exact absurd hb bC
    · exact absurd hb bD
    · exact absurd hb bI
theorem Rep.done3 {P : Pr} {as : List Addr} {h h' : Heap} {C D I : Addr} {oC oI : Obj} {vs : List Value} {c : Nat} {acc : List AV} (R : Rep W (((P.add C oC).add D { cls := .type "list", data := .seq (List.toArray vs) c }).add I oI) as σ h) (xb : ∀ b o, b ≠ I → h.get? b = some o → h'.get? b = some o) (bD : D ∉ as) (bI : I ∉ as) (pI : ∀ o, ¬ P I o) (pD : ∀ o, ¬ P D o) (dID : I ≠ D) (va : VsRel as vs acc) : Rep W P (as ++ [D]) (σ ++ [.list acc]) h' := by
  have gD₂ : h'.get? D = some { cls := .type "list", data := .seq (List.toArray vs) c } := xb _ _ (Ne.symm dID) (R.keep _ _ (.inl (.inr ⟨rfl, rfl⟩)))
  refine ⟨by simp [R.len], ?_, fun b y q => xb b y (fun z => pI y (z ▸ q)) (R.keep _ _ (.inl (.inl (.inl q)))), fun j b bo e1 e2 => ?_⟩
  · rw [List.nodup_append]
    exact ⟨R.nd, by simp, fun y hy z hz e => by simp at hz; exact bD (hz ▸ e ▸ hy)⟩
  · rcases Nat.lt_trichotomy j as.length with q | q | q
    · rw [List.getElem?_append_left q] at e1
      rw [List.getElem?_append_left (R.len ▸ q)] at e2
      obtain ⟨y, y1, y2, y3, y4⟩ := R.obj j b bo e1 e2
      have hb := List.mem_of_getElem? e1
      exact ⟨y, xb b y (fun z => bI (z ▸ hb)) y1, y2.ext (Ext.snoc ..), fun hm o' q => y3 hm o' (.inl (.inl (.inl q))), y4⟩
    · subst q
      have h1' : b = D := by simpa using e1.symm
      have h2' : bo = .list acc := by rw [R.len] at e2; simpa using e2.symm
      subst h1' h2'
      exact ⟨_, gD₂, ⟨vs, c, rfl, va.ext (Ext.snoc ..)⟩, fun _ => pD, fun q => by cases q⟩
    · rw [List.getElem?_eq_none (by rw [List.length_append, List.length_singleton]; (first|lia|omega))] at e1; cases e1
theorem comp_loop {elt iter : Expr} {x : Str} {px : Pos} {ifs : List Expr} {scope csc : Scope} {cpos : Pos} {A : Around} {cenv : Env} {P : Pr} {as : List Addr} {s : Shared} {I D : Addr} {St : Nat → Obj → Prop} {len : Nat} {It : Nat → AV} {J : Nat → List AV → AH → Prop}
    {oI oC : Obj} {mm : Str → Option Value} {mo : AV → Locs} {R : Result → Shared → Prop} (hlen : len ≤ sizeLine)
    (T : Turns W A as I St len It fun i σ => ∃ acc, J i acc σ) (hr : Room n A) (he : EnvIs cenv csc) (hi : W.In P) (hx : csc.names.lookup x = some .local)
    (hlc : ∀ v av oC' mm' as' P', VRel as' v av → NsObj oC' mm' → mm' x = some v → P' cenv.locals oC' → (∀ a o, P a o → P' a o) → Ext as as' → Loc P' cenv (mo av) as')
    (R0 : Rep W P as σ s.heap) (gI : s.heap.get? I = some oI) (gC : s.heap.get? cenv.locals = some oC) (nsC : NsObj oC mm) (gD : s.heap.PlainList D #[]) (st0 : St 0 oI)
    (nI : W.H.get? I = none) (nC : W.H.get? cenv.locals = none) (nD : W.H.get? D = none) (aI : I ∉ as) (aC : cenv.locals ∉ as) (aD : D ∉ as) (pI : ∀ o, ¬ P I o) (pC : ∀ o, ¬ P cenv.locals o) (pD : ∀ o, ¬ P D o) (dIC : I ≠ cenv.locals) (dID : I ≠ D) (dCD : cenv.locals ≠ D)
    (j0 : J 0 [] σ)
    (turn : ∀ i acc σ', i < len → J i acc σ' → TIfs W n csc (mo (It i)) ifs (fun b σ₁ => if b then TE W n csc (mo (It i)) elt (fun v σ₂ => J (i + 1) (acc ++ [v]) σ₂) σ₁ else J (i + 1) acc σ₁) σ')
    (fin : ∀ h' tk' as' σ' acc oC' mm', Ext as as' → NsObj oC' mm' → h'.get? cenv.locals = some oC' → D ∉ as' → Rep W P (as' ++ [D]) (σ' ++ [.list acc]) h' → cenv.locals ∉ as' ++ [D] → J len acc σ' → R (.ok .next) { s with heap := h', toks := tk' }) :
    codeAny (model W.prog W.w) A (.compLoop (.ListComp elt [⟨.Name x px, iter, ifs, 0⟩] scope cpos) 0 (.ref I) (.ref D) cenv) R s := by
  let C := cenv.locals
  refine codeAny_compLoop_tests (fun k s' => ∃ i h' tk' as' σ' acc oI' oC' oD' mm' vs c', i ≤ len ∧ acc.length ≤ i ∧ k = len + 1 - i ∧ s' = { s with heap := h', toks := tk' } ∧ Ext as as' ∧ NsObj oC' mm' ∧ oD' = ({ cls := .type "list", data := .seq (List.toArray vs) c' } : Obj) ∧ VsRel as' vs acc ∧
      Rep W (((P.add C oC').add D oD').add I oI') as' σ' h' ∧ J i acc σ' ∧ St i oI') ?_ (len + 1) ?_
  · rintro k s' ⟨i, h₁, tk₁, as₁, σ₁, acc, oI₁, oC₁, oD₁, mm₁, vs, c₁, hle, hal, rfl, rfl, x₁, ns₁, rfl, va₁, R₁, j₁, st₁⟩
    have bI₁ : I ∉ as₁ := R₁.off (.inr ⟨rfl, rfl⟩) nI
    have bC₁ : C ∉ as₁ := R₁.off (.inl (.inl (.inr ⟨rfl, rfl⟩))) nC
    have bD₁ : D ∉ as₁ := R₁.off (.inl (.inr ⟨rfl, rfl⟩)) nD
    have hi₁ : W.In (((P.add C oC₁).add D { cls := .type "list", data := .seq (List.toArray vs) c₁ }).add I oI₁) := hi.add.add.add
    by_cases hlt : i < len
    · refine T.item i _ as₁ σ₁ _ oI₁ _ _ hlt hi₁ x₁ R₁ ⟨acc, j₁⟩ (.inr ⟨rfl, rfl⟩) st₁ fun v h₂ tk₂ o₂ hv st₂ sb₂ e₂ => ?_
      have hk₂ : ∀ b o, b ≠ I → h₁.get? b = some o → h₂.get? b = some o := fun b o hb e => (sb₂.2 b hb).trans e
      have gC₂ : h₂.get? C = some oC₁ := hk₂ _ _ (Ne.symm dIC) (R₁.keep _ _ (.inl (.inl (.inr ⟨rfl, rfl⟩))))
      refine wpAny_assign_Name (wpAny_storeName_local (show cenv.scope.names.lookup x = some .local by rw [he.sc]; exact hx) (ns₁.ns gC₂) (fun h₃ ns₃ sb₃ => ?_) (by rw [he.sc, he.kind]; rfl))
      obtain ⟨oC₃, gC₃, nsC₃⟩ := NsObj.of ns₃
      have hk₃ : ∀ b o, b ≠ I → b ≠ C → h₁.get? b = some o → h₃.get? b = some o := fun b o h1 h2 e => (sb₃.2 b h2).trans (hk₂ b o h1 e)
      let P₃ : Pr := ((P.add C oC₃).add D { cls := .type "list", data := .seq (List.toArray vs) c₁ }).add I o₂
      have R₃ : Rep W P₃ as₁ σ₁ h₃ := R₁.move3 bC₁ bD₁ bI₁ (fun b y q => hk₃ b y (fun z => pI y (z ▸ q)) (fun z => pC y ((show b = cenv.locals from z) ▸ q)) (R₁.keep _ _ (.inl (.inl (.inl q))))) gC₃ (hk₃ _ _ (Ne.symm dID) (Ne.symm dCD) (R₁.keep _ _ (.inl (.inr ⟨rfl, rfl⟩)))) ((sb₃.2 _ dIC).trans e₂) fun b hb y e => hk₃ b y (fun z => bI₁ (z ▸ hb)) (fun z => bC₁ (z ▸ hb)) e
      have hi₃ : W.In P₃ := hi.add.add.add
      have loc₃ : Loc P₃ cenv (mo (It i)) as₁ := hlc v (It i) oC₃ _ as₁ P₃ hv nsC₃ (by simp) (.inl (.inl (.inr ⟨rfl, rfl⟩))) (fun a o q => .inl (.inl (.inl q))) x₁
      refine ifs_run ifs (turn i acc σ₁ hlt j₁) hr he hi₃ loc₃ R₃ fun ok h₄ tk₄ as₄ σ₄ x₄ R₄ q₄ => ?_
      cases ok with
      | false =>
        simp only [Bool.false_eq_true, if_false] at q₄ ⊢
        exact ⟨len + 1 - (i + 1), by (first|lia|omega), i + 1, h₄, tk₄, as₄, σ₄, acc, o₂, oC₃, _, _, vs, c₁, hlt, by (first|lia|omega), rfl, rfl, x₁.trans x₄, nsC₃, rfl, va₁.ext x₄, R₄, q₄, st₂⟩
      | true =>
        simp only [if_true] at q₄ ⊢
        refine q₄ A cenv P₃ as₄ _ hr he hi₃ (loc₃.ext x₄) R₄ _ _ fun u au h₅ tk₅ as₅ σ₅ x₅ r₅ R₅ q₅ => ?_
        have gD₅ : h₅.PlainList D (List.toArray vs) := ⟨c₁, R₅.keep _ _ (.inl (.inr ⟨rfl, rfl⟩))⟩
        refine wpAny_list_append_plain (s := { s with heap := h₅, toks := tk₅ }) gD₅ (fun h₆ hl₆ sb₆ => ?_) (by have := va₁.length; simp only [List.size_toArray]; (first|lia|omega))
        obtain ⟨c₆, e₆⟩ := hl₆
        have e₆' : h₆.get? D = some { cls := .type "list", data := .seq (List.toArray (vs ++ [u])) c₆ } := by rw [e₆]; simp
        have bI₅ : I ∉ as₅ := R₅.off (.inr ⟨rfl, rfl⟩) nI
        have bC₅ : C ∉ as₅ := R₅.off (.inl (.inl (.inr ⟨rfl, rfl⟩))) nC
        have bD₅ : D ∉ as₅ := R₅.off (.inl (.inr ⟨rfl, rfl⟩)) nD
        refine ⟨len + 1 - (i + 1), by (first|lia|omega), i + 1, h₆, tk₅, as₅, σ₅, acc ++ [au], o₂, oC₃, _, _, vs ++ [u], c₆, hlt, by simp; (first|lia|omega), rfl, rfl, (x₁.trans x₄).trans x₅, nsC₃, rfl, (va₁.ext (x₄.trans x₅)).append ⟨r₅, trivial⟩, ?_, q₅, st₂⟩
        exact R₅.move3 bC₅ bD₅ bI₅ (fun b y q => (sb₆.2 b fun z => pD y (z ▸ q)).trans (R₅.keep _ _ (.inl (.inl (.inl q))))) ((sb₆.2 _ dCD).trans (R₅.keep _ _ (.inl (.inl (.inr ⟨rfl, rfl⟩))))) e₆' ((sb₆.2 _ dID).trans (R₅.keep _ _ (.inr ⟨rfl, rfl⟩))) fun b hb y e => (sb₆.2 b fun z => bD₅ (z ▸ hb)).trans e
    · have hi' : i = len := by (first|lia|omega)
      subst hi'
      refine T.done _ as₁ σ₁ _ oI₁ _ _ hi₁ x₁ R₁ ⟨acc, j₁⟩ (.inr ⟨rfl, rfl⟩) st₁ fun h₂ tk₂ xb => ?_
      have gC₂ : h₂.get? C = some oC₁ := xb _ _ (Ne.symm dIC) (R₁.keep _ _ (.inl (.inl (.inr ⟨rfl, rfl⟩))))
      refine fin h₂ tk₂ as₁ σ₁ acc oC₁ mm₁ x₁ ns₁ gC₂ bD₁ ?_ (by simp only [List.mem_append, List.mem_singleton, not_or]; exact ⟨bC₁, dCD⟩) j₁
      exact R₁.done3 xb bD₁ bI₁ pI pD dID va₁
  · obtain ⟨c₀, gD'⟩ := gD
    refine ⟨0, s.heap, s.toks, as, σ, [], oI, oC, _, mm, [], c₀, Nat.zero_le _, Nat.le_refl _, rfl, rfl, Ext.refl _, nsC, rfl, trivial, ?_, j0, st0⟩
    exact R0.into3 aC aD aI gC gD' gI
end
end Mine
end
section
namespace Mine
open PySem

section
variable {W : Wd} {n : Nat} {sc : Scope} {m : Locs} {σ : AH} {pos : Pos}
def SrcOf (v : AV) (σ : AH) (len : Nat) (It : Nat → AV) (J : Nat → List AV → AH → Prop) : Prop :=
  (∃ l xs, v = .ref l ∧ len = xs.length ∧ (∀ i, i < len → It i = (xs[i]?).getD .none) ∧ σ[l]? = some (.list xs) ∧ ∀ i acc σ', i ≤ len → J i acc σ' → σ'[l]? = some (.list xs)) ∨
  (∃ r a b c, v = .ref r ∧ σ[r]? = some (.range a b c) ∧ Builtin.Range.rangeSize a b c = (len : Int) ∧ ∀ i, i < len → It i = .int (a + i * c))
def CompT (W : Wd) (n : Nat) (sc : Scope) (m : Locs) (scope : Scope) (x : Str) (ifs : List Expr) (elt : Expr) (Q : AV → AH → Prop) (v : AV) (σ : AH) : Prop :=
  ∃ len It J, SrcOf v σ len It J ∧ len ≤ sizeLine ∧ J 0 [] σ ∧
    (∀ i acc σ', i < len → J i acc σ' → TIfs W n (relabelS scope sc) (mC scope x (It i) m) ifs (fun b σ₁ => if b then TE W n (relabelS scope sc) (mC scope x (It i) m) elt (fun v σ₂ => J (i + 1) (acc ++ [v]) σ₂) σ₁ else J (i + 1) acc σ₁) σ') ∧
    ∀ acc σ', J len acc σ' → Q (.ref σ'.length) (σ' ++ [.list acc])

theorem Turns.congr {A : Around} {as : List Addr} {I : Addr} {St : Nat → Obj → Prop} {len : Nat} {It It' : Nat → AV} {J : Nat → AH → Prop} (T : Turns W A as I St len It J) (h : ∀ i, i < len → It' i = It i) : Turns W A as I St len It' J where
  item := fun i P as σ s o Qc E hlt hi x R j pI st c => T.item i P as σ s o Qc E hlt hi x R j pI st fun v h' tk' o' hv => c v h' tk' o' (by rw [h i hlt]; exact hv)
  done := T.done
  self := T.self
  owned := T.owned

theorem comp_loc {env : Env} {P P' : Pr} {as as' : List Addr} {C : Addr} {oC' : Obj} {mm' : Str → Option Value} {scope : Scope} {L : Locs} (he : EnvIs env sc) (hl : Loc P env m as)
    (hfree : ∀ p ∈ scope.names, p.2 = .free → (m.lookup p.1).isSome = true ∧ (sc.names.lookup p.1 = some .cell ∨ sc.names.lookup p.1 = some .free))
    (x' : Ext as as') (hPP : ∀ a o, P a o → P' a o) (ns' : NsObj oC' mm') (hPC : P' C oC')
    (hL : ∀ z av, L.lookup z = some av → scope.names.lookup z = some .local ∧ ∃ v, VRel as' v av ∧ mm' z = some v) :
    Loc P' { (newEnv scope C env.globals (closL env scope.names []) env.qual none .none (some env) builtinsNs) with scope := relabel scope env } (L ++ m.filter fun p => scope.names.lookup p.1 == some .free) as' := by
  refine ⟨⟨oC', mm', hPC, ns', fun y avy q1 q2 => ?_⟩, fun y avy q1 q2 => ?_⟩
  · have q2' : (relabel scope env).names.lookup y = some .local := q2
    rw [relabel_eq he, lookup_relabelS] at q2'
    rw [List.lookup_append] at q1
    cases e : L.lookup y with
    | some av =>
      rw [e] at q1
      cases q1
      exact (hL y _ e).2
    | none =>
      rw [e, Option.none_or, lookup_filter_key (fun z => scope.names.lookup z == some .free) y m] at q1
      split at q1
      · rename_i hf
        rw [beq_iff_eq.mp hf] at q2'
        simp at q2'
        split at q2' <;> cases q2'
      · cases q1
  · have q2' : (relabel scope env).names.lookup y = some .cell ∨ (relabel scope env).names.lookup y = some .free := q2
    rw [relabel_eq he, lookup_relabelS] at q2'
    rw [List.lookup_append] at q1
    cases e : L.lookup y with
    | some av =>
      rw [(hL y _ e).1] at q2'; simp at q2'
    | none =>
      rw [e, Option.none_or, lookup_filter_key (fun z => scope.names.lookup z == some .free) y m] at q1
      split at q1
      · rename_i hf
        have hmem := mem_of_lookupK (beq_iff_eq.mp hf)
        obtain ⟨f1, f2⟩ := hfree _ hmem rfl
        obtain ⟨u, c, o, h1, h2, h3, h4⟩ := hl.cel y avy q1 (by rw [he.sc]; exact f2)
        refine ⟨u, c, o, h1.ext x', ?_, hPP _ _ h3, h4⟩
        show (closL env scope.names []).lookup y = some c
        rw [closL_lookup y scope.names [] (fun c h => by simp at h) (.inr hmem) (by rw [h2]; rfl), h2]
      · cases q1
theorem comp_main {elt iter : Expr} {x : Str} {px : Pos} {ifs : List Expr} {scope : Scope} {cpos cp : Pos} {A : Around} {env : Env} {P : Pr} {as : List Addr} {s : Shared} {use : Option (Value → Sem Unit)} {Q : AV → AH → Prop} {Qc : Value → Shared → Prop} {E : Value → Shared → Prop}
    (hok : compOk sc scope x m = true) (hns : notSet iter = true) (h : TE W n sc m iter (CompT W n sc m scope x ifs elt Q) σ)
    (hr : Room n A) (he : EnvIs env sc) (hi : W.In P) (hl : Loc P env m as) (R : Rep W P as σ s.heap)
    (fin : ∀ (C D : Addr) h' tk' as' σ' oC mm, Ext as as' → NsObj oC mm → h'.get? C = some oC → Rep W P as' σ' h' → VRel as' (.ref D) (.ref (σ'.length - 1)) → C ∉ as' → (∀ o, ¬ P C o) → W.H.get? C = none → Q (.ref (σ'.length - 1)) σ' → compPost (model W.prog W.w) A E use Qc (.ref D) C (.ok .next) { s with heap := h', toks := tk' }) :
    wpAny (model W.prog W.w) A (comprehension (.ListComp elt [⟨.Name x px, iter, ifs, 0⟩] scope cpos) scope env cp (newList []) false (eval iter env) use) Qc E s := by
  unfold compOk at hok
  rw [Bool.and_eq_true, Bool.and_eq_true] at hok
  obtain ⟨⟨hk, hx⟩, hn⟩ := hok
  have hkind : scope.kind = .function := beq_iff_eq.mp hk
  have hx : scope.names.lookup x = some .local := beq_iff_eq.mp hx
  have hall := List.all_eq_true.mp hn
  have hfree : ∀ p ∈ scope.names, p.2 = .free → (m.lookup p.1).isSome = true ∧ (sc.names.lookup p.1 = some .cell ∨ sc.names.lookup p.1 = some .free) := fun p hp e => by
    have := hall p hp
    rw [e] at this
    simpa using this
  have hcells : ∀ p ∈ scope.names, p.2 = .free → (env.cells.lookup p.1).isSome = true := fun p hp e => by
    obtain ⟨h1, h2⟩ := hfree p hp e
    obtain ⟨av, hav⟩ := Option.isSome_iff_exists.mp h1
    obtain ⟨v, c, o, _, hc, _⟩ := hl.cel p.1 av hav (by rw [he.sc]; exact h2)
    rw [hc]; rfl
  refine wpAny_comprehension_free (g := ⟨.Name x px, iter, ifs, 0⟩) rfl (fun y => folded_not hns env y) (closure_eq hcells) hkind (fun p hp e => by have := hall p hp; rw [e] at this; simpa using this) ?_
  refine h A env P as s hr he hi hl R _ E fun xv axv h₁ tk₁ as₁ σ₁ x₁ r₁ R₁ q₁ => ?_
  obtain ⟨len, It, J, src, hlen, j0, turn, fn⟩ := q₁
  -- the part behind the iterator
  have behind : ∀ (oI : Obj) (St : Nat → Obj → Prop), oI.isFreed = false → Turns W A as₁ h₁.objs.size St len It (fun i σ => ∃ acc, J i acc σ) → St 0 oI →
      wpAny (model W.prog W.w) A (newList []) (fun acc s₃ => wpAny (model W.prog W.w) A (newFunctionEnv scope env.globals (closL env scope.names []) [] env.qual none .none (some env)) (fun cenv s₄ =>
        codeAny (model W.prog W.w) A (.compStart (.ListComp elt [⟨.Name x px, iter, ifs, 0⟩] scope cpos) 0 (.ref h₁.objs.size) acc { cenv with scope := relabel scope env }) (compPost (model W.prog W.w) A E use Qc acc cenv.locals) s₄) E s₃) E { s with heap := h₁.push oI, toks := tk₁ } := by
    intro oI St hfI T st0
    refine wpAny_newObj_type (wpAny_newFunctionEnv (fun y hy => ?_) (fun y hy => by simp at hy) (fun h₂ hns₂ hsb₂ => ?_) hkind)
    · have := hall y hy
      intro e; rw [e] at this; simp at this
    dsimp only at hns₂ hsb₂ ⊢
    generalize hH : (h₁.push oI).push { cls := .type "list", dict := none, data := .seq ([] : List Value).toArray } = H2 at hns₂ hsb₂ ⊢
    have sI : (h₁.push oI).objs.size = h₁.objs.size + 1 := Heap.size_push ..
    have sC : H2.objs.size = h₁.objs.size + 2 := by rw [← hH, Heap.size_push, sI]
    have dIC : h₁.objs.size ≠ H2.objs.size := by rw [sC]; (first|lia|omega)
    have dID : h₁.objs.size ≠ (h₁.push oI).objs.size := by rw [sI]; (first|lia|omega)
    have dCD : H2.objs.size ≠ (h₁.push oI).objs.size := by rw [sC, sI]; (first|lia|omega)
    have old : ∀ b o, h₁.get? b = some o → h₂.get? b = some o := fun b o e => hsb₂.extBut b o (Nat.ne_of_lt (Nat.lt_of_lt_of_le (Heap.lt_size e) (by rw [sC]; exact Nat.le_add_right _ 2))) (Heap.get?_push_of_some _ (hH ▸ Heap.get?_push_of_some _ (Heap.get?_push_of_some _ e)))
    have gI : h₂.get? h₁.objs.size = some oI := hsb₂.extBut _ _ dIC (Heap.get?_push_of_some _ (hH ▸ Heap.get?_push_of_some _ (Heap.get?_push_size _ hfI)))
    have gD : h₂.PlainList (h₁.push oI).objs.size #[] := ⟨_, hsb₂.extBut _ _ (Ne.symm dCD) (Heap.get?_push_of_some _ (hH ▸ Heap.get?_push_size _ rfl))⟩
    obtain ⟨oC, gC, nsC⟩ := NsObj.of hns₂
    have fresh : ∀ a, h₁.objs.size ≤ a → h₁.get? a = none := fun a ha => by
      cases e : h₁.get? a with
      | none => rfl
      | some o' => exact absurd (Heap.lt_size e) (Nat.not_lt.mpr ha)
    have frI := fresh h₁.objs.size (Nat.le_refl _)
    have frD := fresh (h₁.push oI).objs.size (by rw [sI]; (first|lia|omega))
    have frC := fresh H2.objs.size (by rw [sC]; (first|lia|omega))
    have nP : ∀ a, h₁.get? a = none → ∀ o, ¬ P a o := fun a e o q => by have := R₁.keep _ _ q; rw [e] at this; cases this
    have hE : EnvIs { (newEnv scope H2.objs.size env.globals (closL env scope.names []) env.qual none .none (some env) builtinsNs) with scope := relabel scope env } (relabelS scope sc) := by
      refine ⟨hkind, by rw [relabel_eq he], he.gl, he.bl⟩
    have loop : ∀ s₄ : Shared, s₄ = { s with heap := h₂, toks := tk₁ + ([] : List (Str × Value)).length } → codeAny (model W.prog W.w) A (.compLoop (.ListComp elt [⟨.Name x px, iter, ifs, 0⟩] scope cpos) 0 (.ref h₁.objs.size) (.ref (h₁.push oI).objs.size) { (newEnv scope H2.objs.size env.globals (closL env scope.names []) env.qual none .none (some env) builtinsNs) with scope := relabel scope env })
        (compPost (model W.prog W.w) A E use Qc (.ref (h₁.push oI).objs.size) H2.objs.size) s₄ := by
      rintro s₄ rfl
      refine comp_loop (mo := fun v => mC scope x v m) (J := J) (P := P) (σ := σ₁) (as := as₁) (mm := fun z => ([] : List (Str × Value)).reverse.lookup z) hlen T hr hE hi ?_ ?_ (R₁.grow old) gI gC nsC gD st0 (hi.none R₁ frI) (hi.none R₁ frC) (hi.none R₁ frD) (R₁.fresh frI) (R₁.fresh frC) (R₁.fresh frD) (nP _ frI) (nP _ frC) (nP _ frD) dIC dID dCD j0 turn ?_
      · rw [lookup_relabelS, hx]; rfl
      · intro v av oC' mm' as' P' hv ns' hmx hPC hPP x'
        refine comp_loc (L := [(x, av)]) he hl hfree (x₁.trans x') hPP ns' hPC fun z avz hz => ?_
        rw [List.lookup_cons] at hz
        cases e : z == x with
        | true => rw [e] at hz; cases hz; rw [beq_iff_eq.mp e]; exact ⟨hx, v, hv, hmx⟩
        | false => rw [e] at hz; cases hz
      · intro h' tk' as' σ' acc oC' mm' x' ns' gC' hD' R' hC' j'
        refine fin H2.objs.size _ h' tk' (as' ++ [(h₁.push oI).objs.size]) (σ' ++ [.list acc]) oC' mm' ((x₁.trans x').trans (Ext.snoc ..)) ns' gC' R' ?_ hC' (nP _ frC) (hi.none R₁ frC) ?_
        · have hl' : as'.length = σ'.length := by have := R'.len; simpa using this
          exact ⟨_, by simp [← hl'], rfl⟩
        · simpa using fn acc σ' j'
    exact codeAny_compStart_list (loop _ rfl) (T.self 0 { s with heap := h₂, toks := tk₁ + ([] : List (Str × Value)).length } oI _ _ gI st0 (loop _ rfl))
  rcases src with ⟨l, xs, rfl, rfl, hIt, e0, hJ⟩ | ⟨l, a, b, k, rfl, e0, hsz, hIt⟩
  · obtain ⟨al, o, rfl, e1, e2, r⟩ := R₁.ref r₁ e0
    obtain ⟨vs, hL, hv⟩ := isList_of e2 r
    refine wpAny_pyIter_list (s := { s with heap := h₁, toks := tk₁ }) hL ?_
    exact behind _ _ rfl ((Turns.list hr.1 e1 fun i σ hle ⟨acc, j⟩ => hJ i acc σ hle j).congr hIt) ⟨rfl, rfl⟩
  · obtain ⟨al, o, rfl, e1, e2, r⟩ := R₁.ref r₁ e0
    obtain ⟨t, u, w, rfl⟩ := r
    cases hsm : Builtin.Range.small a b k with
    | true =>
      refine wpAny_pyIter_range (s := { s with heap := h₁, toks := tk₁ }) e2 hsm ?_
      exact behind _ _ rfl ((Turns.range (a := a) (c := k) (len := len) hr.1).congr hIt) (by simp [hsz])
    | false =>
      refine wpAny_pyIter_longrange (s := { s with heap := h₁, toks := tk₁ }) e2 hsm ?_
      exact behind _ _ rfl ((Turns.long (a := a) (c := k) (len := len) hr.1).congr hIt) (by simp [hsz])

theorem Rep.off1 {P : Pr} {as : List Addr} {h h' : Heap} {C : Addr} (R : Rep W P as σ h) (sb : Heap.SameBut C h h') (hC : C ∉ as) (pC : ∀ o, ¬ P C o) : Rep W P as σ h' :=
  R.move (fun b y q => (sb.2 b fun z => pC y (z ▸ q)).trans (R.keep _ _ q)) (fun _ _ _ q => q) fun b hb _ e => (sb.2 b fun z => hC (z ▸ hb)).trans e
theorem te_comp {elt iter : Expr} {x : Str} {px : Pos} {ifs : List Expr} {scope : Scope} {Q : AV → AH → Prop} (hok : compOk sc scope x m = true) (hns : notSet iter = true) (h : TE W n sc m iter (CompT W n sc m scope x ifs elt Q) σ) :
    TE W n sc m (.ListComp elt [⟨.Name x px, iter, ifs, 0⟩] scope pos) Q σ := by
  intro A env P as s hr he hi hl R Qc E c
  rw [eval_ListComp]
  refine comp_main (use := none) hok hns h hr he hi hl R fun C D h' tk' as' σ' oC mm x' ns' gC R' hv hC pC _ q => ?_
  exact ⟨mm, ns'.ns gC, fun h'' sb => c _ (.ref (σ'.length - 1)) h'' tk' as' σ' x' hv (R'.off1 sb hC pC) q⟩
def swapOk (sc scope : Scope) (y : Str) (py cpos spos : Pos) : Bool :=
  sc.names.lookup y == some .local && py.line == cpos.line && !(scope.names.any fun p => p.1 == y && (p.2 == .local || p.2 == .cell)) && (spos.line == spos.line)
theorem ts_assign_comp {elt iter : Expr} {x y : Str} {px py cpos : Pos} {ifs : List Expr} {scope : Scope} {Q : AF → Locs → AH → Prop} (hok : compOk sc scope x m = true) (hns : notSet iter = true) (hsw : swapOk sc scope y py cpos pos = true)
    (h : TE W n sc m iter (CompT W n sc m scope x ifs elt (fun v σ₁ => Q .next (setL y v m) σ₁)) σ) : TS W n sc (.Assign [.Name y py] (.ListComp elt [⟨.Name x px, iter, ifs, 0⟩] scope cpos) pos) Q m σ := by
  intro A env own P O as s hr he hi ow hl R Qc E c
  unfold swapOk at hsw
  rw [Bool.and_eq_true, Bool.and_eq_true, Bool.and_eq_true] at hsw
  obtain ⟨⟨⟨s1, s2⟩, s3⟩, _⟩ := hsw
  have hsw : swapsWith (.ListComp elt [⟨.Name x px, iter, ifs, 0⟩] scope cpos) (some (.Name y py)) pos.line env = pure true := by
    show (pure (env.blockKind == .function && env.kindOf y == some .local && py.line == cpos.line && !(scope.names.any fun (n, k) => n == y && (k == .local || k == .cell))) : Sem Bool) = pure true
    congr 1
    have e1 : (env.blockKind == ScopeKind.function) = true := by unfold Env.blockKind; rw [he.sc, he.kind]; rfl
    have e2 : (env.kindOf y == some .local) = true := by unfold Env.kindOf; rw [he.sc]; exact s1
    rw [e1, e2, s2, s3]; rfl
  rw [exec_Assign_Name_used _ _ _ _ hsw]
  refine wpAny_bind (wpAny_standAt (wpAny_bind ?_))
  show wpAny _ A (do let _ ← comprehension (.ListComp elt [⟨.Name x px, iter, ifs, 0⟩] scope cpos) scope env _ (newList []) false (eval iter env) (some (assign (.Name y py) env))) _ _ s
  refine wpAny_bind (wpAny_mono (comp_main (use := some (assign (.Name y py) env)) (Qc := fun _ s' => Qc .next s') hok hns h hr he hi.or hl R fun C D h' tk' as' σ' oC mm x' ns' gC R' hv hC pC nC q => ?_) (fun _ s' hq => wpAny_pure (wpAny_pure hq)) fun _ _ e => e)
  have hst : storeOk sc y = true := by unfold storeOk; rw [beq_iff_eq.mp s1]
  have owC : Own env own (P.add C oC) O := ⟨ow.loc, ow.cel, ow.hasC, ow.inj, ow.dom, ow.has, fun a ha o q => q.elim (ow.off a ha o) fun ⟨z, _⟩ => let ⟨o', h'⟩ := ow.has a ha; pC o' (z ▸ .inr h')⟩
  have ownC : C ∉ own := fun q => let ⟨o', h'⟩ := ow.has C q; pC o' (.inr h')
  have R'' : Rep W ((P.add C oC).or O) as' σ' h' := (R'.hold hC gC).weaken fun a o q => by
    rcases q with (q | q) | q
    · exact .inl (.inl q)
    · exact .inr q
    · exact .inl (.inr q)
  show wpAny _ A (assign (.Name y py) env (.ref D)) _ _ _
  refine wpAny_assign_Name (store_own hr he hi.add owC ((hl.ext x').up fun a o q => q.elim (fun q => .inl (.inl q)) .inr) R'' hv hst fun h₂ tk₂ O₂ ow₂ l₂ R₂ => ?_)
  refine ⟨mm, ns'.ns (R₂.keep _ _ (.inl (.inr ⟨rfl, rfl⟩))), fun h₃ sb => ?_⟩
  have ow₃ : Own env own P O₂ := ⟨ow₂.loc, ow₂.cel, ow₂.hasC, ow₂.inj, ow₂.dom, ow₂.has, fun a ha o q => ow₂.off a ha o (.inl q)⟩
  refine c .next .next h₃ tk₂ as' σ' _ O₂ x' rfl ow₃ (l₂.drop ow₃ ownC) ?_ q
  refine (R₂.weaken (P' := P.or O₂) fun a o q => q.elim (fun q => .inl (.inl q)) .inr).off1 sb hC fun o q => ?_
  rcases q with q | q
  · exact pC o (.inl q)
  · exact ownC (ow₂.dom _ _ q)
end
end Mine
end
section
namespace Mine
open PySem

section
variable {W : Wd} {n : Nat} {sc : Scope} {m : Locs} {σ : AH} {pos : Pos}
def TSetI (W : Wd) (n : Nat) (o i v : AV) (Q : AH → Prop) (σ : AH) : Prop :=
  ∀ (A : Around) (P : Pr) (as : List Addr) (s : Shared) (vo vi vv : Value), Room n A → W.In P → VRel as vo o → VRel as vi i → VRel as vv v → Rep W P as σ s.heap →
    ∀ (Qc : Unit → Shared → Prop) (E : Value → Shared → Prop), (∀ h' tk' as' σ', Ext as as' → Rep W P as' σ' h' → Q σ' → Qc () { s with heap := h', toks := tk' }) → wpAny (model W.prog W.w) A (setItem vo vi vv) Qc E s
def TDelI (W : Wd) (n : Nat) (o i : AV) (Q : AH → Prop) (σ : AH) : Prop :=
  ∀ (A : Around) (P : Pr) (as : List Addr) (s : Shared) (vo vi : Value), Room n A → W.In P → VRel as vo o → VRel as vi i → Rep W P as σ s.heap →
    ∀ (Qc : Unit → Shared → Prop) (E : Value → Shared → Prop), (∀ h' tk' as' σ', Ext as as' → Rep W P as' σ' h' → Q σ' → Qc () { s with heap := h', toks := tk' }) → wpAny (model W.prog W.w) A (delItem vo vi) Qc E s
variable {Q : AF → Locs → AH → Prop}
theorem kS {o i e : Expr} {p : Pos} (hs : notComp e = true) (h : TE W n sc m e (fun v σ₁ => TE W n sc m o (fun ov σ₂ => TE W n sc m i (fun iv σ₃ => TSetI W n ov iv v (fun σ₄ => Q .next m σ₄) σ₃) σ₂) σ₁) σ) : TS W n sc (.Assign [.Subscript o i p] e pos) Q m σ := by
  intro A env own P O as s hr he hi ow hl R Qc E c
  refine wpAny_Assign_Subscript (h A env (P.or O) as s hr he hi.or hl R _ E fun v av h₁ tk₁ as₁ σ₁ x₁ r₁ R₁ q₁ => ?_) (swaps_not hs ..)
  refine q₁ A env (P.or O) as₁ _ hr he hi.or (hl.ext x₁) R₁ _ E fun vo ao h₂ tk₂ as₂ σ₂ x₂ r₂ R₂ q₂ => ?_
  refine q₂ A env (P.or O) as₂ _ hr he hi.or (hl.ext (x₁.trans x₂)) R₂ _ E fun vi ai h₃ tk₃ as₃ σ₃ x₃ r₃ R₃ q₃ => ?_
  refine q₃ A (P.or O) as₃ _ vo vi v hr hi.or (r₂.ext x₃) r₃ (r₁.ext (x₂.trans x₃)) R₃ _ E fun h₄ tk₄ as₄ σ₄ x₄ R₄ q₄ => ?_
  have xx := ((x₁.trans x₂).trans x₃).trans x₄
  exact c .next .next h₄ tk₄ as₄ σ₄ m O xx rfl ow (hl.ext xx) R₄ q₄
theorem kY {o i : Expr} {p : Pos} (h : TE W n sc m o (fun ov σ₂ => TE W n sc m i (fun iv σ₃ => TDelI W n ov iv (fun σ₄ => Q .next m σ₄) σ₃) σ₂) σ) : TS W n sc (.Delete [.Subscript o i p] pos) Q m σ := by
  intro A env own P O as s hr he hi ow hl R Qc E c
  refine wpAny_Delete (wpAny_deleteEach_cons (PyProof.Rows.delete_Subscript (h A env (P.or O) as s hr he hi.or hl R _ E fun vo ao h₂ tk₂ as₂ σ₂ x₂ r₂ R₂ q₂ => ?_)))
  refine q₂ A env (P.or O) as₂ _ hr he hi.or (hl.ext x₂) R₂ _ E fun vi ai h₃ tk₃ as₃ σ₃ x₃ r₃ R₃ q₃ => ?_
  refine q₃ A (P.or O) as₃ _ vo vi hr hi.or (r₂.ext x₃) r₃ R₃ _ E fun h₄ tk₄ as₄ σ₄ x₄ R₄ q₄ => ?_
  have xx := (x₂.trans x₃).trans x₄
  exact wpAny_deleteEach_nil (c .next .next h₄ tk₄ as₄ σ₄ m O xx rfl ow (hl.ext xx) R₄ q₄)
theorem VsRel.set {as : List Addr} : ∀ {vs : List Value} {xs : List AV}, VsRel as vs xs → ∀ (j : Nat) {v : Value} {x : AV}, VRel as v x → VsRel as (vs.set j v) (xs.set j x)
  | [], [], _, _, _, _, _ => trivial
  | _ :: _, _ :: _, ⟨_, r⟩, 0, _, _, h => ⟨h, r⟩
  | _ :: _, _ :: _, ⟨a, r⟩, j + 1, _, _, h => ⟨a, r.set j h⟩
theorem tset_list {l : Nat} {xs : List AV} {k : Int} {j : Nat} {v : AV} {QH : AH → Prop} (hl : σ[l]? = some (.list xs)) (hj : pyIdx xs.length k = some j) (hb : -(2 ^ 63) ≤ k ∧ k < 2 ^ 63) (h : QH (σ.set l (.list (xs.set j v)))) : TSetI W n (.ref l) (.int k) v QH σ := by
  intro A P as s vo vi vv hr hi h1 h2 h3 R Qc E c
  obtain ⟨a, o, rfl, e1, e2, r⟩ := R.ref h1 hl
  obtain ⟨t, rfl⟩ := h2
  obtain ⟨vs, nn, rfl, hv⟩ := r
  refine setItem_exact e2 (by simpa [hv.length] using hj) hb.1 hb.2 ?_
  refine c _ s.toks as _ (Ext.refl _) (R.set (ao' := .list (xs.set j v)) e1 hl rfl rfl (Heap.SameBut.update ..) (Heap.get?_update_self _ e2 rfl) ?_) h
  exact ⟨vs.set j vv, _, by simp [Obj.mapSeq]; rfl, hv.set j h3⟩
theorem VsRel.cut {as : List Addr} {sel : Nat → Bool} : ∀ {vs : List Value} {xs : List AV}, VsRel as vs xs → ∀ k, VsRel as ((vs.zipIdx k).filterMap fun p => if sel p.2 = true then none else some p.1) ((xs.zipIdx k).filterMap fun p => if sel p.2 = true then none else some p.1)
  | [], [], _, _ => trivial
  | v :: vs, x :: xs, ⟨a, r⟩, k => by
    simp only [List.zipIdx_cons, List.filterMap_cons]
    cases q : sel k with
    | true => simp only [if_true]; exact r.cut (k + 1)
    | false => simp only [Bool.false_eq_true, if_false]; exact ⟨a, r.cut (k + 1)⟩
theorem cutL_run {α : Type} (sel : Nat → Bool) (a b : Nat) (hs : ∀ k, sel k = (decide (a ≤ k) && decide (k < b))) : ∀ (xs : List α) (k : Nat),
    ((xs.zipIdx k).filterMap fun p => if sel p.2 = true then none else some p.1) = xs.take (a - k) ++ xs.drop (max (a - k) (b - k))
  | [], k => by simp
  | x :: xs, k => by
    simp only [List.zipIdx_cons, List.filterMap_cons]
    rw [cutL_run sel a b hs xs (k + 1), hs k]
    by_cases h1 : a ≤ k
    · have e1 : a - k = 0 := by (first|lia|omega)
      have e2 : a - (k + 1) = 0 := by (first|lia|omega)
      by_cases h2 : k < b
      · simp only [h1, h2, decide_true, Bool.and_self, if_true, e1, e2, List.take_zero, List.nil_append]
        have : max 0 (b - k) = max 0 (b - (k + 1)) + 1 := by rw [Nat.zero_max, Nat.zero_max]; (first|lia|omega)
        rw [this, List.drop_succ_cons]
      · have e3 : b - k = 0 := by (first|lia|omega)
        have e4 : b - (k + 1) = 0 := by (first|lia|omega)
        simp [h1, h2, e1, e2, e3, e4]
    · have e1 : a - k = (a - (k + 1)) + 1 := by (first|lia|omega)
      have e2 : max (a - k) (b - k) = max (a - (k + 1)) (b - (k + 1)) + 1 := by
        rw [e1]
        by_cases h3 : b ≤ k
        · rw [Nat.sub_eq_zero_of_le h3, Nat.sub_eq_zero_of_le (Nat.le_succ_of_le h3), Nat.max_zero, Nat.max_zero]
        · rw [show b - k = (b - (k + 1)) + 1 by (first|lia|omega)]; exact (Nat.succ_max_succ _ _)
      simp only [h1, decide_false, Bool.false_and, Bool.false_eq_true, if_false, e1]
      rw [← e1, e2, e1, List.take_succ_cons, List.drop_succ_cons]; rfl
theorem tdel_slice {l sl : Nat} {xs : List AV} {lo hi : Option Int} {QH : AH → Prop} (hl : σ[l]? = some (.list xs)) (hs : σ[sl]? = some (.slice lo hi none)) (hz : xs.length ≤ sizeLine)
    (h : QH (σ.set l (.list (xs.take (sliceBounds lo hi none xs.length).1.toNat ++ xs.drop (max (sliceBounds lo hi none xs.length).1.toNat (sliceBounds lo hi none xs.length).2.1.toNat))))) : TDelI W n (.ref l) (.ref sl) QH σ := by
  intro A P as s vo vi hr hi' h1 h2 R Qc E c
  obtain ⟨a, o, rfl, e1, e2, r⟩ := R.ref h1 hl
  obtain ⟨b, os, rfl, f1, f2, rs⟩ := R.ref h2 hs
  obtain ⟨vs, nn, rfl, hv⟩ := r
  obtain ⟨vl, vu, vst, rfl, p1, p2, p3⟩ := rs
  refine delItem_slice e2 ⟨_, f2, rfl, rfl⟩ p1 p2 p3 (by simp) (by simp [hv.length, hz]) fun sel hsel => ?_
  have hsz : (List.toArray vs).size = xs.length := by simp [hv.length]
  rw [hsz] at hsel
  have hb : (sliceBounds lo hi none xs.length).2.2 = 1 := rfl
  have h0 : 0 ≤ (sliceBounds lo hi none xs.length).1 := by
    cases lo with
    | none => simp [sliceBounds]
    | some k => simp only [sliceBounds, Option.getD_none, show (1 : Int) > 0 from by decide, if_true]; (first|lia|omega)
  have h0' : 0 ≤ (sliceBounds lo hi none xs.length).2.1 := by
    cases hi with
    | none => simp [sliceBounds]
    | some k => simp only [sliceBounds, Option.getD_none, show (1 : Int) > 0 from by decide, if_true]; (first|lia|omega)
  have hsel' : ∀ k, sel k = (decide ((sliceBounds lo hi none xs.length).1.toNat ≤ k) && decide (k < (sliceBounds lo hi none xs.length).2.1.toNat)) := fun k => by
    rw [hsel k, hb]
    simp only [show (1 : Int) > 0 from by decide, if_true, Int.emod_one, beq_self_eq_true, Bool.and_true]
    congr 1 <;> (apply decide_eq_decide.mpr; (first|lia|omega))
  refine c _ s.toks as _ (Ext.refl _) (R.set (ao' := .list (xs.take (sliceBounds lo hi none xs.length).1.toNat ++ xs.drop (max (sliceBounds lo hi none xs.length).1.toNat (sliceBounds lo hi none xs.length).2.1.toNat))) e1 hl rfl rfl (Heap.SameBut.update ..) (Heap.get?_update_self _ e2 rfl) ?_) h
  refine ⟨vs.zipIdx.filterMap fun p => if sel p.2 = true then none else some p.1, _, by simp [Obj.mapSeq]; rfl, ?_⟩
  have := hv.cut (sel := sel) 0
  rw [cutL_run sel _ _ hsel' xs 0] at this
  simpa using this

def TAs (W : Wd) (n : Nat) (sc : Scope) (ts : List Expr) (vs : List AV) (Q : Locs → AH → Prop) (m : Locs) (σ : AH) : Prop := match ts, vs with
  | [], [] => Q m σ
  | t :: ts, v :: vs => TA W n sc t v (fun m₁ σ₁ => TAs W n sc ts vs Q m₁ σ₁) m σ
  | _, _ => False
theorem assignEach_not {env : Env} : ∀ {ts : List Expr}, ts.all notStar = true → assignEach ts env = ts.map fun t => (false, assign t env)
  | [], _ => rfl
  | t :: ts, h => by
    have h' : notStar t = true ∧ ts.all notStar = true := by simpa using h
    have : assignEach (t :: ts) env = (false, assign t env) :: assignEach ts env := by
      cases t <;> first | rfl | (exact nomatch h'.1)
    rw [this, assignEach_not h'.2]; rfl
theorem assign_order {A : Around} {env : Env} {own : List Addr} {P : Pr} : ∀ (ts : List Expr) {avs : List AV} {vs : List Value} {QA : Locs → AH → Prop} {m : Locs} {σ : AH} {O : Pr} {as : List Addr} {s : Shared} {Qc : Unit → Shared → Prop} {E : Value → Shared → Prop}, TAs W n sc ts avs QA m σ → VsRel as vs avs →
    Room n A → EnvIs env sc → W.In P → Own env own P O → Loc (P.or O) env m as → Rep W (P.or O) as σ s.heap →
    (∀ h' tk' as' σ' m' O', Ext as as' → Own env own P O' → Loc (P.or O') env m' as' → Rep W (P.or O') as' σ' h' → QA m' σ' → Qc () { s with heap := h', toks := tk' }) →
    wpAny (model W.prog W.w) A (assignInOrder (ts.map fun t => assign t env) vs) Qc E s
  | [], [], [], _, m, σ, O, as, s, _, _, h, _, _, _, _, ow, hl, R, c => wpAny_assignInOrder_none (c s.heap s.toks as σ m O (Ext.refl _) ow hl R h)
  | t :: ts, v :: avs, u :: vs, _, m, σ, O, as, s, Qc, E, h, ⟨hv, hvs⟩, hr, he, hi, ow, hl, R, c => by
    refine wpAny_assignInOrder_more (h A env own P O as s u hr he hi ow hl R hv _ E fun h₁ tk₁ as₁ σ₁ m₁ O₁ x₁ ow₁ l₁ R₁ q₁ => ?_)
    exact assign_order ts q₁ (hvs.ext x₁) hr he hi ow₁ l₁ R₁ fun h₂ tk₂ as₂ σ₂ m₂ O₂ x₂ ow₂ l₂ R₂ q₂ => c h₂ tk₂ as₂ σ₂ m₂ O₂ (x₁.trans x₂) ow₂ l₂ R₂ q₂
  | [], _ :: _, _, _, _, _, _, _, _, _, _, h, _, _, _, _, _, _, _, _ => h.elim
  | _ :: _, [], _, _, _, _, _, _, _, _, _, h, _, _, _, _, _, _, _, _ => h.elim
  | [], [], _ :: _, _, _, _, _, _, _, _, _, _, h, _, _, _, _, _, _, _ => h.elim
  | _ :: _, _ :: _, [], _, _, _, _, _, _, _, _, _, h, _, _, _, _, _, _, _ => h.elim
theorem Rep.extBut {P : Pr} {as : List Addr} {h h' : Heap} (R : Rep W P as σ h) (x : Heap.ExtBut h.objs.size h h') : Rep W P as σ h' :=
  R.grow fun b o e => x b o (Nat.ne_of_lt (Heap.lt_size e)) e
theorem ta_tuple {ts : List Expr} {k : Nat} {l : Nat} {xs : List AV} {QA : Locs → AH → Prop} (hn : ts.all notStar = true) (hl' : σ[l]? = some (.tuple xs)) (hlen : ts.length = xs.length) (h : TAs W n sc ts xs QA m σ) : TA W n sc (.Tuple ts k pos) (.ref l) QA m σ := by
  intro A env own P O as s vv hr he hi ow hl R hv Qc E c
  obtain ⟨a, o, rfl, e1, e2, r⟩ := R.ref hv hl'
  obtain ⟨vs, nn, rfl, hvs⟩ := r
  have hT : PyProof.Rows.IsTup s.heap a vs.toArray := ⟨_, e2, rfl, nn, rfl⟩
  show wpAny _ A (do standAt pos; unpack (.ref a) (assignEach ts env)) Qc E s
  rw [assignEach_not hn]
  refine wpAny_bind (wpAny_standAt (PyProof.Rows.unpack_tuple hr.1 hT (by simp [hlen, hvs.length]) ?_ fun h' hx => ?_))
  · rw [List.findIdx?_eq_none_iff]; intro p hp; obtain ⟨t, _, rfl⟩ := List.mem_map.mp hp; rfl
  · have : (ts.map fun t => (false, assign t env)).map (·.2) = ts.map fun t => assign t env := by simp
    rw [this]
    exact assign_order ts h hvs hr he hi ow hl (R.extBut hx) fun h₂ tk₂ as₂ σ₂ m₂ O₂ x₂ ow₂ l₂ R₂ q₂ => c h₂ tk₂ as₂ σ₂ m₂ O₂ x₂ ow₂ l₂ R₂ q₂
end
end Mine
end
section
set_option maxRecDepth 100000
namespace Mine
open PySem PySem.W

section
variable {prog : Program} {w : World} {A : Around} {E : Value → Shared → Prop} {s : Shared} {K : Frag} {x C dx : Addr}
theorem setAttr_exact {es : List DictEntry} {n : Nat} {name : Str} {v : Value} {Qc : Unit → Shared → Prop} (X : K.In s.heap) (gx : s.heap.get? x = some ⟨.ref C, some dx, .plain, #[]⟩) (gd : s.heap.get? dx = some (dictOf es n))
    (hs : findIn K (.ref C) "__setattr__" = some (some (.builtin "object.__setattr__"))) (hp : plainOver K C = true) (ht : takerIn K C name = some none) (hh : hasDictIn K C = true) (hl : (getL name es).isSome = true) (hz : (putL name (PyData.keyHash w.params name) (.str name (s.toks + 1)) v es).length ≤ 1000)
    (h : Qc () { s with heap := s.heap.update dx (Obj.putName name (PyData.keyHash w.params name) (.str name (s.toks + 1)) v), toks := s.toks + 2 }) : wpAny (model prog w) A (setAttr (.ref x) name v) Qc E s := by
  have I : InstAt s.heap x ⟨.ref C, some dx, .plain, #[]⟩ C (some (dictOf es n)) := ⟨gx, rfl, rfl, gd⟩
  refine set_plain X I hs (osa_open (s := { s with toks := s.toks + 1 }) X I hp ht fun b => ?_)
  obtain ⟨cd, hc, hd'⟩ := any_some hh
  refine wpAny_bind (wpAny_pure (wpAny_bind (wpAny_bind (wpAny_loadPart gx (wpAny_bind ((looks_clsIn X hc).at ?_))))))
  rw [hd']
  refine wpAny_pure (a := some dx) (wpAny_bind (wpAny_pure (wpAny_bind ?_)))
  unfold nsSet
  refine wpAny_bind (wpAny_bind (wpAny_askSetting (wpAny_pure (wpAny_bind (wpAny_mkText (wpAny_bind (wpAny_loadPart gd ?_)))))))
  have cc : (!es.toArray.any (·.key.isStr name) && es.toArray.any (·.refKey)) = false := by
    unfold getL at hl
    simp only [List.any_toArray]
    split at hl
    · rename_i en he
      rw [List.any_eq_true.mpr ⟨en, List.mem_of_find?_eq_some he, List.find?_some he⟩]; rfl
    · split at hl
      · cases hl
      · rename_i z; rw [Bool.not_eq_true] at z; rw [z, Bool.and_false]
  dsimp only
  rw [aRefKeyMayBeTheName_at, cc]
  refine wpAny_updatePart gd ?_
  have e' : Obj.putName name (PyData.keyHash w.params name) (.str name (s.toks + 1)) v (dictOf es n) = dictOf (putL name (PyData.keyHash w.params name) (.str name (s.toks + 1)) v es) (putN name es n) := putName_dict ..
  have gd' : (s.heap.update dx (Obj.putName name (PyData.keyHash w.params name) (.str name (s.toks + 1)) v)).get? dx = some (dictOf (putL name (PyData.keyHash w.params name) (.str name (s.toks + 1)) v es) (putN name es n)) := by
    rw [Heap.get?_update_self _ gd (by rw [e']; rfl), e']
  refine wpAny_bind (wpAny_lookBehind gd' (pastItsLine_dict (by rw [List.size_toArray, sizeLine_eq]; (first|lia|omega))) ?_)
  exact wpAny_pure (by show Qc () _; exact h)
end

theorem beqC (a b : Str) : (a == b) = (b == a) := by
  rw [Bool.eq_iff_iff, beq_iff_eq, beq_iff_eq]; exact eq_comm
section
variable {P : Params} {as : List Addr}
theorem fs_get {name : Str} : ∀ {es : List DictEntry} {fs : List (Str × AV)}, FsRel P as es fs → ∀ {av : AV}, fs.lookup name = some av → ∃ v, getL name es = some (some v) ∧ VRel as v av
  | [], [], _, _, e => by simp at e
  | e :: es, f :: fs, ⟨⟨t, hk⟩, hv, r⟩, av, q => by
    rw [List.lookup_cons] at q
    unfold getL
    rw [List.find?_cons]
    have hb : e.key.isStr name = (name == f.1) := by
      rw [hk]; exact beqC f.1 name
    rw [hb]
    cases z : name == f.1 with
    | true => rw [z] at q; cases q; exact ⟨e.val, rfl, hv⟩
    | false =>
      rw [z] at q
      obtain ⟨v, g1, g2⟩ := fs_get r q
      refine ⟨v, ?_, g2⟩
      unfold getL at g1
      dsimp only
      cases ff : es.find? (·.key.isStr name) with
      | some en => rw [ff] at g1; exact g1
      | none => rw [ff] at g1; cases hr : es.any (·.refKey) <;> rw [hr] at g1 <;> simp at g1
theorem fs_norefs : ∀ {es : List DictEntry} {fs : List (Str × AV)}, FsRel P as es fs → es.any (·.refKey) = false
  | [], [], _ => rfl
  | e :: es, f :: fs, ⟨⟨t, hk⟩, hv, r⟩ => by
    rw [List.any_cons, fs_norefs r, Bool.or_false]
    unfold DictEntry.refKey; rw [hk]
theorem fs_none {name : Str} : ∀ {es : List DictEntry} {fs : List (Str × AV)}, FsRel P as es fs → fs.lookup name = none → getL name es = some none
  | es, fs, h, q => by
    have hn := fs_norefs h
    have hf : es.find? (·.key.isStr name) = none := by
      clear hn
      induction es generalizing fs with
      | nil => rfl
      | cons e es ih =>
        match fs, h, q with
        | f :: fs, ⟨⟨t, hk⟩, hv, r⟩, q =>
          rw [List.lookup_cons] at q
          have hb : e.key.isStr name = (name == f.1) := by
            rw [hk]; exact beqC f.1 name
          rw [List.find?_cons, hb]
          cases z : name == f.1 with
          | true => rw [z] at q; cases q
          | false => rw [z] at q; exact ih _ r q
    unfold getL
    rw [hf, hn]; rfl
theorem fs_some {name : Str} {es : List DictEntry} {fs : List (Str × AV)} (h : FsRel P as es fs) : (getL name es).isSome = true := by
  cases q : fs.lookup name with
  | none => rw [fs_none h q]; rfl
  | some av => obtain ⟨v, e, _⟩ := fs_get h q; rw [e]; rfl
theorem fs_put {name : Str} {hsh : Int} {t : Tok} {v : Value} {av : AV} (hv : VRel as v av) : ∀ {es : List DictEntry} {fs : List (Str × AV)}, FsRel P as es fs → FsRel P as (putL name hsh (.str name t) v es) (setL name av fs)
  | [], [], _ => ⟨⟨t, rfl⟩, hv, trivial⟩
  | e :: es, f :: fs, ⟨⟨u, hk⟩, hw, r⟩ => by
    obtain ⟨y, a⟩ := f
    unfold putL setL
    have hb : e.key.isStr name = (name == y) := by
      rw [hk]; exact beqC y name
    rw [hb]
    cases z : name == y with
    | true => exact ⟨⟨u, hk⟩, hv, r⟩
    | false => exact ⟨⟨u, hk⟩, hw, fs_put hv r⟩
theorem fs_len : ∀ {es : List DictEntry} {fs : List (Str × AV)}, FsRel P as es fs → es.length = fs.length
  | [], [], _ => rfl
  | _ :: _, _ :: _, ⟨_, _, r⟩ => by simp [fs_len r]
end

section
variable {W : Wd} {n : Nat} {sc : Scope} {m : Locs} {σ : AH} {pos : Pos} {Q : AV → AH → Prop} {K : Frag} {C : Addr}
def TGetA (W : Wd) (n : Nat) (o : AV) (attr : Str) (Q : AV → AH → Prop) (σ : AH) : Prop :=
  ∀ (A : Around) (P : Pr) (as : List Addr) (s : Shared) (vo : Value), Room n A → W.In P → VRel as vo o → Rep W P as σ s.heap → Run W P A as s (getAttr vo attr true) Q
def TSetA (W : Wd) (n : Nat) (o : AV) (attr : Str) (v : AV) (Q : AH → Prop) (σ : AH) : Prop :=
  ∀ (A : Around) (P : Pr) (as : List Addr) (s : Shared) (vo vv : Value), Room n A → W.In P → VRel as vo o → VRel as vv v → Rep W P as σ s.heap →
    ∀ (Qc : Unit → Shared → Prop) (E : Value → Shared → Prop), (∀ h' tk' as' σ', Ext as as' → Rep W P as' σ' h' → Q σ' → Qc () { s with heap := h', toks := tk' }) → wpAny (model W.prog W.w) A (setAttr vo attr vv) Qc E s
theorem gW {value : Expr} {attr : Str} (he' : ∀ env, eval (.Attribute value attr pos) env = (do
      let o ← eval value env
      standAt pos.atName
      let r ← holding [o] (getAttr o attr true)
      letTemporaryGo value o r
      pure r)) (h : TE W n sc m value (fun o σ₁ => TGetA W n o attr Q σ₁) σ) : TE W n sc m (.Attribute value attr pos) Q σ := by
  intro A env P as s hr he hi hl R Qc E c
  refine PyProof.Rows.Attribute_any_ (h A env P as s hr he hi hl R _ E fun v av h₁ tk₁ as₁ σ₁ x₁ r₁ R₁ q₁ => ?_) (he' env)
  exact q₁ A P as₁ _ v hr hi r₁ R₁ _ E fun v av h₂ tk₂ as₂ σ₂ x₂ r₂ R₂ q₂ => c v av h₂ tk₂ as₂ σ₂ (x₁.trans x₂) r₂ R₂ q₂
theorem Rep.inst {P : Pr} {as : List Addr} {h : Heap} (R : Rep W P as σ h) {v : Value} {i d : Nat} {fs : List (Str × AV)} (hv : VRel as v (.ref i)) (hi : σ[i]? = some (.inst C d)) (hd : σ[d]? = some (.dict fs)) :
    ∃ x dx es k, v = .ref x ∧ as[d]? = some dx ∧ h.get? x = some ⟨.ref C, some dx, .plain, #[]⟩ ∧ h.get? dx = some (dictOf es k) ∧ FsRel W.w.params as es fs := by
  obtain ⟨x, o, rfl, e1, e2, r⟩ := R.ref hv hi
  obtain ⟨dx, f1, rfl⟩ := r
  obtain ⟨dx', od, g1, g2, g3⟩ := R.at hd
  rw [f1] at g1; cases g1
  obtain ⟨es, k, rfl, hf⟩ := g3
  exact ⟨x, dx, es, k, rfl, f1, e2, g2, hf⟩
def avHanded : AV → Bool
  | .stat _ => false
  | _ => true
theorem tgeta {i d : Nat} {fs : List (Str × AV)} {attr : Str} {v : AV} (X : K.In W.H) (hi : σ[i]? = some (.inst C d)) (hd : σ[d]? = some (.dict fs)) (hf : fs.lookup attr = some v) (hh : avHanded v = true)
    (hg : plainGet K C attr = true) (hD : hasDictIn K C = true) (ha : findIn K (.ref C) attr = some none) (h : Q v σ) : TGetA W n (.ref i) attr Q σ := by
  intro A P as s vo hr hP hv R Qc E c
  obtain ⟨x, dx, es, k, rfl, f1, e2, g2, hfs⟩ := R.inst hv hi hd
  obtain ⟨u, u1, u2⟩ := fs_get hfs hf
  have hh' : handedIn u = true := by
    cases v with
    | none => cases u2; rfl
    | bool b => cases u2; rfl
    | int i => obtain ⟨t, rfl⟩ := u2; rfl
    | str i => obtain ⟨t, rfl⟩ := u2; rfl
    | ref i => obtain ⟨t, _, rfl⟩ := u2; rfl
    | stat u => cases hh
  exact get_value (X.keeps fun b o e => R.keep _ _ (hP _ _ e)) (od := some (dictOf es k)) ⟨e2, rfl, rfl, g2⟩ (plainGet_of hg).1 (findObj_own hD ha rfl (by rw [lookIn_dict]; exact u1)) hh' (c u v s.heap _ as σ (Ext.refl _) u2 R h)
theorem tseta {i d : Nat} {fs : List (Str × AV)} {attr : Str} {v : AV} {QH : AH → Prop} (X : K.In W.H) (hi : σ[i]? = some (.inst C d)) (hd : σ[d]? = some (.dict fs)) (hlen : fs.length < 1000)
    (hs : findIn K (.ref C) "__setattr__" = some (some (.builtin "object.__setattr__"))) (hp : plainOver K C = true) (ht : takerIn K C attr = some none) (hh : hasDictIn K C = true) (h : QH (σ.set d (.dict (setL attr v fs)))) : TSetA W n (.ref i) attr v QH σ := by
  intro A P as s vo vv hr hP hv hvv R Qc E c
  obtain ⟨x, dx, es, k, rfl, f1, e2, g2, hfs⟩ := R.inst hv hi hd
  have hz : ∀ t, (putL attr (PyData.keyHash W.w.params attr) (.str attr t) vv es).length ≤ 1000 := fun t => by
    have := fs_len (fs_put (hsh := PyData.keyHash W.w.params attr) (t := t) (name := attr) hvv hfs)
    rw [this]
    have : ∀ l : Locs, (setL attr v l).length ≤ l.length + 1 := fun l => by
      induction l with
      | nil => simp [setL]
      | cons p l ih => obtain ⟨y, w⟩ := p; unfold setL; split <;> simp <;> (first|lia|omega)
    have := this fs; (first|lia|omega)
  refine setAttr_exact (X.keeps fun b o e => R.keep _ _ (hP _ _ e)) e2 g2 hs hp ht hh (fs_some hfs) (hz _) ?_
  refine c _ _ as _ (Ext.refl _) (R.set (ao' := .dict (setL attr v fs)) f1 hd rfl rfl (Heap.SameBut.update ..) (Heap.get?_update_self _ g2 (by rw [putName_dict]; rfl)) ?_) h
  rw [putName_dict]
  exact ⟨_, _, rfl, fs_put hvv hfs⟩
theorem tmeth_inst {i d : Nat} {fs : List (Str × AV)} {name : Str} {f : Addr} {QM : AV → List AV → AH → Prop} (X : K.In W.H) (hi : σ[i]? = some (.inst C d)) (hd : σ[d]? = some (.dict fs)) (hf : fs.lookup name = none)
    (hg : plainGet K C name = true) (hm : findIn K (.ref C) name = some (some (.ref f))) (ht : typeIn K (.ref f) = some (.type "function")) (hk : Keeps W (.ref f)) (h : QM (.stat (.ref f)) [.ref i] σ) : TMeth W n (.ref i) name QM σ := by
  intro A P as s vo pl hr hP hv R Qc E c
  have hv' := hv
  obtain ⟨x, dx, es, k, rfl, f1, e2, g2, hfs⟩ := R.inst hv hi hd
  refine method_fn (X.keeps fun b o e => R.keep _ _ (hP _ _ e)) (od := some (dictOf es k)) ⟨e2, rfl, rfl, g2⟩ (plainGet_of hg).1 (plainGet_of hg).2 hm ht ?_ (c _ _ (.stat (.ref f)) [.ref i] s.heap s.toks as σ (Ext.refl _) hk rfl ⟨hv', trivial⟩ R h)
  show (lookIn name (dictOf es k)).map _ = _
  rw [lookIn_dict, fs_none hfs hf]; rfl
variable {QS : AF → Locs → AH → Prop}
theorem kQ {o e : Expr} {attr : Str} {p : Pos} (hs : notComp e = true) (h : TE W n sc m e (fun v σ₁ => TE W n sc m o (fun ov σ₂ => TSetA W n ov attr v (fun σ₃ => QS .next m σ₃) σ₂) σ₁) σ) : TS W n sc (.Assign [.Attribute o attr p] e pos) QS m σ := by
  intro A env own P O as s hr he hi ow hl R Qc E c
  refine plainObj_wpAny_Assign_Attribute (h A env (P.or O) as s hr he hi.or hl R _ E fun v av h₁ tk₁ as₁ σ₁ x₁ r₁ R₁ q₁ => ?_) (swaps_not hs ..)
  refine q₁ A env (P.or O) as₁ _ hr he hi.or (hl.ext x₁) R₁ _ E fun vo ao h₂ tk₂ as₂ σ₂ x₂ r₂ R₂ q₂ => ?_
  refine q₂ A (P.or O) as₂ _ vo v hr hi.or r₂ (r₁.ext x₂) R₂ _ E fun h₄ tk₄ as₄ σ₄ x₄ R₄ q₄ => ?_
  have xx := (x₁.trans x₂).trans x₄
  exact c .next .next h₄ tk₄ as₄ σ₄ m O xx rfl ow (hl.ext xx) R₄ q₄
def TInp (W : Wd) (n : Nat) (op : Operator) (a b : AV) (Q : AV → AH → Prop) (σ : AH) : Prop :=
  ∀ (A : Around) (P : Pr) (as : List Addr) (s : Shared) (va vb : Value), Room n A → W.In P → VRel as va a → VRel as vb b → Rep W P as σ s.heap → Run W P A as s (inplaceOp op va vb) Q
theorem ts_aug_attr {o e : Expr} {attr : Str} {p : Pos} {op : Operator} (h : TE W n sc m o (fun ov σ₁ => TGetA W n ov attr (fun old σ₂ => TE W n sc m e (fun v σ₃ => TInp W n op old v (fun r σ₄ => TSetA W n ov attr r (fun σ₅ => QS .next m σ₅) σ₄) σ₃) σ₂) σ₁) σ) : TS W n sc (.AugAssign (.Attribute o attr p) op e pos) QS m σ := by
  intro A env own P O as s hr he hi ow hl R Qc E c
  refine wpAny_AugAssign_AttributeAny (h A env (P.or O) as s hr he hi.or hl R _ E fun vo ao h₁ tk₁ as₁ σ₁ x₁ r₁ R₁ q₁ => ?_)
  refine q₁ A (P.or O) as₁ _ vo hr hi.or r₁ R₁ _ E fun vl al h₂ tk₂ as₂ σ₂ x₂ r₂ R₂ q₂ => ?_
  refine q₂ A env (P.or O) as₂ _ hr he hi.or (hl.ext (x₁.trans x₂)) R₂ _ E fun vv av h₃ tk₃ as₃ σ₃ x₃ r₃ R₃ q₃ => ?_
  refine q₃ A (P.or O) as₃ _ vl vv hr hi.or (r₂.ext x₃) r₃ R₃ _ E fun vr ar h₄ tk₄ as₄ σ₄ x₄ r₄ R₄ q₄ => ?_
  refine q₄ A (P.or O) as₄ _ vo vr hr hi.or (r₁.ext ((x₂.trans x₃).trans x₄)) r₄ R₄ _ E fun h₅ tk₅ as₅ σ₅ x₅ R₅ q₅ => ?_
  have xx := (((x₁.trans x₂).trans x₃).trans x₄).trans x₅
  exact c .next .next h₅ tk₅ as₅ σ₅ m O xx rfl ow (hl.ext xx) R₅ q₅
theorem load_name {A : Around} {env : Env} {P : Pr} {as : List Addr} {s : Shared} {x : Str} {av : AV} {Qc : Value → Shared → Prop} {E : Value → Shared → Prop} (hm : m.lookup x = some av) (hk : nameOk sc x = true) (he : EnvIs env sc) (hl : Loc P env m as) (R : Rep W P as σ s.heap)
    (c : ∀ v, VRel as v av → Qc v s) : wpAny (model W.prog W.w) A (loadName env x) Qc E s := by
  unfold nameOk at hk
  have hsc : env.scope.kind = .function := by rw [he.sc]; exact he.kind
  split at hk
  · rename_i hn
    obtain ⟨oL, mm, h1, h2, h3⟩ := hl.loc
    obtain ⟨v, hv, hmm⟩ := h3 x av hm (by rw [he.sc]; exact hn)
    exact wpAny_loadName_local hsc (by unfold Env.kindOf; rw [he.sc]; exact hn) (h2.ns (R.keep _ _ h1)) hmm (c v hv)
  · rename_i hn
    obtain ⟨v, cc, o, hv, h1, h2, h3⟩ := hl.cel x av hm (.inl (by rw [he.sc]; exact hn))
    exact wpAny_loadName_cell hsc (by unfold Env.kindOf; rw [he.sc]; exact hn) h1 ⟨o, R.keep _ _ h2, h3⟩ (c v hv)
  · rename_i hn
    obtain ⟨v, cc, o, hv, h1, h2, h3⟩ := hl.cel x av hm (.inr (by rw [he.sc]; exact hn))
    rw [Bool.and_eq_true] at hk
    exact wpAny_loadName_free hsc (by unfold Env.kindOf; rw [he.sc]; exact hn) h1 ⟨o, R.keep _ _ h2, h3⟩ (c v hv) (by simpa using hk.2)
  · cases hk
theorem ts_aug_name {x : Str} {px : Pos} {e : Expr} {op : Operator} {old : AV} (hm : m.lookup x = some old) (hk : nameOk sc x = true) (hx : storeOk sc x = true) (h : TE W n sc m e (fun v σ₁ => TInp W n op old v (fun r σ₂ => QS .next (setL x r m) σ₂) σ₁) σ) : TS W n sc (.AugAssign (.Name x px) op e pos) QS m σ := by
  intro A env own P O as s hr he hi ow hl R Qc E c
  refine wpAny_AugAssign_Name (load_name hm hk he hl R fun vo ho => ?_)
  refine h A env (P.or O) as s hr he hi.or hl R _ E fun vv av h₃ tk₃ as₃ σ₃ x₃ r₃ R₃ q₃ => ?_
  refine q₃ A (P.or O) as₃ _ vo vv hr hi.or (ho.ext x₃) r₃ R₃ _ E fun vr ar h₄ tk₄ as₄ σ₄ x₄ r₄ R₄ q₄ => ?_
  have xx := x₃.trans x₄
  exact store_own hr he hi ow (hl.ext xx) R₄ r₄ hx fun h' tk' O' ow' l' R' => c .next .next h' tk' as₄ σ₄ _ O' xx rfl ow' l' R' q₄
theorem tinp_addI {a b : Int} (h : Q (.int (a + b)) σ) : TInp W n .Add (.int a) (.int b) Q σ := by
  intro A P as s va vb hr _ h1 h2 R Qc E c
  obtain ⟨t, rfl⟩ := h1
  obtain ⟨u, rfl⟩ := h2
  exact wpAny_iadd_int (c _ (.int (a + b)) s.heap _ as σ (Ext.refl _) ⟨_, rfl⟩ R h)

theorem Room.make {A : Around} (h : Room (n + 1) A) (C : Addr) (vals : List Value) (kw : List (Str × Value)) : Room n (A.under (.builtin "type.__call__" ⟨.ref C :: vals, kw⟩)) := by
  refine ⟨h.1, ?_, ?_⟩
  · rw [depth_under_kw]; have := h.2.1; (first|lia|omega)
  · have e : (A.under (.builtin "type.__call__" ⟨.ref C :: vals, kw⟩)).units = A.units + 1 := rfl
    rw [e]; have := h.2.2; (first|lia|omega)
theorem tcall_class {f : Addr} {args : List AV} (X : K.In W.H) (hm : makesIn K C = true) (hi : findIn K (.ref C) "__init__" = some (some (.ref f))) (hf : typeIn K (.ref f) = some (.type "function"))
    (h : TCode W n (.stat (.ref f)) (.ref (σ.length + 1) :: args) (fun v σ₁ => v = .none ∧ Q (.ref (σ.length + 1)) σ₁) (σ ++ [.dict [], .inst C σ.length])) : TCall W (n + 1) (.stat (.ref C)) args Q σ := by
  intro A P as s fv vals hr hP hfv hv R Qc E c
  cases hfv
  have XS : K.In s.heap := X.keeps fun b o e => R.keep _ _ (hP _ _ e)
  obtain ⟨hp, g, d, t, os⟩ := s
  refine wpAny_call (make_core (makes_of XS hm) (looks_findIn XS hi) (fun self => bind_fn XS self hf) (.inl rfl) ?_)
  have R₁ : Rep W P (as ++ [hp.objs.size]) (σ ++ [.dict []]) (hp.push emptyDict) := R.push (ao := .dict []) rfl rfl ⟨[], 0, rfl, trivial⟩
  have hl : as.length = σ.length := R.len
  have R₂ : Rep W P ((as ++ [hp.objs.size]) ++ [(hp.push emptyDict).objs.size]) ((σ ++ [.dict []]) ++ [.inst C σ.length]) ((hp.push emptyDict).push (instObj C hp.objs.size)) :=
    R₁.push (ao := .inst C σ.length) rfl rfl ⟨hp.objs.size, by simp [← hl], rfl⟩
  have e1 : (hp.push emptyDict).objs.size = hp.objs.size + 1 := Heap.size_push ..
  rw [e1] at R₂
  have ext : Ext as ((as ++ [hp.objs.size]) ++ [hp.objs.size + 1]) := (Ext.snoc ..).trans (Ext.snoc ..)
  refine codeAny_mono (h (A.under (.builtin "type.__call__" ⟨.ref C :: vals, []⟩)) P ((as ++ [hp.objs.size]) ++ [hp.objs.size + 1]) ⟨(hp.push emptyDict).push (instObj C hp.objs.size), g, d, t, os⟩ (.ref f) (.ref (hp.objs.size + 1) :: vals)
    (hr.make C vals []) hP rfl ⟨⟨hp.objs.size + 1, by simp [← hl], rfl⟩, hv.ext ext⟩ (by simpa using R₂)
    (fun v s' => v = .none ∧ Qc (.ref (hp.objs.size + 1)) s') E fun v av h' tk' as' σ' x' r' R' q' => ?_) fun r s' z => ?_
  · obtain ⟨rfl, q⟩ := q'
    cases r'
    exact ⟨rfl, c _ (.ref (σ.length + 1)) h' tk' as' σ' (ext.trans x') ⟨hp.objs.size + 1, x'.get (by simp [← hl]), rfl⟩ R' q⟩
  · rcases r with e | (v | _ | _ | _) <;> exact z
end
end Mine
end
section
set_option maxRecDepth 100000
namespace Mine
open PySem PySem.W PyProof.Rows

def fnBody (p : Program) (i : Nat) : List Stmt := match p.main.body[i]? with
  | some (.FunctionDef _ _ b _ _ _ _ _ _ _) => b
  | _ => []
def fnScope (p : Program) (i : Nat) : Scope := match p.main.body[i]? with
  | some (.FunctionDef _ _ _ _ _ _ s _ _ _) => s
  | _ => p.main.scope
def methBody (p : Program) (i j : Nat) : List Stmt := match p.main.body[i]? with
  | some (.ClassDef _ _ _ b _ _ _ _ _ _ _) => (match b[j]? with
    | some (.FunctionDef _ _ b _ _ _ _ _ _ _) => b
    | _ => [])
  | _ => []
def methScope (p : Program) (i j : Nat) : Scope := match p.main.body[i]? with
  | some (.ClassDef _ _ _ b _ _ _ _ _ _ _) => (match b[j]? with
    | some (.FunctionDef _ _ _ _ _ _ s _ _ _) => s
    | _ => p.main.scope)
  | _ => p.main.scope

theorem ints_rel {as : List Addr} : ∀ {vs : List Value} {ns : List Int}, IntsAre vs ns → VsRel as vs (ns.map AV.int)
  | _, _, .nil => trivial
  | _, _, .cons n t r => ⟨⟨t, rfl⟩, ints_rel r⟩

theorem law_bridge {l : OpenLaw} {w : World} {p : Program} {loose : List Str} {mean : ExcName → Option Value} {mg mb : Str → Option Value} {s₁ : Shared} {cl : Str → Option Addr} {mean' : ExcName → Option Value} {args : List WData} {fa ad : Addr} {vs : List Value} {ns : List Int}
    (T : Top p loose mean mg mb s₁.heap) (hL : s₁.heap.IsList ad vs.toArray) (hI : IntsAre vs ns) (hg : s₁.gens = #[])
    (h : TCode ⟨l.prog, w, s₁.heap, mg, mb, T.g, T.b, T.builtins, T.nolimit⟩ 20 (.stat (.ref fa)) [.ref 0] (fun v _ => v = .bool true) [.ints ns]) :
    wpAny (model l.row.prog w) callerA (call (.ref fa) [.ref ad]) (fun v s' => GoodWG l.row.claim cl mean' args s₁ (.ok (.ret v)) s') (fun e s' => GoodWG l.row.claim cl mean' args s₁ (.error e) s') s₁ := by
  obtain ⟨o, ho, hc, k, hd⟩ := hL
  refine h.call callerA (fun a o => s₁.heap.get? a = some o) [ad] s₁ (.ref fa) [.ref ad] ⟨rfl, by decide, by decide⟩ (fun a o e => e) rfl ⟨⟨ad, rfl, rfl⟩, trivial⟩ ?_ _ _ fun v av h' tk' as' σ' x' r' R' q' => ?_
  · refine ⟨rfl, by simp, fun a o e => e, fun i a ao e1 e2 => ?_⟩
    have hi : i = 0 := by
      cases i with
      | zero => rfl
      | succ i => simp at e1
    subst hi
    have : a = ad := by simpa using e1.symm
    subst this
    have : ao = .ints ns := by simpa using e2.symm
    subst this
    exact ⟨o, ho, ⟨vs, k, hc, hd, ints_rel hI⟩, fun q => (nomatch q), fun _ => ho⟩
  · subst q'
    cases r'
    refine GoodW.toG ⟨.inl ⟨.bool true, .bool true, [], rfl, fun _ => rfl, .bool true, postW_of (r := l.row.toRowW) rfl (w_eq_bool (w_res rfl) w_lit) rfl, fun _ => ⟨.nil, fun _ ha => nomatch ha⟩⟩, fun b o e => R'.keep b o e, rfl, hg⟩
end Mine
end
section
set_option maxRecDepth 100000
namespace Mine
open PySem PySem.W

def Sub (σ σ' : AH) : Prop := ∀ (i : Nat) o, σ[i]? = some o → σ'[i]? = some o
theorem Sub.refl (σ : AH) : Sub σ σ := fun _ _ h => h
theorem Sub.trans {a b c : AH} (x : Sub a b) (y : Sub b c) : Sub a c := fun i o h => y i o (x i o h)
theorem lt_of_get {σ : AH} {i : Nat} {o : AO} (h : σ[i]? = some o) : i < σ.length := (List.getElem?_eq_some_iff.mp h).1
theorem Sub.snoc (σ : AH) (l : AH) : Sub σ (σ ++ l) := fun i o h => by rw [List.getElem?_append_left (lt_of_get h)]; exact h
theorem get_snoc (σ : AH) (o : AO) : (σ ++ [o])[σ.length]? = some o := by simp
theorem Sub.len {σ σ' : AH} (h : Sub σ σ') : σ.length ≤ σ'.length := by
  cases q : σ.length with
  | zero => exact Nat.zero_le _
  | succ k =>
    have : σ[k]? = some σ[k] := by simp
    exact lt_of_get (h k _ this)
def SubX (l : Nat) (σ σ' : AH) : Prop := ∀ (i : Nat) o, i ≠ l → σ[i]? = some o → σ'[i]? = some o
theorem Sub.x {l : Nat} {σ σ' : AH} (h : Sub σ σ') : SubX l σ σ' := fun i o _ e => h i o e
theorem SubX.set {l : Nat} (σ : AH) (o : AO) : SubX l σ (σ.set l o) := fun i o' h e => by rw [List.getElem?_set_ne (Ne.symm h)]; exact e
theorem get_set {σ : AH} {l : Nat} {o o' : AO} (h : σ[l]? = some o) : (σ.set l o')[l]? = some o' := by
  have := lt_of_get h; simp [this]

section
variable {W : Wd} {n : Nat} {sc : Scope} {m : Locs} {σ : AH} {pos : Pos} {Q : AV → AH → Prop}
theorem kA {x : Str} {p : Pos} {v : Value} {args : List Expr} (hm : W.mg x = none) (hb : bootBuiltins x = some v) (hn : x ≠ "__name__") (hg : globOk sc x = true) (hk : Keeps W v) (hs : args.all notStar = true)
    (h : TEs W n sc m args (fun vs σ₁ => TCall W n (.stat v) vs Q σ₁) σ) : TE W n sc m (.Call (.Name x p) args [] pos) Q σ :=
  te_call rfl hs (gZ hm hb hn hg ⟨⟨v, rfl, hk⟩, h⟩)
theorem te_callG {x : Str} {p : Pos} {v : Value} {args : List Expr} (hm : W.mg x = some v) (hg : globOk sc x = true) (hk : Keeps W v) (hs : args.all notStar = true)
    (h : TEs W n sc m args (fun vs σ₁ => TCall W n (.stat v) vs Q σ₁) σ) : TE W n sc m (.Call (.Name x p) args [] pos) Q σ :=
  te_call rfl hs (te_glob hm hg ⟨⟨v, rfl, hk⟩, h⟩)
theorem FnIs.keeps {f : Addr} {ps : List Str} {body : List Stmt} {sc : Scope} (F : FnIs W f ps body sc) : Keeps W (.ref f) := by
  obtain ⟨o, fd, h1, h2, _⟩ := F.ex; exact .fn h1 h2
end
def LE (m m' : Locs) : Prop := ∀ x av, m.lookup x = some av → m'.lookup x = some av
theorem LE.nil {m : Locs} : LE [] m := fun _ _ h => by simp at h
theorem LE.cons {x : Str} {v : AV} {m m' : Locs} (h : m'.lookup x = some v) (r : LE m m') : LE ((x, v) :: m) m' := fun y av q => by
  rw [List.lookup_cons] at q
  cases e : y == x with
  | true => rw [e] at q; cases q; rw [beq_iff_eq.mp e]; exact h
  | false => rw [e] at q; exact r y av q
theorem LE.loc {P : Pr} {env : Env} {m m' : Locs} {as : List Addr} (h : LE m m') (l : Loc P env m' as) : Loc P env m as :=
  ⟨let ⟨oL, mm, a, b, c⟩ := l.loc; ⟨oL, mm, a, b, fun x av q => c x av (h x av q)⟩, fun x av q => l.cel x av (h x av q)⟩
theorem TX.forget {W : Wd} {n : Nat} {sc : Scope} {t : Env → Sem Flow} {Q : AF → Locs → AH → Prop} {m m' : Locs} {σ : AH} (h : LE m m') (x : TX W n sc t Q m σ) : TX W n sc t Q m' σ :=
  fun A env own P O as s r e i o l R => x A env own P O as s r e i o (h.loc l) R
theorem TA.forget {W : Wd} {n : Nat} {sc : Scope} {t : Expr} {v : AV} {Q : Locs → AH → Prop} {m m' : Locs} {σ : AH} (h : LE m m') (x : TA W n sc t v Q m σ) : TA W n sc t v Q m' σ :=
  fun A env own P O as s vv r e i o l R => x A env own P O as s vv r e i o (h.loc l) R
theorem range_up {a b : Int} {len : Nat} (h : b - a = len ∨ (b ≤ a ∧ len = 0)) : Builtin.Range.rangeSize a b 1 = (len : Int) := by
  unfold Builtin.Range.rangeSize
  rw [if_pos (by decide)]
  split
  · rw [Int.ediv_one]; (first|lia|omega)
  · (first|lia|omega)
end Mine
end
section
set_option maxRecDepth 100000
namespace Mine
open PySem PySem.W PyProof.Rows
def fnAt (K : Frag) (f : Addr) : Option FuncData := match K.lookup f with
  | some ⟨_, _, .func fd, _⟩ => some fd
  | _ => none
theorem fn_ofK {W : Wd} {K : Frag} (X : K.In W.H) {f : Addr} {ps : List Str} {body : List Stmt} {sc : Scope} {fd : FuncData} (h1 : fnAt K f = some fd) (h2 : fd.body = .stmts body) (h3 : fd.scope = sc) (h4 : fd.closure = []) (h5 : fd.globals = mainGlobals) (h6 : fd.builtins = builtinsNs) (h7 : codeIn K fd.code fd.qualname = true)
    (h8 : ∀ vals : List Value, vals.length = ps.length → bindArgs fd ⟨vals, []⟩ = pure (ps.zip vals)) (h9 : (sc.kind == .function && !sc.isCoroutine && !sc.isGenerator && decide ps.Nodup && ps.all fun x => storeOk sc x) = true) : FnIs W f ps body sc := by
  simp only [Bool.and_eq_true, Bool.not_eq_true', decide_eq_true_eq] at h9
  obtain ⟨⟨⟨⟨a, b⟩, c⟩, d⟩, e⟩ := h9
  refine ⟨?_, by simpa using a, b, c, d, e⟩
  unfold fnAt at h1
  split at h1
  · rename_i o c' d' fd' s' q
    cases h1
    exact ⟨_, fd, X _ _ q, rfl, h2, h3, h4, h5, h6, codeRec_of X h7, h8⟩
  · cases h1
theorem ar1 {p : List Value → Prop} (h : ∀ a, p [a]) (vals : List Value) (e : vals.length = 1) : p vals := by
  obtain ⟨a, rfl⟩ := List.length_eq_one_iff.mp e; exact h a
theorem ar2 {p : List Value → Prop} (h : ∀ a b, p [a, b]) (vals : List Value) (e : vals.length = 2) : p vals := by
  cases vals with
  | nil => cases e
  | cons a vs => obtain ⟨b, rfl⟩ := List.length_eq_one_iff.mp (Nat.succ.inj e); exact h a b
theorem ar3 {p : List Value → Prop} (h : ∀ a b c, p [a, b, c]) (vals : List Value) (e : vals.length = 3) : p vals := by
  cases vals with
  | nil => cases e
  | cons a vs => exact ar2 (p := fun vs => p (a :: vs)) (h a) vs (Nat.succ.inj e)
end Mine
end
section
set_option maxRecDepth 100000
set_option linter.unusedVariables false
namespace Mine
open PySem

theorem pickL_plain {α : Type} (xs : List α) (lo hi : Option Int) : pickL xs lo hi none = (xs.drop (lo.elim 0 (clipAt xs.length))).take (hi.elim xs.length (clipAt xs.length) - lo.elim 0 (clipAt xs.length)) := by
  unfold pickL
  rw [sliceBounds_plain]
  have := fun a k => pick_run xs.toArray a k
  simp only [List.getElem?_toArray] at this
  simp only [sliceRange_one, this]
theorem pickL_from {α : Type} (xs : List α) (a : Nat) : pickL xs (some (a : Int)) none none = xs.drop a := by
  rw [pickL_plain]
  simp only [Option.elim, clipAt_nat]
  rcases Nat.le_total a xs.length with h | h
  · rw [Nat.min_eq_left h, List.take_of_length_le (by simp)]
  · rw [Nat.min_eq_right h, List.drop_of_length_le (by simp), List.drop_of_length_le (by simpa using h)]; simp
section
variable {W : Wd} {n : Nat} {σ : AH} {Q : AV → AH → Prop}
end

def RowsIn (l : Nat) (σ : AH) : List Nat → List (List Int) → Prop
  | [], [] => True
  | i :: is, r :: rs => (i ≠ l ∧ σ[i]? = some (.list (r.map .int))) ∧ RowsIn l σ is rs
  | _, _ => False
theorem RowsIn.length {l : Nat} {σ : AH} : ∀ {is : List Nat} {rs : List (List Int)}, RowsIn l σ is rs → is.length = rs.length
  | [], [], _ => rfl
  | _ :: _, _ :: _, h => by simp [RowsIn.length h.2]
theorem RowsIn.sub {l : Nat} {σ σ' : AH} (s : SubX l σ σ') : ∀ {is : List Nat} {rs : List (List Int)}, RowsIn l σ is rs → RowsIn l σ' is rs
  | [], [], _ => trivial
  | _ :: _, _ :: _, h => ⟨⟨h.1.1, s _ _ h.1.1 h.1.2⟩, RowsIn.sub s h.2⟩
theorem RowsIn.new {l l' : Nat} {σ : AH} (hl : σ.length ≤ l') : ∀ {is : List Nat} {rs : List (List Int)}, RowsIn l σ is rs → RowsIn l' σ is rs
  | [], [], _ => trivial
  | i :: is, r :: rs, h => ⟨⟨fun e => by have := lt_of_get h.1.2; (first|lia|omega), h.1.2⟩, RowsIn.new hl h.2⟩
theorem RowsIn.append {l : Nat} {σ : AH} : ∀ {is js : List Nat} {rs qs : List (List Int)}, RowsIn l σ is rs → RowsIn l σ js qs → RowsIn l σ (is ++ js) (rs ++ qs)
  | [], _, [], _, _, h => h
  | [], _, _ :: _, _, h, _ => h.elim
  | _ :: _, _, [], _, h, _ => h.elim
  | _ :: _, _, _ :: _, _, h, h' => ⟨h.1, RowsIn.append h.2 h'⟩
theorem RowsIn.geti {l : Nat} {σ : AH} : ∀ {is : List Nat} {rs : List (List Int)}, RowsIn l σ is rs → ∀ {j i : Nat}, is[j]? = some i → ∃ r, rs[j]? = some r ∧ i ≠ l ∧ σ[i]? = some (.list (r.map .int))
  | [], [], _, _, _, e => by simp at e
  | i :: is, r :: rs, h, 0, _, e => ⟨r, rfl, by cases e; exact h.1⟩
  | i :: is, r :: rs, h, j + 1, _, e => RowsIn.geti h.2 (j := j) (by simpa using e)
end Mine
end
section
set_option maxRecDepth 100000
set_option linter.unusedVariables false
namespace Mine
open PySem

abbrev cutQ (R : Locs → AH → Prop) (Q : AF → Locs → AH → Prop) : AF → Locs → AH → Prop
  | .next => R
  | .brk => Q .brk
  | .cont => Q .cont
  | .ret v => Q (.ret v)
theorem RowsIn.one {l i : Nat} {σ : AH} {r : List Int} (h : i ≠ l) (e : σ[i]? = some (.list (r.map .int))) : RowsIn l σ [i] [r] := ⟨⟨h, e⟩, trivial⟩
section
variable {W : Wd} {n : Nat} {sc : Scope} {m : Locs} {σ : AH} {pos : Pos}
theorem ts_cut {st : Stmt} {rest : List Stmt} {Q : AF → Locs → AH → Prop} (R : Locs → AH → Prop) (h : TS W n sc st (cutQ R Q) m σ) (k : ∀ m' σ', R m' σ' → TSs W n sc rest Q m' σ') : TSs W n sc (st :: rest) Q m σ :=
  kW (h.mono fun f m' σ' q => by cases f <;> first | exact k _ _ q | exact q)
theorem tifs_nil {QB : Bool → AH → Prop} (h : QB true σ) : TIfs W n sc m [] QB σ := h
theorem tifs_cons {c : Expr} {cs : List Expr} {QB : Bool → AH → Prop} (h : TT W n sc m c (fun b σ₁ => if b then TIfs W n sc m cs QB σ₁ else QB false σ₁) σ) : TIfs W n sc m (c :: cs) QB σ := h
theorem pyIdx_nat {len : Nat} {k : Int} {j : Nat} (hk : k = (j : Int)) (hj : j < len) : pyIdx len k = some j := by
  subst hk; unfold pyIdx; rw [if_pos (by (first|lia|omega)), if_pos (by (first|lia|omega))]; simp
variable {Q : AV → AH → Prop}
theorem tidx_nums {value slice : Expr} {l : Nat} {zs : List Int} {k : Int} {j : Nat} (hns : notSlice slice = true) (hl : σ[l]? = some (.list (zs.map .int))) (hk : k = (j : Int)) (hj : j < zs.length) (hz : j < 2 ^ 62) (h : Q (.int zs[j]) σ) : TIdx W n value slice (.ref l) (.int k) Q σ :=
  tidx_list hns hl (pyIdx_nat hk (by simpa using hj)) (x := .int zs[j]) (by simp [hj]) (by (first|lia|omega)) h
abbrev intQ (QO : Option Int → AH → Prop) : AV → AH → Prop
  | .int k, σ => QO (some k) σ
  | _, _ => False
theorem kO {QO : Option Int → AH → Prop} (h : QO none σ) : TOpt W n sc m none QO σ := h
theorem kP {e : Expr} {QO : Option Int → AH → Prop} (h : TE W n sc m e (intQ QO) σ) : TOpt W n sc m (some e) QO σ :=
  TE.mono h fun v σ q => by cases v <;> first | exact ⟨_, rfl, q⟩ | exact q.elim
theorem fmod_nat (a : Int) (b : Nat) (hb : 0 < b) : ∃ k : Nat, a.fmod (b : Int) = k ∧ k < b := by
  refine ⟨(a.fmod b).toNat, ?_, ?_⟩
  all_goals
    rw [Int.fmod_eq_emod_of_nonneg _ (by (first|lia|omega))]
    have h1 := Int.emod_nonneg a (b := (b : Int)) (by (first|lia|omega))
    have h2 := Int.emod_lt_of_pos a (b := (b : Int)) (by (first|lia|omega))
    (first|lia|omega)
end
end Mine
end
section
set_option maxRecDepth 100000
set_option linter.unusedVariables false
namespace Mine
open PySem PySem.W

def attrOk (K : Frag) (C : Addr) (a : Str) : Bool := (match takerIn K C a with | some none => true | _ => false) && plainGet K C a && (match findIn K (.ref C) a with | some none => true | _ => false)
structure ClsIs (W : Wd) (K : Frag) (C : Addr) (attrs : List Str) : Prop where
  X : K.In W.H
  keep : keepIn K (.ref C) = true
  makes : makesIn K C = true
  hasD : hasDictIn K C = true
  over : plainOver K C = true
  seta : findIn K (.ref C) "__setattr__" = some (some (.builtin "object.__setattr__"))
  ats : (attrs.all fun a => attrOk K C a) = true
structure MethIs (W : Wd) (K : Frag) (C : Addr) (name : Str) (f : Addr) (ps : List Str) (body : List Stmt) (sc : Scope) : Prop where
  find : findIn K (.ref C) name = some (some (.ref f))
  get : plainGet K C name = true
  ty : typeIn K (.ref f) = some (.type "function")
  fn : FnIs W f ps body sc
theorem ClsIs.at {W : Wd} {K : Frag} {C : Addr} {attrs : List Str} (c : ClsIs W K C attrs) {a : Str} (h : attrs.contains a = true) : takerIn K C a = some none ∧ plainGet K C a = true ∧ findIn K (.ref C) a = some none := by
  have := List.all_eq_true.mp c.ats a (by simpa using h)
  unfold attrOk at this
  rw [Bool.and_eq_true, Bool.and_eq_true] at this
  refine ⟨?_, this.1.2, ?_⟩
  · have h1 := this.1.1
    split at h1
    · assumption
    · cases h1
  · have h1 := this.2
    split at h1
    · assumption
    · cases h1
section
variable {W : Wd} {K : Frag} {C : Addr} {attrs : List Str} {n : Nat} {sc : Scope} {m : Locs} {σ : AH} {pos : Pos} {Q : AV → AH → Prop}
theorem ClsIs.keeps (c : ClsIs W K C attrs) : Keeps W (.ref C) := .cls c.X c.keep
theorem ClsIs.get (c : ClsIs W K C attrs) {i d : Nat} {fs : List (Str × AV)} {attr : Str} {v : AV} (hi : σ[i]? = some (.inst C d)) (hd : σ[d]? = some (.dict fs)) (ha : attrs.contains attr = true) (hf : fs.lookup attr = some v) (hh : avHanded v = true) (h : Q v σ) : TGetA W n (.ref i) attr Q σ :=
  tgeta c.X hi hd hf hh (c.at ha).2.1 c.hasD (c.at ha).2.2 h
theorem ClsIs.set (c : ClsIs W K C attrs) {i d : Nat} {fs : List (Str × AV)} {attr : Str} {v : AV} {QH : AH → Prop} (hi : σ[i]? = some (.inst C d)) (hd : σ[d]? = some (.dict fs)) (ha : attrs.contains attr = true) (hl : fs.length < 1000) {fs' : List (Str × AV)} (he : setL attr v fs = fs') (h : QH (σ.set d (.dict fs'))) : TSetA W n (.ref i) attr v QH σ :=
  tseta c.X hi hd hl c.seta c.over (c.at ha).1 c.hasD (he ▸ h)
theorem ClsIs.meth (c : ClsIs W K C attrs) {i d : Nat} {fs : List (Str × AV)} {name : Str} {f : Addr} {ps : List Str} {body : List Stmt} {sc' : Scope} {QM : AV → List AV → AH → Prop} (M : MethIs W K C name f ps body sc') (hi : σ[i]? = some (.inst C d)) (hd : σ[d]? = some (.dict fs)) (hf : fs.lookup name = none) (h : QM (.stat (.ref f)) [.ref i] σ) : TMeth W n (.ref i) name QM σ :=
  tmeth_inst c.X hi hd hf M.get M.find M.ty M.fn.keeps h
theorem ClsIs.make (c : ClsIs W K C attrs) {f : Addr} {ps : List Str} {body : List Stmt} {sc' : Scope} {args : List AV} (M : MethIs W K C "__init__" f ps body sc')
    (h : TCode W n (.stat (.ref f)) (.ref (σ.length + 1) :: args) (fun v σ₁ => v = .none ∧ Q (.ref (σ.length + 1)) σ₁) (σ ++ [.dict [], .inst C σ.length])) : TCall W (n + 1) (.stat (.ref C)) args Q σ :=
  tcall_class c.X c.makes M.find M.ty h
end

def Fx (S : List Nat) (σ σ' : AH) : Prop := ∀ i o, i ∉ S → σ[i]? = some o → σ'[i]? = some o
theorem Fx.refl (S : List Nat) (σ : AH) : Fx S σ σ := fun _ _ _ e => e
theorem Fx.trans {S : List Nat} {a b c : AH} (x : Fx S a b) (y : Fx S b c) : Fx S a c := fun i o h e => y i o h (x i o h e)
theorem Fx.of {S : List Nat} {a b : AH} (x : Sub a b) : Fx S a b := fun i o _ e => x i o e
theorem Fx.set {S : List Nat} {σ : AH} {l : Nat} {o : AO} (h : l ∈ S) : Fx S σ (σ.set l o) := fun i o' hi e => by
  rw [List.getElem?_set_ne (show l ≠ i from fun q => hi (q ▸ h))]; exact e
theorem Fx.up {S T : List Nat} {σ σ' : AH} (x : Fx S σ σ') (h : ∀ i ∈ S, i ∈ T) : Fx T σ σ' := fun i o hi e => x i o (fun q => hi (h i q)) e
theorem set_len (σ : AH) (l : Nat) (o : AO) : (σ.set l o).length = σ.length := List.length_set ..
theorem get_ne {σ : AH} {l i : Nat} {o o' : AO} (h : i ≠ l) (e : σ[i]? = some o') : (σ.set l o)[i]? = some o' := by rw [List.getElem?_set_ne (Ne.symm h)]; exact e
theorem ne_of_obj {σ : AH} {i j : Nat} {o o' : AO} (h : σ[i]? = some o) (h' : σ[j]? = some o') (hn : o ≠ o') : i ≠ j := fun e => hn (by rw [e, h'] at h; exact (Option.some.inj h).symm)

structure TrP where
  t : Nat
  d : Nat
  w : Nat
  o : Nat
  k : Nat
abbrev trFs (n : Int) (p : TrP) : List (Str × AV) := [("n", .int n), ("worths", .ref p.w), ("order", .ref p.o), ("marks", .ref p.k)]
structure TrAt (C : Addr) (p : TrP) (n : Int) (ws od mk : List Int) (σ : AH) : Prop where
  t : σ[p.t]? = some (.inst C p.d)
  d : σ[p.d]? = some (.dict (trFs n p))
  w : σ[p.w]? = some (.list (ws.map .int))
  o : σ[p.o]? = some (.list (od.map .int))
  k : σ[p.k]? = some (.list (mk.map .int))
  wo : p.w ≠ p.o
  wk : p.w ≠ p.k
  ok : p.o ≠ p.k
abbrev TrP.S (p : TrP) : List Nat := [p.w, p.o, p.k]
theorem TrAt.fx {C : Addr} {p : TrP} {n : Int} {ws od mk : List Int} {σ σ' : AH} {S : List Nat} (h : TrAt C p n ws od mk σ) (x : Fx S σ σ') (ht : p.t ∉ S) (hd : p.d ∉ S) (hw : p.w ∉ S) (ho : p.o ∉ S) (hk : p.k ∉ S) : TrAt C p n ws od mk σ' :=
  ⟨x _ _ ht h.t, x _ _ hd h.d, x _ _ hw h.w, x _ _ ho h.o, x _ _ hk h.k, h.wo, h.wk, h.ok⟩
theorem TrAt.sub {C : Addr} {p : TrP} {n : Int} {ws od mk : List Int} {σ σ' : AH} (h : TrAt C p n ws od mk σ) (x : Sub σ σ') : TrAt C p n ws od mk σ' :=
  ⟨x _ _ h.t, x _ _ h.d, x _ _ h.w, x _ _ h.o, x _ _ h.k, h.wo, h.wk, h.ok⟩
theorem TrAt.setW {C : Addr} {p : TrP} {n : Int} {ws od mk ws' : List Int} {σ : AH} (h : TrAt C p n ws od mk σ) : TrAt C p n ws' od mk (σ.set p.w (.list (ws'.map .int))) :=
  ⟨get_ne (ne_of_obj h.t h.w (by simp)) h.t, get_ne (ne_of_obj h.d h.w (by simp)) h.d, get_set h.w, get_ne (Ne.symm h.wo) h.o, get_ne (Ne.symm h.wk) h.k, h.wo, h.wk, h.ok⟩
theorem TrAt.setO {C : Addr} {p : TrP} {n : Int} {ws od mk od' : List Int} {σ : AH} (h : TrAt C p n ws od mk σ) : TrAt C p n ws od' mk (σ.set p.o (.list (od'.map .int))) :=
  ⟨get_ne (ne_of_obj h.t h.o (by simp)) h.t, get_ne (ne_of_obj h.d h.o (by simp)) h.d, get_ne h.wo h.w, get_set h.o, get_ne (Ne.symm h.ok) h.k, h.wo, h.wk, h.ok⟩
theorem TrAt.setK {C : Addr} {p : TrP} {n : Int} {ws od mk mk' : List Int} {σ : AH} (h : TrAt C p n ws od mk σ) : TrAt C p n ws od mk' (σ.set p.k (.list (mk'.map .int))) :=
  ⟨get_ne (ne_of_obj h.t h.k (by simp)) h.t, get_ne (ne_of_obj h.d h.k (by simp)) h.d, get_ne h.wk h.w, get_ne h.ok h.o, get_set h.k, h.wo, h.wk, h.ok⟩
theorem Fx.setW (p : TrP) {σ : AH} {o : AO} : Fx p.S σ (σ.set p.w o) := Fx.set (by simp)
theorem Fx.setO (p : TrP) {σ : AH} {o : AO} : Fx p.S σ (σ.set p.o o) := Fx.set (by simp)
theorem Fx.setK (p : TrP) {σ : AH} {o : AO} : Fx p.S σ (σ.set p.k o) := Fx.set (by simp)

def wv (ws : List Int) (lit : Int) : Int := if 0 < lit then (ws[lit.toNat]?).getD 0 else -((ws[(-lit).toNat]?).getD 0)
def wset (ws : List Int) (lit : Int) : List Int := if 0 < lit then ws.set lit.toNat 1 else ws.set (-lit).toNat (-1)
def inR (n : Nat) (lit : Int) : Prop := -(n : Int) ≤ lit ∧ lit ≤ n
def wipe (ws : List Int) (lits : List Int) : List Int := lits.foldl (fun ws lit => ws.set (if lit < 0 then -lit else lit).toNat 0) ws
theorem wset_len (ws : List Int) (lit : Int) : (wset ws lit).length = ws.length := by unfold wset; split <;> simp
theorem wipe_len (lits : List Int) : ∀ ws : List Int, (wipe ws lits).length = ws.length := by
  induction lits with
  | nil => intro ws; rfl
  | cons l ls ih => intro ws; exact (ih _).trans (by simp)
theorem cutEnd {α : Type} (xs : List α) (k : Nat) (h : k ≤ xs.length) : xs.take (sliceBounds (some (k : Int)) none none xs.length).1.toNat ++ xs.drop (max (sliceBounds (some (k : Int)) none none xs.length).1.toNat (sliceBounds (some (k : Int)) none none xs.length).2.1.toNat) = xs.take k := by
  rw [sliceBounds_plain]
  simp only [Option.elim, clipAt_nat]
  rw [Nat.min_eq_left h, Int.toNat_natCast, Int.toNat_natCast, Nat.max_eq_right h]; simp
theorem cutLast {α : Type} (xs : List α) (k : Nat) (hk : 1 ≤ k) (h : k ≤ xs.length) : xs.take (sliceBounds (some (-(k : Int))) none none xs.length).1.toNat ++ xs.drop (max (sliceBounds (some (-(k : Int))) none none xs.length).1.toNat (sliceBounds (some (-(k : Int))) none none xs.length).2.1.toNat) = xs.take (xs.length - k) := by
  rw [sliceBounds_plain]
  simp only [Option.elim, clipAt_neg _ _ hk]
  rw [Int.toNat_natCast, Int.toNat_natCast, Nat.max_eq_right (by (first|lia|omega))]; simp
end Mine
end
section
set_option maxRecDepth 100000
set_option linter.unusedVariables false
namespace Mine
open PySem PySem.W
section
variable {W : Wd} {n : Nat} {sc : Scope} {m : Locs} {σ : AH} {pos : Pos} {Q : AV → AH → Prop} {QS : AF → Locs → AH → Prop}
def notTup : Expr → Bool
  | .Tuple .. => false
  | _ => true
theorem kT {ts : List Expr} {k : Nat} {tpos : Pos} {e : Expr} (hs : notComp e = true) (ht : notTup e = true) (h : TE W n sc m e (fun v σ₁ => TA W n sc (.Tuple ts k tpos) v (fun m' σ' => QS .next m' σ') m σ₁) σ) : TS W n sc (.Assign [.Tuple ts k tpos] e pos) QS m σ := by
  intro A env own P O as s hr he hi ow hl R Qc E c
  refine PyProof.Rows.Assign_Tuple (h A env (P.or O) as s hr he hi.or hl R _ E fun v av h₁ tk₁ as₁ σ₁ x₁ r₁ R₁ q₁ => ?_) (swaps_not hs (some (.Tuple ts k tpos)) pos.line env) ?_
  · exact q₁ A env own P O as₁ _ v hr he hi ow (hl.ext x₁) R₁ r₁ _ E fun h₂ tk₂ as₂ σ₂ m₂ O₂ x₂ ow₂ l₂ R₂ q₂ => c .next .next h₂ tk₂ as₂ σ₂ m₂ O₂ (x₁.trans x₂) rfl ow₂ l₂ R₂ q₂
  · cases e <;> first | rfl | (cases ht; done)
theorem gH {QA : Locs → AH → Prop} (h : QA m σ) : TAs W n sc [] [] QA m σ := h
theorem gG {t : Expr} {ts : List Expr} {v : AV} {vs : List AV} {QA : Locs → AH → Prop} (h : TA W n sc t v (fun m' σ' => TAs W n sc ts vs QA m' σ') m σ) : TAs W n sc (t :: ts) (v :: vs) QA m σ := h
theorem tbin_pow2 {b : Int} {k : Nat} (hb : b = (k : Int)) (hk : k ≤ 1000) (h : Q (.int (2 ^ k)) σ) : TBin W n .Pow (.int 2) (.int b) Q σ := by
  subst hb
  cases k with
  | zero => exact tbin_of (z := 1) h fun _ _ _ _ _ _ _ q => AutoIntOps.pow_0 (by decide) rfl q
  | succ k =>
    refine tbin_of (z := 2 ^ (k + 1)) h fun _ _ _ _ _ _ _ q => AutoIntOps.pow_4 (by (first|lia|omega)) (by simp; (first|lia|omega)) (by decide) (by decide) ?_ ?_
    · have e : Builtin.Int.intBits 2 = 2 := rfl
      rw [e]
      unfold Builtin.Int.intTooBig bitsLine
      simp; (first|lia|omega)
    · rw [Int.toNat_natCast]; exact q
end
end Mine
end
section
set_option maxRecDepth 100000
set_option linter.unusedVariables false
namespace Mine
open PySem PySem.W
theorem tcmp_eqS {W : Wd} {n : Nat} {σ : AH} {Q : AV → AH → Prop} {x y : Str} (hx : PyData.strOk x = true) (hy : PyData.strOk y = true) (h : Q (.bool (x == y)) σ) : TCmp W n .Eq (.str x) (.str y) Q σ :=
  tcmp_eqD (.str x) (.str y) (by rw [PyData.canLay0]; exact hx) (by rw [PyData.canLay0]; exact hy) (by rw [PyData.depth]; decide) (by rw [PyData.eqv]; exact h)
theorem Fx.fresh {S : List Nat} {σ σ₁ σ₂ : AH} (x : Sub σ σ₁) (y : Fx S σ₁ σ₂) (h : ∀ i ∈ S, σ.length ≤ i) : Sub σ σ₂ :=
  fun i o e => y i o (fun q => by have := h i q; have := lt_of_get e; (first|lia|omega)) (x i o e)
def SnapAt (σ : AH) (b : Nat) (ws od mk : List Int) : Prop := σ[b]? = some (.list (ws.map .int)) ∧ σ[b + 1]? = some (.list (od.map .int)) ∧ σ[b + 2]? = some (.list (mk.map .int)) ∧ σ[b + 3]? = some (.tuple [.ref b, .ref (b + 1), .ref (b + 2)])
theorem snap_new (σ : AH) (ws od mk : List Int) {σ' : AH} (e : σ' = σ ++ [.list (ws.map .int)] ++ [.list (od.map .int)] ++ [.list (mk.map .int)] ++ [.tuple [.ref σ.length, .ref (σ.length + 1), .ref (σ.length + 2)]]) : SnapAt σ' σ.length ws od mk ∧ Sub σ σ' := by
  subst e
  exact ⟨⟨by simp, by simp, by simp, by simp⟩, ((((Sub.refl _).trans (Sub.snoc _ _)).trans (Sub.snoc _ _)).trans (Sub.snoc _ _)).trans (Sub.snoc _ _)⟩

def sg (lit : Int) : Int := if 0 < lit then 1 else -1
theorem sg_ne (lit : Int) : sg lit ≠ 0 := by unfold sg; split <;> decide
theorem wset_eq (ws : List Int) (lit : Int) : wset ws lit = ws.set lit.natAbs (sg lit) := by
  unfold wset sg
  split
  · rw [show lit.toNat = lit.natAbs by (first|lia|omega)]
  · rw [show (-lit).toNat = lit.natAbs by (first|lia|omega)]
theorem wv_eq (ws : List Int) (lit : Int) : wv ws lit = sg lit * (ws[lit.natAbs]?).getD 0 := by
  unfold wv sg
  split
  · rw [show lit.toNat = lit.natAbs by (first|lia|omega)]; (first|lia|omega)
  · rw [show (-lit).toNat = lit.natAbs by (first|lia|omega)]; (first|lia|omega)
theorem wipe_cons (ws : List Int) (l : Int) (ls : List Int) : wipe ws (l :: ls) = wipe (ws.set l.natAbs 0) ls := by
  unfold wipe
  rw [List.foldl_cons, show (if l < 0 then -l else l).toNat = l.natAbs by split <;> (first|lia|omega)]
def wsets (ws : List Int) (lits : List Int) : List Int := lits.foldl wset ws
theorem wsets_len (lits : List Int) : ∀ ws : List Int, (wsets ws lits).length = ws.length := by
  induction lits with
  | nil => intro ws; rfl
  | cons l ls ih => intro ws; exact (ih _).trans (wset_len ws l)
theorem wsets_snoc (ws lits : List Int) (l : Int) : wsets ws (lits ++ [l]) = wset (wsets ws lits) l := by unfold wsets; rw [List.foldl_append]; rfl
theorem wsets_append (ws lits ls : List Int) : wsets ws (lits ++ ls) = wsets (wsets ws lits) ls := by unfold wsets; rw [List.foldl_append]
theorem wipe_get {v : Nat} : ∀ (lits ws : List Int), v < ws.length → (wipe ws lits)[v]? = if v ∈ lits.map Int.natAbs then some 0 else ws[v]?
  | [], ws, h => by simp [wipe]
  | l :: ls, ws, h => by
    rw [wipe_cons, wipe_get ls _ (by simpa using h)]
    by_cases h1 : v ∈ ls.map Int.natAbs
    · rw [if_pos h1, if_pos (by rw [List.map_cons]; exact .tail _ h1)]
    · rw [if_neg h1]
      by_cases h2 : v = l.natAbs
      · subst h2; rw [if_pos (by rw [List.map_cons]; exact .head _), List.getElem?_set_self h]
      · rw [if_neg (by rw [List.map_cons, List.mem_cons]; exact fun q => q.elim h2 h1), List.getElem?_set_ne (Ne.symm h2)]
theorem wsets_not {v : Nat} : ∀ (lits ws : List Int), v ∉ lits.map Int.natAbs → (wsets ws lits)[v]? = ws[v]?
  | [], ws, _ => rfl
  | l :: ls, ws, h => by
    rw [List.map_cons, List.mem_cons, not_or] at h
    show (wsets (wset ws l) ls)[v]? = _
    rw [wsets_not ls _ h.2, wset_eq, List.getElem?_set_ne (Ne.symm h.1)]
theorem wsets_in {v : Nat} : ∀ (lits ws : List Int), v ∈ lits.map Int.natAbs → v < ws.length → ∃ l ∈ lits, l.natAbs = v ∧ (wsets ws lits)[v]? = some (sg l)
  | l :: ls, ws, h, hv => by
    by_cases h1 : v ∈ ls.map Int.natAbs
    · obtain ⟨l', a, b⟩ := wsets_in ls (wset ws l) h1 (by rw [wset_len]; exact hv)
      exact ⟨l', .tail _ a, b⟩
    · rw [List.map_cons, List.mem_cons] at h
      have h2 : v = l.natAbs := h.resolve_right h1
      refine ⟨l, .head _, h2.symm, ?_⟩
      show (wsets (wset ws l) ls)[v]? = _
      rw [wsets_not ls _ h1, wset_eq, h2, List.getElem?_set_self (by rw [← h2]; exact hv)]
end Mine
end
section
set_option maxRecDepth 100000
set_option linter.unusedVariables false
namespace Mine
open PySem PySem.W
theorem swaps_attr (e o : Expr) (attr : Str) (p : Pos) (l : Nat) (env : Env) : swapsWith e (some (.Attribute o attr p)) l env = pure false := by
  cases e <;> rfl
section
variable {W : Wd} {n : Nat} {sc : Scope} {m : Locs} {σ : AH} {pos : Pos} {QS : AF → Locs → AH → Prop}
theorem ts_assign_attrC {o e : Expr} {attr : Str} {p : Pos} (h : TE W n sc m e (fun v σ₁ => TE W n sc m o (fun ov σ₂ => TSetA W n ov attr v (fun σ₃ => QS .next m σ₃) σ₂) σ₁) σ) : TS W n sc (.Assign [.Attribute o attr p] e pos) QS m σ := by
  intro A env own P O as s hr he hi ow hl R Qc E c
  refine plainObj_wpAny_Assign_Attribute (h A env (P.or O) as s hr he hi.or hl R _ E fun v av h₁ tk₁ as₁ σ₁ x₁ r₁ R₁ q₁ => ?_) (swaps_attr _ _ _ _ _ _)
  refine q₁ A env (P.or O) as₁ _ hr he hi.or (hl.ext x₁) R₁ _ E fun vo ao h₂ tk₂ as₂ σ₂ x₂ r₂ R₂ q₂ => ?_
  refine q₂ A (P.or O) as₂ _ vo v hr hi.or r₂ (r₁.ext x₂) R₂ _ E fun h₄ tk₄ as₄ σ₄ x₄ R₄ q₄ => ?_
  have xx := (x₁.trans x₂).trans x₄
  exact c .next .next h₄ tk₄ as₄ σ₄ m O xx rfl ow (hl.ext xx) R₄ q₄
end
def mkl (mk : List Nat) : List Int := mk.map fun (k : Nat) => (k : Int)
theorem mkl_snoc (mk : List Nat) (j : Nat) : mkl (mk ++ [j]) = mkl mk ++ [(j : Int)] := by simp [mkl]
structure RowsP (σ : AH) (l : Nat) (is : List Nat) (rs : List (List Int)) : Prop where
  g : σ[l]? = some (.list (is.map .ref))
  r : RowsIn l σ is rs
theorem RowsIn.fx {S : List Nat} {l : Nat} {σ σ' : AH} (x : Fx S σ σ') : ∀ {is : List Nat} {rs : List (List Int)}, RowsIn l σ is rs → (∀ i ∈ is, i ∉ S) → RowsIn l σ' is rs
  | [], [], _, _ => trivial
  | _ :: _, _ :: _, h, hs => ⟨⟨h.1.1, x _ _ (hs _ (.head _)) h.1.2⟩, RowsIn.fx x h.2 fun i hi => hs i (.tail _ hi)⟩
theorem RowsP.fx {S : List Nat} {σ σ' : AH} {l : Nat} {is : List Nat} {rs : List (List Int)} (h : RowsP σ l is rs) (x : Fx S σ σ') (hl : l ∉ S) (hs : ∀ i ∈ is, i ∉ S) : RowsP σ' l is rs := ⟨x _ _ hl h.g, h.r.fx x hs⟩
theorem RowsP.sub {σ σ' : AH} {l : Nat} {is : List Nat} {rs : List (List Int)} (h : RowsP σ l is rs) (x : Sub σ σ') : RowsP σ' l is rs := ⟨x _ _ h.g, h.r.sub x.x⟩
theorem RowsIn.lt {l : Nat} {σ : AH} : ∀ {is : List Nat} {rs : List (List Int)}, RowsIn l σ is rs → ∀ i ∈ is, i < σ.length
  | [], _, _, _, hi => by simp at hi
  | _ :: _, _ :: _, h, i, hi => by
    rcases List.mem_cons.mp hi with rfl | hi
    · exact lt_of_get h.1.2
    · exact RowsIn.lt h.2 i hi
end Mine
end
section
set_option maxRecDepth 100000
set_option linter.unusedVariables false
namespace Mine
open PySem PySem.W
section
variable {W : Wd} {n : Nat} {sc : Scope} {m : Locs} {σ : AH} {pos : Pos} {Q : AV → AH → Prop} {QS : AF → Locs → AH → Prop}
theorem list_noInp : fillsInplaceSlot (.type "list") "add" (Operator.Add == .Add) = pure false := by
  unfold fillsInplaceSlot
  show (typeLookup (.type "list") (dunderI "add") >>= fun fi => pure (fi.isSome && !isSeqSlot fi)) = pure false
  rw [F.slot_list_iadd.lookup]
  show (pure ((some (Value.builtin "list.__iadd__")).isSome && !isSeqSlot (some (Value.builtin "list.__iadd__"))) : Sem Bool) = pure false
  congr 1
theorem list_seqI : seqSlot? (.type "list") (dunderI "add") = pure (some (.builtin "list.__iadd__")) := seqSlot_of F.slot_list_iadd.lookup (by decide +kernel)
theorem tinp_addL {l r : Nat} {xs ys : List AV} (hl : σ[l]? = some (.list xs)) (hr' : σ[r]? = some (.list ys)) (hz : xs.length + ys.length ≤ 1000000) (h : Q (.ref l) (σ.set l (.list (xs ++ ys)))) : TInp W n .Add (.ref l) (.ref r) Q σ := by
  intro A P as s va vb hr hi h1 h2 R Qc E c
  obtain ⟨a, o, rfl, e1, e2, r1⟩ := R.ref h1 hl
  obtain ⟨b, o2, rfl, f1, f2, r2⟩ := R.ref h2 hr'
  obtain ⟨vs, n1, rfl, hv⟩ := r1
  obtain ⟨us, n2, rfl, hu⟩ := r2
  have ha : s.TypeIs (.ref a) "list" := ⟨_, e2, rfl⟩
  have hb : s.TypeIs (.ref b) "list" := ⟨_, f2, rfl⟩
  have hvl := hv.length
  have hul := hu.length
  unfold inplaceOp
  refine wpAny_holding ?_
  refine wpAny_bind (wpAny_typeOf ha (wpAny_bind (wpAny_of_eq list_noInp ?_)))
  show wpAny _ A (if false = true then _ else _) _ E s
  rw [if_neg Bool.false_ne_true]
  refine wpAny_bind (PyProof.Rows.binaryOp1_none (nm := "add") ha hb noFill_list_add ?_)
  refine wpAny_bind (wpAny_of_eq list_seqI ?_)
  refine wpAny_bind (wpAny_rule ?_)
  refine call_meets F.slot_list_iadd ha F.entry_list_iadd (F.args_list_iadd_2 _ _) (AutoSeq1.list___iadd___list_list_0 a vs.toArray n1 b us.toArray n2 ?_ ?_ ?_) ⟨e2, f2, ?_⟩
  · unfold Builtin.List.listTooLong
    rw [sizeLine_eq]; simp; (first|lia|omega)
  · rw [sizeLine_eq]; simp; (first|lia|omega)
  · rw [sizeLine_eq]; simp; (first|lia|omega)
  · have hget := Heap.get?_update_self (h := s.heap) (Obj.mapSeq fun x => x ++ us.toArray) e2 rfl
    exact c (.ref a) (.ref l) _ s.toks as _ (Ext.refl _) ⟨a, e1, rfl⟩ (R.set (ao' := .list (xs ++ ys)) e1 hl rfl rfl (Heap.SameBut.update ..) hget ⟨vs ++ us, _, by simp [Obj.mapSeq]; rfl, hv.append hu⟩) h
end
end Mine
end
section
set_option maxRecDepth 100000
set_option linter.unusedVariables false
namespace Mine
inductive CS where
  | tru
  | fls
  | opn
  | unit (l : Int)
def csS : CS → PySem.Str
  | .tru => "true"
  | .fls => "false"
  | .opn => "open"
  | .unit _ => "unit"
theorem cs_ok (c : CS) : PySem.PyData.strOk (csS c) = true := by
  cases c with
  | unit l => show PySem.PyData.strOk "unit" = true; decide +kernel
  | _ => decide +kernel
theorem ok_false : PySem.PyData.strOk "false" = true := by decide +kernel
theorem ok_unit : PySem.PyData.strOk "unit" = true := by decide +kernel
def csF : CS → Bool
  | .fls => true
  | _ => false
def csU : CS → Bool
  | .unit _ => true
  | _ => false
theorem cs_false (c : CS) : (csS c == ("false" : PySem.Str)) = csF c := by
  cases c with
  | unit l => show (("unit" : PySem.Str) == "false") = false; decide +kernel
  | _ => decide +kernel
theorem cs_unit (c : CS) : (csS c == ("unit" : PySem.Str)) = csU c := by
  cases c with
  | unit l => show (("unit" : PySem.Str) == "unit") = true; decide +kernel
  | _ => decide +kernel
def csI : CS → Int
  | .unit l => l
  | _ => 0
def unsetOf (c ws : List Int) : List Int := c.filter fun l => wv ws l == 0
def cstate (c ws : List Int) : CS :=
  if c.any (fun l => wv ws l == 1) then .tru else
  match unsetOf c ws with
  | [] => .fls
  | x :: xs => if (x :: xs).all (· == x) then .unit x else .opn
def passM : List (List Int) → List Int → List Int → Bool → Bool × List Int × List Int × Bool
  | [], ws, od, mv => (true, ws, od, mv)
  | c :: cs, ws, od, mv => match cstate c ws with
    | .fls => (false, ws, od, mv)
    | .unit l => passM cs (wset ws l) (od ++ [l]) true
    | _ => passM cs ws od mv
def propM (cs : List (List Int)) : Nat → List Int → List Int → Bool × List Int × List Int
  | 0, ws, od => (true, ws, od)
  | k + 1, ws, od => match passM cs ws od false with
    | (false, ws', od', _) => (false, ws', od')
    | (true, ws', od', mv) => if mv then propM cs k ws' od' else (true, ws', od')
def ffree (ws : List Int) : Nat → Nat → Nat
  | _, 0 => 0
  | v, k + 1 => if (ws[v]?).getD 0 = 0 then v else ffree ws (v + 1) k
structure St where
  ws : List Int
  od : List Int
  ms : List Nat
  pf : List (List Int)
def decs (od : List Int) (mk : List Nat) : List Int := mk.map fun k => (od[k]?).getD 0
inductive Turn where
  | unsat (s : St)
  | sat (s : St)
  | go (s : St)
def turnM (n : Nat) (cs : List (List Int)) (s : St) : Turn :=
  match propM cs (n + 1) s.ws s.od with
  | (false, ws, od) =>
    let pf := s.pf ++ [(decs od s.ms).map fun d => -d]
    match s.ms.getLast? with
    | none => .unsat ⟨ws, od, s.ms, pf⟩
    | some j => .go ⟨wset (wipe ws (od.drop j)) (-((od[j]?).getD 0)), od.take j ++ [-((od[j]?).getD 0)], s.ms.dropLast, pf⟩
  | (true, ws, od) =>
    let v := ffree ws 1 n
    if v = 0 then .sat ⟨ws, od, s.ms, s.pf⟩ else .go ⟨wset ws v, od ++ [(v : Int)], s.ms ++ [od.length], s.pf⟩
def solveM (n : Nat) (cs : List (List Int)) : Nat → St → PySem.Str × St
  | 0, s => ("fuel", s)
  | k + 1, s => match turnM n cs s with
    | .unsat s' => ("unsat", s')
    | .sat s' => ("sat", s')
    | .go s' => solveM n cs k s'

structure OdOk (n : Nat) (od : List Int) : Prop where
  r : ∀ l ∈ od, inR n l
  nz : ∀ l ∈ od, l ≠ 0
  nd : (od.map Int.natAbs).Nodup
theorem OdOk.take {n : Nat} {od : List Int} (h : OdOk n od) (k : Nat) : OdOk n (od.take k) :=
  ⟨fun l hl => h.r l (List.mem_of_mem_take hl), fun l hl => h.nz l (List.mem_of_mem_take hl), by rw [List.map_take]; exact h.nd.sublist (List.take_sublist _ _)⟩
theorem OdOk.snoc {n : Nat} {od : List Int} {l : Int} (h : OdOk n od) (h1 : inR n l) (h2 : l ≠ 0) (h3 : l.natAbs ∉ od.map Int.natAbs) : OdOk n (od ++ [l]) := by
  refine ⟨fun x hx => ?_, fun x hx => ?_, ?_⟩
  · rcases List.mem_append.mp hx with q | q
    · exact h.r x q
    · rw [List.mem_singleton.mp q]; exact h1
  · rcases List.mem_append.mp hx with q | q
    · exact h.nz x q
    · rw [List.mem_singleton.mp q]; exact h2
  · rw [List.map_append, List.nodup_append]
    refine ⟨h.nd, by simp, fun a ha b hb e => ?_⟩
    simp at hb
    subst e; subst hb; exact h3 ha
theorem OdOk.nil (n : Nat) : OdOk n [] := ⟨by simp, by simp, by simp⟩
abbrev W0 (n : Nat) : List Int := List.replicate (n + 1) 0
theorem nodup_bound : ∀ (n : Nat) (l : List Nat), l.Nodup → (∀ x ∈ l, x < n) → l.length ≤ n
  | 0, l, _, h => by
    cases l with
    | nil => simp
    | cons a l => have := h a (.head _); (first|lia|omega)
  | n + 1, l, nd, h => by
    by_cases hm : n ∈ l
    · have e := List.length_erase_of_mem hm
      have := nodup_bound n (l.erase n) (nd.erase n) fun x hx => by
        have h1 := (List.Nodup.mem_erase_iff nd).mp hx
        have := h x h1.2
        have := h1.1
        (first|lia|omega)
      (first|lia|omega)
    · have := nodup_bound n l nd fun x hx => by
        have := h x hx
        have : x ≠ n := fun e => hm (e ▸ hx)
        (first|lia|omega)
      (first|lia|omega)
theorem OdOk.len {n : Nat} {od : List Int} (h : OdOk n od) : od.length ≤ n := by
  have := nodup_bound n (od.map fun l => l.natAbs - 1) (by
    have nd := h.nd
    have nz := h.nz
    clear h
    induction od with
    | nil => simp
    | cons x xs ih =>
      rw [List.map_cons, List.nodup_cons] at nd ⊢
      refine ⟨fun q => ?_, ih nd.2 fun l hl => nz l (.tail _ hl)⟩
      obtain ⟨y, a, b⟩ := List.mem_map.mp q
      refine nd.1 (List.mem_map.mpr ⟨y, a, ?_⟩)
      have := nz x (.head _)
      have := nz y (.tail _ a)
      (first|lia|omega)) (fun x hx => by
    obtain ⟨y, a, b⟩ := List.mem_map.mp hx
    have h1 := h.r y a
    have h2 := h.nz y a
    unfold inR at h1
    (first|lia|omega))
  simpa using this
structure TrOk (n : Nat) (ws od : List Int) : Prop where
  e : ws = wsets (W0 n) od
  ok : OdOk n od
theorem TrOk.len {n : Nat} {ws od : List Int} (h : TrOk n ws od) : ws.length = n + 1 := by rw [h.e, wsets_len]; simp
theorem TrOk.nil (n : Nat) : TrOk n (W0 n) [] := ⟨rfl, OdOk.nil n⟩
theorem wv_zero {n : Nat} {od : List Int} {l : Int} (hl : inR n l) (h : wv (wsets (W0 n) od) l = 0) : l.natAbs ∉ od.map Int.natAbs := by
  intro q
  unfold inR at hl
  obtain ⟨l', _, _, e⟩ := wsets_in od (W0 n) q (by simp; (first|lia|omega))
  rw [wv_eq, e] at h
  have h1 := sg_ne l
  have h2 := sg_ne l'
  rw [Option.getD_some] at h
  rcases Int.mul_eq_zero.mp h with h | h
  · exact h1 h
  · exact h2 h
theorem TrOk.snoc {n : Nat} {ws od : List Int} {l : Int} (h : TrOk n ws od) (h1 : inR n l) (h2 : l ≠ 0) (h3 : l.natAbs ∉ od.map Int.natAbs) : TrOk n (wset ws l) (od ++ [l]) :=
  ⟨by rw [wsets_snoc, h.e], h.ok.snoc h1 h2 h3⟩
theorem cstate_unit {c ws : List Int} {l : Int} (h : cstate c ws = .unit l) : l ∈ c ∧ wv ws l = 0 := by
  unfold cstate at h
  split at h
  · cases h
  · split at h
    · cases h
    · rename_i x xs e
      split at h
      · cases h
        have : l ∈ unsetOf c ws := by rw [e]; exact .head _
        unfold unsetOf at this
        rw [List.mem_filter] at this
        exact ⟨this.1, by simpa using this.2⟩
      · cases h
theorem undone {n : Nat} {od : List Int} (h : OdOk n od) (j : Nat) : wipe (wsets (W0 n) od) (od.drop j) = wsets (W0 n) (od.take j) := by
  have hl : (wsets (W0 n) od).length = n + 1 := by rw [wsets_len]; simp
  have hl2 : (wsets (W0 n) (od.take j)).length = n + 1 := by rw [wsets_len]; simp
  apply List.ext_getElem?
  intro v
  by_cases hv : v < n + 1
  · rw [wipe_get _ _ (by (first|lia|omega))]
    have nd := h.nd
    rw [← List.take_append_drop j od, List.map_append, List.nodup_append] at nd
    split
    · rename_i hin
      rw [wsets_not (od.take j) _ (fun q => nd.2.2 v q v hin rfl)]
      rw [List.getElem?_replicate, if_pos (by (first|lia|omega))]
    · rename_i hin
      have e := wsets_append (W0 n) (od.take j) (od.drop j)
      rw [List.take_append_drop] at e
      rw [e, wsets_not (od.drop j) _ hin]
  · rw [List.getElem?_eq_none (by rw [wipe_len]; (first|lia|omega)), List.getElem?_eq_none (by (first|lia|omega))]
def okCls (n : Nat) (cs : List (List Int)) : Prop := ∀ c ∈ cs, ∀ l ∈ c, inR n l ∧ l ≠ 0
theorem pass_ok {n : Nat} : ∀ (cs : List (List Int)) {ws od : List Int} (mv : Bool), okCls n cs → TrOk n ws od → TrOk n (passM cs ws od mv).2.1 (passM cs ws od mv).2.2.1 ∧ ∃ e, (passM cs ws od mv).2.2.1 = od ++ e
  | [], ws, od, mv, _, h => ⟨h, [], by simp [passM]⟩
  | c :: cs, ws, od, mv, hc, h => by
    unfold passM
    have hc' : okCls n cs := fun c hc1 => hc c (.tail _ hc1)
    split
    · exact ⟨h, [], by simp⟩
    · rename_i l e
      obtain ⟨h1, h2⟩ := cstate_unit e
      obtain ⟨h3, h4⟩ := hc c (.head _) l h1
      have h5 := h.snoc h3 h4 (wv_zero h3 (by rw [← h.e]; exact h2))
      obtain ⟨a, ex, b⟩ := pass_ok cs true hc' h5
      exact ⟨a, l :: ex, by rw [b]; simp⟩
    · exact pass_ok cs mv hc' h
theorem prop_ok {n : Nat} {cs : List (List Int)} (hc : okCls n cs) : ∀ (k : Nat) {ws od : List Int}, TrOk n ws od → TrOk n (propM cs k ws od).2.1 (propM cs k ws od).2.2 ∧ ∃ e, (propM cs k ws od).2.2 = od ++ e
  | 0, ws, od, h => ⟨h, [], by simp [propM]⟩
  | k + 1, ws, od, h => by
    have hp := pass_ok cs false hc h
    unfold propM
    split
    · rename_i e; rw [e] at hp; exact hp
    · rename_i ws' od' mv e
      rw [e] at hp
      split
      · obtain ⟨a, ex, b⟩ := prop_ok hc k hp.1
        obtain ⟨ex', b'⟩ := hp.2
        exact ⟨a, ex' ++ ex, by rw [b, b']; simp⟩
      · exact hp
theorem ffree_spec (ws : List Int) : ∀ (k v : Nat), 1 ≤ v → (ffree ws v k = 0 ∧ ∀ u, v ≤ u → u < v + k → (ws[u]?).getD 0 ≠ 0) ∨ (v ≤ ffree ws v k ∧ ffree ws v k < v + k ∧ (ws[ffree ws v k]?).getD 0 = 0)
  | 0, v, h => .inl ⟨rfl, fun u a b => by (first|lia|omega)⟩
  | k + 1, v, h => by
    unfold ffree
    split
    · rename_i e; exact .inr ⟨by (first|lia|omega), by (first|lia|omega), e⟩
    · rename_i e
      rcases ffree_spec ws k (v + 1) (by (first|lia|omega)) with ⟨a, b⟩ | ⟨a, b, c⟩
      · refine .inl ⟨a, fun u h1 h2 => ?_⟩
        by_cases hu : u = v
        · subst hu; exact e
        · exact b u (by (first|lia|omega)) (by (first|lia|omega))
      · exact .inr ⟨by (first|lia|omega), by (first|lia|omega), c⟩
structure StOk (n : Nat) (s : St) : Prop where
  t : TrOk n s.ws s.od
  lt : ∀ k ∈ s.ms, k < s.od.length
  inc : s.ms.Pairwise (· < ·)
theorem pw_bound : ∀ (l : List Nat) (n : Nat), l.Pairwise (· < ·) → (∀ k ∈ l, k < n) → l.length ≤ n := fun l n h hb =>
  nodup_bound n l (h.imp fun q => Nat.ne_of_lt q) hb
theorem turn_ok {n : Nat} {cs : List (List Int)} {s s' : St} (hc : okCls n cs) (h : StOk n s) (e : turnM n cs s = .go s') : StOk n s' := by
  have hp := prop_ok hc (n + 1) h.t
  unfold turnM at e
  split at e
  · rename_i ws od ep
    rw [ep] at hp
    obtain ⟨hT, ex, hex⟩ := hp
    dsimp only at hT hex e
    split at e
    · cases e
    · rename_i j hj
      obtain ⟨mk', hmk⟩ : ∃ mk', s.ms = mk' ++ [j] := by
        obtain ⟨a, b⟩ := List.getLast?_eq_some_iff.mp hj
        exact ⟨a, b⟩
      have hjl := h.lt j (by rw [hmk]; simp)
      have hjo : j < od.length := by rw [hex]; simp; (first|lia|omega)
      cases e
      have hin := hT.ok
      have hl := hin.r od[j] (List.getElem_mem _)
      have hz := hin.nz od[j] (List.getElem_mem _)
      unfold inR at hl
      rw [List.getElem?_eq_getElem hjo]
      refine ⟨?_, ?_, ?_⟩
      · refine TrOk.snoc (l := -od[j]) ⟨by rw [hT.e]; exact undone hin j, hin.take j⟩ (by unfold inR; (first|lia|omega)) (by (first|lia|omega)) ?_
        intro q
        have nd := hin.nd
        rw [← List.take_append_drop j od, List.map_append, List.nodup_append] at nd
        refine nd.2.2 _ q _ (List.mem_map.mpr ⟨od[j], ?_, rfl⟩) (by (first|lia|omega))
        rw [List.drop_eq_getElem_cons hjo]; exact .head _
      · intro k hk
        rw [hmk, List.dropLast_concat] at hk
        have h1 := h.inc
        rw [hmk, List.pairwise_append] at h1
        have := h1.2.2 k hk j (by simp)
        simp; (first|lia|omega)
      · rw [hmk, List.dropLast_concat]
        have h1 := h.inc
        rw [hmk, List.pairwise_append] at h1
        exact h1.1
  · rename_i ws od ep
    rw [ep] at hp
    obtain ⟨hT, ex, hex⟩ := hp
    dsimp only at hT hex e
    split at e
    · cases e
    · rename_i hv
      cases e
      rcases ffree_spec ws n 1 (Nat.le_refl _) with ⟨a, _⟩ | ⟨a, b, c⟩
      · exact absurd a hv
      · refine ⟨?_, ?_, ?_⟩
        · refine hT.snoc (l := (ffree ws 1 n : Int)) (by unfold inR; (first|lia|omega)) (by (first|lia|omega)) ?_
          refine wv_zero (n := n) (by unfold inR; (first|lia|omega)) ?_
          rw [wv_eq, ← hT.e, show ((ffree ws 1 n : Nat) : Int).natAbs = ffree ws 1 n by (first|lia|omega), c]; simp
        · intro k hk
          rcases List.mem_append.mp hk with q | q
          · have := h.lt k q
            simp [hex]; (first|lia|omega)
          · simp at q; simp; (first|lia|omega)
        · rw [List.pairwise_append]
          refine ⟨h.inc, by simp, fun a ha b hb => ?_⟩
          simp at hb
          have := h.lt a ha
          rw [hb, hex]; simp; (first|lia|omega)
end Mine
end
section
set_option maxRecDepth 100000
set_option linter.unusedVariables false
namespace Mine
open PySem PySem.W
structure SolP where
  s : Nat
  d : Nat
  c : Nat
  l : Nat
  p : TrP
  ci : List Nat
abbrev solFs (n : Nat) (q : SolP) (k : Int) : List (Str × AV) := [("n", .int n), ("clauses", .ref q.c), ("trail", .ref q.p.t), ("proof", .ref q.l), ("conflicts", .int k)]
structure SolAt (Cs Ct : Addr) (q : SolP) (n : Nat) (cs : List (List Int)) (st : St) (k : Int) (li : List Nat) (σ : AH) : Prop where
  s : σ[q.s]? = some (.inst Cs q.d)
  d : σ[q.d]? = some (.dict (solFs n q k))
  t : TrAt Ct q.p n st.ws st.od (mkl st.ms) σ
  c : RowsP σ q.c q.ci cs
  f : RowsP σ q.l li st.pf
  oc : q.d < q.c ∧ ∀ i ∈ q.ci, q.d < i ∧ i < q.c
  ot : q.c < q.p.t ∧ q.c < q.p.d ∧ q.c < q.p.w ∧ q.c < q.p.o ∧ q.c < q.p.k
  ol : q.p.t < q.l ∧ q.p.d < q.l ∧ q.p.w < q.l ∧ q.p.o < q.l ∧ q.p.k < q.l
  of : ∀ i ∈ li, q.l < i
abbrev SolP.S (q : SolP) : List Nat := [q.p.w, q.p.o, q.p.k, q.d, q.l]
section
variable {Cs Ct : Addr} {q : SolP} {n : Nat} {cs : List (List Int)} {st : St} {k : Int} {li : List Nat} {σ σ' : AH}
theorem SolAt.cS (h : SolAt Cs Ct q n cs st k li σ) : q.c ∉ q.p.S := by
  have := h.ot
  simp only [List.mem_cons, List.not_mem_nil, or_false, not_or]; (first|lia|omega)
theorem SolAt.ciS (h : SolAt Cs Ct q n cs st k li σ) : ∀ i ∈ q.ci, i ∉ q.p.S := by
  intro i hi
  have := h.ot
  have := h.oc.2 i hi
  simp only [List.mem_cons, List.not_mem_nil, or_false, not_or]; (first|lia|omega)
theorem SolAt.sub (h : SolAt Cs Ct q n cs st k li σ) (x : Sub σ σ') : SolAt Cs Ct q n cs st k li σ' :=
  ⟨x _ _ h.s, x _ _ h.d, h.t.sub x, h.c.sub x, h.f.sub x, h.oc, h.ot, h.ol, h.of⟩
theorem SolAt.tr (h : SolAt Cs Ct q n cs st k li σ) (x : Fx q.p.S σ σ') {st' : St} (ht : TrAt Ct q.p n st'.ws st'.od (mkl st'.ms) σ') (hp : st'.pf = st.pf) : SolAt Cs Ct q n cs st' k li σ' := by
  have o1 := h.oc
  have o2 := h.ot
  have o3 := h.ol
  refine ⟨x _ _ ?_ h.s, x _ _ ?_ h.d, ht, h.c.fx x h.cS h.ciS, ?_, h.oc, h.ot, h.ol, h.of⟩
  · simp only [List.mem_cons, List.not_mem_nil, or_false, not_or]
    exact ⟨ne_of_obj h.s h.t.w (by simp), ne_of_obj h.s h.t.o (by simp), ne_of_obj h.s h.t.k (by simp)⟩
  · simp only [List.mem_cons, List.not_mem_nil, or_false, not_or]
    (first|lia|omega)
  · rw [hp]
    refine h.f.fx x ?_ fun i hi => ?_
    · simp only [List.mem_cons, List.not_mem_nil, or_false, not_or]; (first|lia|omega)
    · have := h.of i hi
      simp only [List.mem_cons, List.not_mem_nil, or_false, not_or]; (first|lia|omega)
theorem SolAt.pS (q : SolP) : ∀ i ∈ q.p.S, i ∈ q.S := by
  intro i hi
  simp only [List.mem_cons, List.not_mem_nil, or_false] at hi ⊢
  rcases hi with rfl | rfl | rfl <;> simp
theorem SolAt.push (h : SolAt Cs Ct q n cs st k li σ) {r : List Int} {i : Nat} (hi : q.l < i) (hr : σ[i]? = some (.list (r.map .int))) : SolAt Cs Ct q n cs { st with pf := st.pf ++ [r] } k (li ++ [i]) (σ.set q.l (.list (li.map .ref ++ [.ref i]))) := by
  have o1 := h.oc
  have o2 := h.ot
  have o3 := h.ol
  have x : Fx [q.l] σ (σ.set q.l (.list (li.map .ref ++ [.ref i]))) := Fx.set (by simp)
  refine ⟨get_ne (ne_of_obj h.s h.f.g (by simp)) h.s, get_ne (by (first|lia|omega)) h.d, ?_, ?_, ?_, h.oc, h.ot, h.ol, ?_⟩
  · refine h.t.fx x ?_ ?_ ?_ ?_ ?_ <;> simp only [List.mem_cons, List.not_mem_nil, or_false] <;> (first|lia|omega)
  · refine h.c.fx x ?_ fun j hj => ?_
    · simp only [List.mem_cons, List.not_mem_nil, or_false]; (first|lia|omega)
    · have := h.oc.2 j hj
      simp only [List.mem_cons, List.not_mem_nil, or_false]; (first|lia|omega)
  · refine ⟨by rw [get_set h.f.g]; simp, (h.f.r.sub (SubX.set σ _)).append (RowsIn.one (by (first|lia|omega)) (get_ne (by (first|lia|omega)) hr))⟩
  · intro j hj
    rcases List.mem_append.mp hj with z | z
    · exact h.of j z
    · rw [List.mem_singleton.mp z]; exact hi
structure IA (σ : AH) (C : Addr) (s0 d0 : Nat) (fs : List (Str × AV)) (σ' : AH) : Prop where
  s : σ'[s0]? = some (.inst C d0)
  d : σ'[d0]? = some (.dict fs)
  x : Fx [d0] σ σ'
theorem IA.set {σ : AH} {C : Addr} {s d : Nat} {fs : List (Str × AV)} {σ' : AH} (h : IA σ C s d fs σ') (fs' : List (Str × AV)) : IA σ C s d fs' (σ'.set d (.dict fs')) :=
  ⟨get_ne (ne_of_obj h.s h.d (by simp)) h.s, get_set h.d, h.x.trans (Fx.set (by simp))⟩
theorem IA.sub {σ : AH} {C : Addr} {s d : Nat} {fs : List (Str × AV)} {σ' σ'' : AH} (h : IA σ C s d fs σ') (x : Sub σ' σ'') : IA σ C s d fs σ'' := ⟨x _ _ h.s, x _ _ h.d, h.x.trans (Fx.of x)⟩
theorem SolAt.cnt (h : SolAt Cs Ct q n cs st k li σ) {k' : Int} : SolAt Cs Ct q n cs st k' li (σ.set q.d (.dict (solFs n q k'))) := by
  have o1 := h.oc
  have o2 := h.ot
  have o3 := h.ol
  have x : Fx [q.d] σ (σ.set q.d (.dict (solFs n q k'))) := Fx.set (by simp)
  refine ⟨get_ne (ne_of_obj h.s h.d (by simp)) h.s, get_set h.d, ?_, ?_, ?_, h.oc, h.ot, h.ol, h.of⟩
  · refine h.t.fx x ?_ ?_ ?_ ?_ ?_ <;> simp only [List.mem_cons, List.not_mem_nil, or_false] <;> (first|lia|omega)
  · refine h.c.fx x ?_ fun j hj => ?_
    · simp only [List.mem_cons, List.not_mem_nil, or_false]; (first|lia|omega)
    · have := h.oc.2 j hj
      simp only [List.mem_cons, List.not_mem_nil, or_false]; (first|lia|omega)
  · refine h.f.fx x ?_ fun j hj => ?_
    · simp only [List.mem_cons, List.not_mem_nil, or_false]; (first|lia|omega)
    · have := h.of j hj
      simp only [List.mem_cons, List.not_mem_nil, or_false]; (first|lia|omega)
end
end Mine
end
section
set_option maxRecDepth 100000
set_option linter.unusedVariables false
namespace Mine
def vol (n : Nat) (s : St) : Nat := 2 ^ (n - s.od.length) + (s.ms.map fun m => 2 ^ (n - m - 1)).sum
theorem sum_len (n : Nat) : ∀ ms : List Nat, ms.length ≤ (ms.map fun m => 2 ^ (n - m - 1)).sum
  | [] => by simp
  | m :: ms => by
    have := sum_len n ms
    have h := Nat.one_le_two_pow (n := n - m - 1)
    rw [List.map_cons, List.sum_cons, List.length_cons]; (first|lia|omega)
theorem vol_ge (n : Nat) (s : St) : s.ms.length + 1 ≤ vol n s := by
  have := sum_len n s.ms
  have h := Nat.one_le_two_pow (n := n - s.od.length)
  unfold vol; (first|lia|omega)
theorem turn_pot {n : Nat} {cs : List (List Int)} {s s' : St} (hc : okCls n cs) (h : StOk n s) (e : turnM n cs s = .go s') : 2 * vol n s' + s.ms.length + 1 ≤ 2 * vol n s + s'.ms.length ∧ s'.pf.length ≤ s.pf.length + 1 := by
  have hs' := turn_ok hc h e
  have hp := prop_ok hc (n + 1) h.t
  unfold turnM at e
  split at e
  · rename_i ws od ep
    rw [ep] at hp
    obtain ⟨hT, ex, hex⟩ := hp
    dsimp only at hT hex e
    split at e
    · cases e
    · rename_i j hj
      obtain ⟨mk', hmk⟩ : ∃ mk', s.ms = mk' ++ [j] := by
        obtain ⟨a, b⟩ := List.getLast?_eq_some_iff.mp hj
        exact ⟨a, b⟩
      have hjl := h.lt j (by rw [hmk]; simp)
      have hjo : j < od.length := by rw [hex]; simp; (first|lia|omega)
      cases e
      unfold vol
      dsimp only
      rw [hmk, List.dropLast_concat, List.map_append, List.sum_append]
      have h1 := Nat.one_le_two_pow (n := n - s.od.length)
      have e1 : (od.take j ++ [-((od[j]?).getD 0)]).length = j + 1 := by simp; (first|lia|omega)
      rw [e1]
      have e2 : n - (j + 1) = n - j - 1 := by (first|lia|omega)
      rw [e2]
      simp
      (first|lia|omega)
  · rename_i ws od ep
    rw [ep] at hp
    obtain ⟨hT, ex, hex⟩ := hp
    dsimp only at hT hex e
    split at e
    · cases e
    · rename_i hv
      cases e
      have hl := hs'.t.ok.len
      dsimp only at hl
      unfold vol
      dsimp only
      rw [List.map_append, List.sum_append]
      have e1 : (od ++ [((ffree ws 1 n : Nat) : Int)]).length = od.length + 1 := by simp
      rw [e1] at hl ⊢
      have e2 : 2 ^ (n - (od.length + 1)) + 2 ^ (n - (od.length + 1)) = 2 ^ (n - od.length) := by
        rw [show n - od.length = (n - (od.length + 1)) + 1 by (first|lia|omega), Nat.pow_succ]; (first|lia|omega)
      have e3 : 2 ^ (n - od.length) ≤ 2 ^ (n - s.od.length) := Nat.pow_le_pow_right (by decide) (by rw [hex]; simp; (first|lia|omega))
      have e4 : n - od.length - 1 = n - (od.length + 1) := by (first|lia|omega)
      simp [e4]
      (first|lia|omega)
theorem pow_big {n : Nat} : 2 * vol n ⟨W0 n, [], [], []⟩ = 2 ^ (n + 1) := by
  unfold vol
  simp [Nat.pow_succ]; (first|lia|omega)
theorem solve_fuel {n : Nat} {cs : List (List Int)} (hc : okCls n cs) : ∀ (k : Nat) (s : St), StOk n s → 2 * vol n s ≤ k + s.ms.length → (solveM n cs k s).1 ≠ "fuel"
  | 0, s, h, hk => by have := vol_ge n s; (first|lia|omega)
  | k + 1, s, h, hk => by
    unfold solveM
    split
    · show ("unsat" : PySem.Str) ≠ "fuel"; decide +kernel
    · show ("sat" : PySem.Str) ≠ "fuel"; decide +kernel
    · rename_i s' e
      have := turn_pot hc h e
      exact solve_fuel hc k s' (turn_ok hc h e) (by (first|lia|omega))
theorem st0_ok (n : Nat) : StOk n ⟨W0 n, [], [], []⟩ := ⟨TrOk.nil n, by simp, by simp⟩
theorem solve_ok {n : Nat} {cs : List (List Int)} (hc : okCls n cs) (hn : n ≤ 100000) : ∀ (k : Nat) (s : St), StOk n s → s.pf.length + 2 * vol n s ≤ 2 ^ (n + 1) + s.ms.length → (∀ r ∈ s.pf, r.length ≤ 100000) →
    (solveM n cs k s).2.pf.length ≤ 2 ^ (n + 1) ∧ StOk n (solveM n cs k s).2 ∧ ∀ r ∈ (solveM n cs k s).2.pf, r.length ≤ 100000
  | 0, s, h, hp, hr => ⟨by have := vol_ge n s; show s.pf.length ≤ _; (first|lia|omega), h, hr⟩
  | k + 1, s, h, hp, hr => by
    have hpk := prop_ok hc (n + 1) h.t
    have hrow : ∀ od, (∀ r ∈ s.pf ++ [(decs od s.ms).map fun d => -d], r.length ≤ 100000) := fun od r hr' => by
      rcases List.mem_append.mp hr' with z | z
      · exact hr r z
      · rw [List.mem_singleton.mp z]
        have := pw_bound _ _ h.inc h.lt
        have := h.t.ok.len
        simp [decs]; (first|lia|omega)
    have hvg := vol_ge n s
    have hE : turnM n cs s = turnM n cs s := rfl
    conv at hE => rhs; unfold turnM
    generalize hPP : propM cs (n + 1) s.ws s.od = PP at *
    obtain ⟨ok, ws2, od2⟩ := PP
    obtain ⟨ex, hex⟩ := hpk.2
    dsimp only at hpk hex hE
    have hO2 : ∀ pf, StOk n ⟨ws2, od2, s.ms, pf⟩ := fun pf => ⟨hpk.1, fun j hj => by have := h.lt j hj; show j < od2.length; rw [hex]; simp; (first|lia|omega), h.inc⟩
    unfold solveM
    cases ok with
    | false =>
      dsimp only at hE
      cases hg : s.ms.getLast? with
      | none =>
        rw [hg] at hE
        dsimp only at hE
        rw [hE]
        exact ⟨by show (s.pf ++ [_]).length ≤ _; simp; (first|lia|omega), hO2 _, hrow od2⟩
      | some j =>
        rw [hg] at hE
        dsimp only at hE
        have := turn_pot hc h hE
        have h2 := solve_ok hc hn k _ (turn_ok hc h hE) (by (first|lia|omega)) (hrow od2)
        rw [hE]
        exact h2
    | true =>
      dsimp only at hE
      by_cases hv : ffree ws2 1 n = 0
      · rw [if_pos hv] at hE
        rw [hE]
        exact ⟨by show s.pf.length ≤ _; (first|lia|omega), hO2 _, hr⟩
      · rw [if_neg hv] at hE
        have := turn_pot hc h hE
        have h2 := solve_ok hc hn k _ (turn_ok hc h hE) (by (first|lia|omega)) hr
        rw [hE]
        exact h2
end Mine
end
section
set_option maxRecDepth 100000
set_option linter.unusedVariables false
namespace Mine
def holds (m : Nat → Bool) (l : Int) : Bool := if 0 < l then m l.natAbs else !m l.natAbs
theorem holds_neg (m : Nat → Bool) {l : Int} (h : l ≠ 0) : holds m (-l) = !holds m l := by
  unfold holds
  rw [show (-l).natAbs = l.natAbs by (first|lia|omega)]
  by_cases h1 : 0 < l
  · rw [if_neg (by (first|lia|omega)), if_pos h1]
  · rw [if_pos (by (first|lia|omega)), if_neg h1, Bool.not_not]
def Mod (m : Nat → Bool) (cs : List (List Int)) : Prop := ∀ c ∈ cs, ∃ l ∈ c, holds m l = true
def Sat (cs : List (List Int)) : Prop := ∃ m, Mod m cs
def Ag (m : Nat → Bool) (od : List Int) : Prop := ∀ l ∈ od, holds m l = true
theorem inj_abs : ∀ {od : List Int}, (od.map Int.natAbs).Nodup → ∀ {a b : Int}, a ∈ od → b ∈ od → a.natAbs = b.natAbs → a = b
  | x :: xs, h, a, b, ha, hb, e => by
    rw [List.map_cons, List.nodup_cons] at h
    rcases List.mem_cons.mp ha with ea | ha' <;> rcases List.mem_cons.mp hb with eb | hb'
    · rw [ea, eb]
    · exact absurd (List.mem_map.mpr ⟨b, hb', by rw [← e, ea]⟩) h.1
    · exact absurd (List.mem_map.mpr ⟨a, ha', by rw [e, eb]⟩) h.1
    · exact inj_abs h.2 ha' hb' e
theorem wv_cases {n : Nat} {ws od : List Int} (h : TrOk n ws od) {l : Int} (hl : inR n l) (hz : l ≠ 0) : (l ∈ od ∧ wv ws l = 1) ∨ (-l ∈ od ∧ wv ws l = -1) ∨ (l.natAbs ∉ od.map Int.natAbs ∧ wv ws l = 0) := by
  unfold inR at hl
  by_cases hin : l.natAbs ∈ od.map Int.natAbs
  · obtain ⟨l', hl', e, e2⟩ := wsets_in od (W0 n) hin (by simp; (first|lia|omega))
    have hw : wv ws l = sg l * sg l' := by rw [wv_eq, h.e, e2]; rfl
    by_cases hs : l' = l
    · subst hs
      refine .inl ⟨hl', ?_⟩
      rw [hw]; unfold sg; split <;> rfl
    · have : l' = -l := by (first|lia|omega)
      subst this
      refine .inr (.inl ⟨hl', ?_⟩)
      rw [hw]; unfold sg
      by_cases h1 : 0 < l
      · rw [if_pos h1, if_neg (by (first|lia|omega))]; rfl
      · rw [if_neg h1, if_pos (by (first|lia|omega))]; rfl
  · refine .inr (.inr ⟨hin, ?_⟩)
    rw [wv_eq, h.e, wsets_not od _ hin, List.getElem?_replicate, if_pos (by (first|lia|omega))]; simp
theorem cs_fls {n : Nat} {ws od c : List Int} {m : Nat → Bool} (h : TrOk n ws od) (hc : ∀ l ∈ c, inR n l ∧ l ≠ 0) (hm : Ag m od) (e : cstate c ws = .fls) : ¬ ∃ l ∈ c, holds m l = true := by
  rintro ⟨l, hl, ht⟩
  unfold cstate at e
  split at e
  · cases e
  · rename_i hany
    split at e
    · rename_i hu
      rcases wv_cases h (hc l hl).1 (hc l hl).2 with ⟨_, q⟩ | ⟨q, _⟩ | ⟨_, q⟩
      · exact hany (List.any_eq_true.mpr ⟨l, hl, by simp [q]⟩)
      · have := hm _ q
        rw [holds_neg m (hc l hl).2, ht] at this
        cases this
      · have : l ∈ unsetOf c ws := List.mem_filter.mpr ⟨hl, by simp [q]⟩
        rw [hu] at this; cases this
    · split at e <;> cases e
theorem cs_unitM {n : Nat} {ws od c : List Int} {m : Nat → Bool} {x : Int} (h : TrOk n ws od) (hc : ∀ l ∈ c, inR n l ∧ l ≠ 0) (hm : Ag m od) (hs : ∃ l ∈ c, holds m l = true) (e : cstate c ws = .unit x) : holds m x = true := by
  obtain ⟨l, hl, ht⟩ := hs
  unfold cstate at e
  split at e
  · cases e
  · rename_i hany
    split at e
    · cases e
    · rename_i y ys hu
      split at e
      · rename_i hall
        cases e
        rcases wv_cases h (hc l hl).1 (hc l hl).2 with ⟨_, q⟩ | ⟨q, _⟩ | ⟨_, q⟩
        · exact absurd (List.any_eq_true.mpr ⟨l, hl, by simp [q]⟩) hany
        · have := hm _ q
          rw [holds_neg m (hc l hl).2, ht] at this
          cases this
        · have h1 : l ∈ unsetOf c ws := List.mem_filter.mpr ⟨hl, by simp [q]⟩
          rw [hu] at h1
          have := List.all_eq_true.mp hall l h1
          rw [← beq_iff_eq.mp this]; exact ht
      · cases e
theorem pass_mod {n : Nat} {m : Nat → Bool} : ∀ (cs : List (List Int)) {ws od : List Int} (mv : Bool), okCls n cs → TrOk n ws od → Ag m od → Mod m cs → (passM cs ws od mv).1 = true ∧ Ag m (passM cs ws od mv).2.2.1
  | [], ws, od, mv, _, _, ha, _ => ⟨rfl, ha⟩
  | c :: cs, ws, od, mv, hc, h, ha, hm => by
    have hc' : okCls n cs := fun c hc1 => hc c (.tail _ hc1)
    have hm' : Mod m cs := fun c hc1 => hm c (.tail _ hc1)
    unfold passM
    split
    · rename_i e
      exact absurd (hm c (.head _)) (cs_fls h (hc c (.head _)) ha e)
    · rename_i l e
      obtain ⟨h1, h2⟩ := cstate_unit e
      obtain ⟨h3, h4⟩ := hc c (.head _) l h1
      have h5 := h.snoc h3 h4 (wv_zero h3 (by rw [← h.e]; exact h2))
      refine pass_mod cs true hc' h5 (fun l' hl' => ?_) hm'
      rcases List.mem_append.mp hl' with q | q
      · exact ha l' q
      · rw [List.mem_singleton.mp q]; exact cs_unitM h (hc c (.head _)) ha (hm c (.head _)) e
    · exact pass_mod cs mv hc' h ha hm'
theorem prop_mod {n : Nat} {m : Nat → Bool} {cs : List (List Int)} (hc : okCls n cs) (hm : Mod m cs) : ∀ (k : Nat) {ws od : List Int}, TrOk n ws od → Ag m od → (propM cs k ws od).1 = true ∧ Ag m (propM cs k ws od).2.2
  | 0, ws, od, _, ha => ⟨rfl, ha⟩
  | k + 1, ws, od, h, ha => by
    have hp := pass_mod cs false hc h ha hm
    have ho := pass_ok cs false hc h
    unfold propM
    split
    · rename_i e; rw [e] at hp; exact absurd hp.1 (by simp)
    · rename_i e
      rw [e] at hp ho
      split
      · exact prop_mod hc hm k ho.1 hp.2
      · exact ⟨rfl, hp.2⟩
theorem pass_true : ∀ (cs : List (List Int)) (ws od : List Int), (passM cs ws od true).1 = true → (passM cs ws od true).2.2.2 = true
  | [], _, _, _ => rfl
  | c :: cs, ws, od, h => by
    unfold passM at h ⊢
    split at h
    · cases h
    · exact pass_true cs _ _ h
    · exact pass_true cs _ _ h
theorem pass_grow : ∀ (cs : List (List Int)) (ws od : List Int) (mv : Bool), od.length ≤ (passM cs ws od mv).2.2.1.length
  | [], _, _, _ => Nat.le_refl _
  | c :: cs, ws, od, mv => by
    unfold passM
    split
    · exact Nat.le_refl _
    · have := pass_grow cs (wset ws ‹Int›) (od ++ [‹Int›]) true
      simp only [List.length_append, List.length_singleton] at this
      (first|lia|omega)
    · exact pass_grow cs _ _ _
def Still (cs : List (List Int)) (ws : List Int) : Prop := ∀ c ∈ cs, cstate c ws = .tru ∨ cstate c ws = .opn
theorem pass_still : ∀ (cs : List (List Int)) (ws od : List Int), (passM cs ws od false).1 = true → ((passM cs ws od false).2.2.2 = false ∧ (passM cs ws od false).2.1 = ws ∧ (passM cs ws od false).2.2.1 = od ∧ Still cs ws) ∨ ((passM cs ws od false).2.2.2 = true ∧ od.length < (passM cs ws od false).2.2.1.length)
  | [], ws, od, _ => .inl ⟨rfl, rfl, rfl, fun c hc => nomatch hc⟩
  | c :: cs, ws, od, h => by
    unfold passM at h ⊢
    split at h
    · cases h
    · rename_i l e
      refine .inr ⟨pass_true cs _ _ h, ?_⟩
      have := pass_grow cs (wset ws l) (od ++ [l]) true
      simp only [List.length_append, List.length_singleton] at this
      (first|lia|omega)
    · rename_i n1 n2
      rcases pass_still cs ws od h with ⟨a, b, c', d⟩ | q
      · refine .inl ⟨a, b, c', fun x hx => ?_⟩
        rcases List.mem_cons.mp hx with rfl | hx
        · cases hcs : cstate x ws with
          | tru => exact .inl rfl
          | opn => exact .inr rfl
          | fls => exact absurd hcs n1
          | unit l => exact absurd hcs (n2 l)
        · exact d x hx
      · exact .inr q
theorem prop_still {cs : List (List Int)} : ∀ (k : Nat) (ws od : List Int), (propM cs k ws od).1 = true → Still cs (propM cs k ws od).2.1 ∨ od.length + k ≤ (propM cs k ws od).2.2.length
  | 0, ws, od, _ => .inr (Nat.le_refl _)
  | k + 1, ws, od, h => by
    have hs := pass_still cs ws od
    unfold propM at h ⊢
    split at h
    · cases h
    · rename_i ws' od' mv e
      rw [e] at hs
      rcases hs rfl with ⟨a, b, c, d⟩ | ⟨a, b⟩
      · dsimp only at a b c
        subst a; subst b
        exact .inl d
      · dsimp only at a b
        subst a
        rw [if_pos rfl] at h ⊢
        rcases prop_still k ws' od' h with q | q
        · exact .inl q
        · exact .inr (by (first|lia|omega))
theorem full_sat {n : Nat} {cs : List (List Int)} {ws od : List Int} (hc : okCls n cs) (h : TrOk n ws od) (hs : Still cs ws) (hf : ∀ u, 1 ≤ u → u < 1 + n → (ws[u]?).getD 0 ≠ 0) : Sat cs := by
  refine ⟨fun v => decide ((v : Int) ∈ od), fun c hcc => ?_⟩
  have hnz : ∀ l ∈ c, wv ws l ≠ 0 := fun l hl q => by
    obtain ⟨h1, h2⟩ := hc c hcc l hl
    unfold inR at h1
    rw [wv_eq] at q
    rcases Int.mul_eq_zero.mp q with q | q
    · exact sg_ne l q
    · exact hf l.natAbs (by (first|lia|omega)) (by (first|lia|omega)) q
  have hany : (c.any fun l => wv ws l == 1) = true := by
    rcases hs c hcc with e | e
    · unfold cstate at e
      split at e
      · assumption
      · split at e
        · cases e
        · split at e <;> cases e
    · unfold cstate at e
      split at e
      · cases e
      · split at e
        · cases e
        · rename_i x xs hu
          have : x ∈ unsetOf c ws := by rw [hu]; exact .head _
          have := List.mem_filter.mp this
          exact absurd (by simpa using this.2) (hnz x this.1)
  obtain ⟨l, hl, h1⟩ := List.any_eq_true.mp hany
  have h1 : wv ws l = 1 := by simpa using h1
  obtain ⟨hr, hz⟩ := hc c hcc l hl
  refine ⟨l, hl, ?_⟩
  rcases wv_cases h hr hz with ⟨q, _⟩ | ⟨_, q⟩ | ⟨_, q⟩
  · unfold holds
    split
    · rename_i hp
      show decide (((l.natAbs : Nat) : Int) ∈ od) = true
      rw [show ((l.natAbs : Nat) : Int) = l by (first|lia|omega)]
      simpa using q
    · rename_i hp
      show (!decide (((l.natAbs : Nat) : Int) ∈ od)) = true
      rw [show ((l.natAbs : Nat) : Int) = -l by (first|lia|omega)]
      simp only [Bool.not_eq_true', decide_eq_false_iff_not]
      intro q'
      have := inj_abs h.ok.nd q q' (by (first|lia|omega))
      (first|lia|omega)
  · (first|lia|omega)
  · (first|lia|omega)
def Inv (cs : List (List Int)) (s : St) : Prop := ∀ m, Mod m cs → Ag m s.od ∨ ∃ j ∈ s.ms, Ag m (s.od.take j) ∧ holds m (-((s.od[j]?).getD 0)) = true
theorem turn_inv {n : Nat} {cs : List (List Int)} {s : St} (hc : okCls n cs) (h : StOk n s) (hI : Inv cs s) : match turnM n cs s with | .unsat _ => ¬ Sat cs | .sat _ => Sat cs | .go s' => Inv cs s' := by
  have hpk := prop_ok hc (n + 1) h.t
  have hpm := fun m (hm : Mod m cs) => prop_mod hc hm (n + 1) (m := m) h.t
  have hps := prop_still (cs := cs) (n + 1) s.ws s.od
  unfold turnM
  generalize hPP : propM cs (n + 1) s.ws s.od = PP at *
  obtain ⟨ok, ws, od⟩ := PP
  obtain ⟨ex, hex⟩ := hpk.2
  dsimp only at hpk hex hpm hps
  have htk : ∀ j, j ∈ s.ms → od.take j = s.od.take j ∧ od[j]? = s.od[j]? := fun j hj => by
    have := h.lt j hj
    rw [hex, List.take_append_of_le_length (by (first|lia|omega)), List.getElem?_append_left this]
    exact ⟨rfl, rfl⟩
  cases ok with
  | false =>
    dsimp only
    have hno : ∀ m, Mod m cs → ∃ j ∈ s.ms, Ag m (od.take j) ∧ holds m (-((od[j]?).getD 0)) = true := fun m hm => by
      rcases hI m hm with q | ⟨j, hj, a, b⟩
      · have := (hpm m hm q).1; cases this
      · exact ⟨j, hj, by rw [(htk j hj).1]; exact a, by rw [(htk j hj).2]; exact b⟩
    cases hg : s.ms.getLast? with
    | none =>
      dsimp only
      have hms : s.ms = [] := List.getLast?_eq_none_iff.mp hg
      rintro ⟨m, hm⟩
      obtain ⟨j, hj, _⟩ := hno m hm
      rw [hms] at hj; cases hj
    | some j =>
      dsimp only
      obtain ⟨mk', hmk⟩ := List.getLast?_eq_some_iff.mp hg
      have hjl := h.lt j (by rw [hmk]; simp)
      have hjo : j < od.length := by rw [hex]; simp; (first|lia|omega)
      intro m hm
      obtain ⟨i, hi, a, b⟩ := hno m hm
      rw [hmk] at hi
      rcases List.mem_append.mp hi with q | q
      · refine .inr ⟨i, by rw [hmk, List.dropLast_concat]; exact q, ?_⟩
        have h1 := h.inc
        rw [hmk, List.pairwise_append] at h1
        have hij := h1.2.2 i q j (by simp)
        dsimp only
        have hl : (od.take j).length = j := by simp; (first|lia|omega)
        rw [List.take_append_of_le_length (by (first|lia|omega)), List.getElem?_append_left (by (first|lia|omega)), List.take_take, Nat.min_eq_left (by (first|lia|omega)), List.getElem?_take_of_lt hij]
        exact ⟨a, b⟩
      · rw [List.mem_singleton.mp q] at a b
        refine .inl fun l hl => ?_
        rcases List.mem_append.mp hl with z | z
        · exact a l z
        · rw [List.mem_singleton.mp z]; exact b
  | true =>
    dsimp only
    have hff := ffree_spec ws n 1 (Nat.le_refl _)
    by_cases hv : ffree ws 1 n = 0
    · rw [if_pos hv]
      dsimp only
      rcases hff with ⟨_, q⟩ | ⟨q, _⟩
      · refine full_sat hc hpk.1 ?_ q
        rcases hps rfl with z | z
        · exact z
        · have := hpk.1.ok.len; (first|lia|omega)
      · (first|lia|omega)
    · rw [if_neg hv]
      dsimp only
      rcases hff with ⟨q, _⟩ | ⟨q1, q2, q3⟩
      · exact absurd q hv
      · intro m hm
        dsimp only
        have hzz : ((ffree ws 1 n : Nat) : Int) ≠ 0 := by (first|lia|omega)
        rcases hI m hm with q | ⟨j, hj, a, b⟩
        · have hag := (hpm m hm q).2
          cases hh : holds m (ffree ws 1 n : Int) with
          | true =>
            refine .inl fun l hl => ?_
            rcases List.mem_append.mp hl with z | z
            · exact hag l z
            · rw [List.mem_singleton.mp z]; exact hh
          | false =>
            refine .inr ⟨od.length, by simp, ?_, ?_⟩
            · rw [List.take_left]; exact hag
            · rw [List.getElem?_append_right (Nat.le_refl _)]
              simp only [Nat.sub_self, List.getElem?_cons_zero, Option.getD_some]
              rw [holds_neg m hzz, hh]; rfl
        · refine .inr ⟨j, by simp [hj], ?_⟩
          have hjl := h.lt j hj
          have hjo : j < od.length := by rw [hex]; simp; (first|lia|omega)
          rw [List.take_append_of_le_length (by (first|lia|omega)), List.getElem?_append_left hjo, (htk j hj).1, (htk j hj).2]
          exact ⟨a, b⟩
theorem solve_sat {n : Nat} {cs : List (List Int)} (hc : okCls n cs) : ∀ (k : Nat) (s : St), StOk n s → Inv cs s → ((solveM n cs k s).1 = "sat" ∧ Sat cs) ∨ ((solveM n cs k s).1 = "unsat" ∧ ¬ Sat cs) ∨ (solveM n cs k s).1 = "fuel"
  | 0, s, _, _ => .inr (.inr rfl)
  | k + 1, s, h, hI => by
    have ht := turn_inv hc h hI
    unfold solveM
    split
    · rename_i e; rw [e] at ht; exact .inr (.inl ⟨rfl, ht⟩)
    · rename_i e; rw [e] at ht; exact .inl ⟨rfl, ht⟩
    · rename_i s' e
      rw [e] at ht
      exact solve_sat hc k s' (turn_ok hc h e) ht
theorem verdict_sat {n : Nat} {cs : List (List Int)} (hc : okCls n cs) : ((solveM n cs (2 ^ (n + 2) + 8) ⟨W0 n, [], [], []⟩).1 = "sat" ∧ Sat cs) ∨ ((solveM n cs (2 ^ (n + 2) + 8) ⟨W0 n, [], [], []⟩).1 = "unsat" ∧ ¬ Sat cs) := by
  have h0 := solve_fuel hc (2 ^ (n + 2) + 8) ⟨W0 n, [], [], []⟩ (st0_ok n) (by have := pow_big (n := n); show 2 * vol n ⟨W0 n, [], [], []⟩ ≤ 2 ^ (n + 2) + 8 + 0; rw [Nat.pow_succ] at *; (first|lia|omega))
  rcases solve_sat hc (2 ^ (n + 2) + 8) ⟨W0 n, [], [], []⟩ (st0_ok n) (fun m hm => .inl fun l hl => nomatch hl) with q | q | q
  · exact .inl q
  · exact .inr q
  · exact absurd q h0
end Mine
end
section
set_option maxRecDepth 100000
set_option linter.unusedVariables false
namespace Mine
inductive Op where
  | var (v : Nat)
  | not
  | and
  | or
def evStep (val : Nat → Bool) : Op → List Bool → Option (List Bool)
  | .var v, st => some (val v :: st)
  | .not, a :: st => some ((!a) :: st)
  | .and, b :: a :: st => some ((a && b) :: st)
  | .or, b :: a :: st => some ((a || b) :: st)
  | _, _ => none
structure Ts where
  cls : List (List Int)
  tot : Nat
  st : List Int
def tsStep : Op → Ts → Option Ts
  | .var v, s => some ⟨s.cls, s.tot, (v : Int) :: s.st⟩
  | .not, ⟨cls, t, a :: st⟩ => some ⟨cls ++ [[-((t : Int) + 1), -a], [(t : Int) + 1, a]], t + 1, ((t : Int) + 1) :: st⟩
  | .and, ⟨cls, t, b :: a :: st⟩ => some ⟨cls ++ [[-((t : Int) + 1), a], [-((t : Int) + 1), b], [(t : Int) + 1, -a, -b]], t + 1, ((t : Int) + 1) :: st⟩
  | .or, ⟨cls, t, b :: a :: st⟩ => some ⟨cls ++ [[(t : Int) + 1, -a], [(t : Int) + 1, -b], [-((t : Int) + 1), a, b]], t + 1, ((t : Int) + 1) :: st⟩
  | _, _ => none
structure TsI (n : Nat) (val : Nat → Bool) (s : Ts) (bs : List Bool) : Prop where
  le : n ≤ s.tot
  ok : okCls s.tot s.cls
  st : ∀ a ∈ s.st, 1 ≤ a ∧ a ≤ s.tot
  all : ∀ m, Mod m s.cls → (∀ v, 1 ≤ v → v ≤ n → m v = val v) → s.st.map (holds m) = bs
  ex : ∃ m, Mod m s.cls ∧ ∀ v, 1 ≤ v → v ≤ n → m v = val v
theorem TsI.nil (n : Nat) (val : Nat → Bool) : TsI n val ⟨[], n, []⟩ [] :=
  ⟨Nat.le_refl _, fun c hc => (by cases hc), fun a ha => (by cases ha), fun _ _ _ => rfl, ⟨val, fun c hc => (by cases hc), fun _ _ _ => rfl⟩⟩
def put (m : Nat → Bool) (x : Nat) (b : Bool) : Nat → Bool := fun v => if v = x then b else m v
theorem holds_put {m : Nat → Bool} {x : Nat} {b : Bool} {l : Int} (h : l.natAbs ≠ x) : holds (put m x b) l = holds m l := by
  unfold holds put; rw [if_neg h]
theorem holds_x {m : Nat → Bool} {t : Nat} {b : Bool} : holds (put m (t + 1) b) ((t : Int) + 1) = b := by
  unfold holds put; rw [if_pos (by (first|lia|omega)), if_pos (by (first|lia|omega))]
theorem mod_put {m : Nat → Bool} {t : Nat} {b : Bool} {cls : List (List Int)} (hok : okCls t cls) (h : Mod m cls) : Mod (put m (t + 1) b) cls := fun c hc => by
  obtain ⟨l, hl, q⟩ := h c hc
  have := (hok c hc l hl).1
  unfold inR at this
  exact ⟨l, hl, by rw [holds_put (by (first|lia|omega))]; exact q⟩
theorem mod_app {m : Nat → Bool} {a b : List (List Int)} : Mod m (a ++ b) ↔ Mod m a ∧ Mod m b :=
  ⟨fun h => ⟨fun c hc => h c (List.mem_append.mpr (.inl hc)), fun c hc => h c (List.mem_append.mpr (.inr hc))⟩, fun h c hc => (List.mem_append.mp hc).elim (h.1 c) (h.2 c)⟩
theorem mod_cons {m : Nat → Bool} {c : List Int} {cs : List (List Int)} : Mod m (c :: cs) ↔ (c.any (holds m) = true) ∧ Mod m cs := by
  unfold Mod
  rw [List.any_eq_true]
  exact ⟨fun h => ⟨h c (.head _), fun d hd => h d (.tail _ hd)⟩, fun h d hd => by
    rcases List.mem_cons.mp hd with e | e
    · rw [e]; exact h.1
    · exact h.2 d e⟩
theorem mod_nil {m : Nat → Bool} : Mod m [] := fun c hc => by cases hc
theorem TsI.step {n t : Nat} {val : Nat → Bool} {cls new : List (List Int)} {top st : List Int} {bt bs : List Bool} {z : Bool} (h : TsI n val ⟨cls, t, top ++ st⟩ (bt ++ bs)) (hl : top.length = bt.length)
    (hok : okCls (t + 1) new)
    (hf : ∀ m, top.map (holds m) = bt → (Mod m new ↔ holds m ((t : Int) + 1) = z)) :
    TsI n val ⟨cls ++ new, t + 1, ((t : Int) + 1) :: st⟩ (z :: bs) := by
  have hst : ∀ a ∈ top ++ st, 1 ≤ a ∧ a ≤ (t : Int) := h.st
  have hle : n ≤ t := h.le
  have hcls : okCls t cls := h.ok
  refine ⟨by show n ≤ t + 1; (first|lia|omega), ?_, ?_, ?_, ?_⟩
  · intro c hc l hl'
    rcases List.mem_append.mp hc with q | q
    · have := hcls c q l hl'
      refine ⟨?_, this.2⟩
      have := this.1
      unfold inR at this ⊢
      show -((t + 1 : Nat) : Int) ≤ l ∧ l ≤ ((t + 1 : Nat) : Int)
      (first|lia|omega)
    · exact hok c q l hl'
  · intro a ha
    show 1 ≤ a ∧ a ≤ ((t + 1 : Nat) : Int)
    rcases List.mem_cons.mp ha with e | e
    · (first|lia|omega)
    · have := hst a (List.mem_append.mpr (.inr e)); (first|lia|omega)
  · intro m hm hv
    obtain ⟨m1, m2⟩ := mod_app.mp hm
    have e := h.all m m1 hv
    have e : (top ++ st).map (holds m) = bt ++ bs := e
    rw [List.map_append] at e
    obtain ⟨e1, e2⟩ := List.append_inj e (by simpa using hl)
    show holds m ((t : Int) + 1) :: st.map (holds m) = z :: bs
    rw [(hf m e1).mp m2, e2]
  · obtain ⟨m, m1, m2⟩ := h.ex
    have hb : top.map (holds (put m (t + 1) z)) = top.map (holds m) := List.map_congr_left fun a ha => holds_put (by have := hst a (List.mem_append.mpr (.inl ha)); (first|lia|omega))
    have e := h.all m m1 m2
    have e : (top ++ st).map (holds m) = bt ++ bs := e
    rw [List.map_append] at e
    obtain ⟨e1, e2⟩ := List.append_inj e (by simpa using hl)
    refine ⟨put m (t + 1) z, mod_app.mpr ⟨mod_put hcls m1, (hf _ (hb.trans e1)).mpr holds_x⟩, fun v h1 h2 => ?_⟩
    rw [← m2 v h1 h2]
    exact if_neg (by (first|lia|omega))
theorem ts_step {n : Nat} {val : Nat → Bool} {s s' : Ts} {bs bs' : List Bool} {o : Op} (h : TsI n val s bs) (hv : ∀ v, o = .var v → 1 ≤ v ∧ v ≤ n) (h1 : tsStep o s = some s') (h2 : evStep val o bs = some bs') : TsI n val s' bs' := by
  obtain ⟨cls, t, st⟩ := s
  cases o with
  | var v =>
    obtain ⟨v1, v2⟩ := hv v rfl
    cases h1
    cases h2
    have hle : n ≤ t := h.le
    refine ⟨h.le, h.ok, fun a ha => ?_, fun m hm hmv => ?_, h.ex⟩
    · rcases List.mem_cons.mp ha with e | e
      · subst e; show 1 ≤ (v : Int) ∧ (v : Int) ≤ t; (first|lia|omega)
      · exact h.st a e
    · show holds m (v : Int) :: _ = _
      rw [show List.map (holds m) st = bs from h.all m hm hmv]
      unfold holds
      rw [if_pos (by (first|lia|omega)), Int.natAbs_natCast, hmv v v1 v2]
  | not =>
    cases st with
    | nil => cases h1
    | cons a st =>
    cases bs with
    | nil => cases h2
    | cons b bs =>
    cases h1
    cases h2
    obtain ⟨a1, a2⟩ : 1 ≤ a ∧ a ≤ (t : Int) := h.st a (.head _)
    refine TsI.step (top := [a]) (bt := [b]) h rfl ?_ fun m e => ?_
    · intro c hc l hl
      simp only [List.mem_cons, List.not_mem_nil, or_false] at hc
      rcases hc with rfl | rfl <;> simp only [List.mem_cons, List.not_mem_nil, or_false] at hl <;> (unfold inR; (first|lia|omega))
    · have e : holds m a = b := by simpa using e
      rw [mod_cons, mod_cons]
      simp only [List.any_cons, List.any_nil, holds_neg m (show a ≠ 0 by (first|lia|omega)), holds_neg m (show ((t : Int) + 1) ≠ 0 by (first|lia|omega)), e, mod_nil, and_true]
      cases holds m ((t : Int) + 1) <;> cases b <;> decide
  | and =>
    match st, h1 with
    | b :: a :: st, h1 =>
    match bs, h2 with
    | y :: x :: bs, h2 =>
    cases h1
    cases h2
    obtain ⟨b1, b2⟩ : 1 ≤ b ∧ b ≤ (t : Int) := h.st b (.head _)
    obtain ⟨a1, a2⟩ : 1 ≤ a ∧ a ≤ (t : Int) := h.st a (.tail _ (.head _))
    refine TsI.step (top := [b, a]) (bt := [y, x]) h rfl ?_ fun m e => ?_
    · intro c hc l hl
      simp only [List.mem_cons, List.not_mem_nil, or_false] at hc
      rcases hc with rfl | rfl | rfl <;> simp only [List.mem_cons, List.not_mem_nil, or_false] at hl <;> (unfold inR; (first|lia|omega))
    · have e : holds m b = y ∧ holds m a = x := by simpa using e
      rw [mod_cons, mod_cons, mod_cons]
      simp only [List.any_cons, List.any_nil, holds_neg m (show a ≠ 0 by (first|lia|omega)), holds_neg m (show b ≠ 0 by (first|lia|omega)), holds_neg m (show ((t : Int) + 1) ≠ 0 by (first|lia|omega)), e.1, e.2, mod_nil, and_true]
      cases holds m ((t : Int) + 1) <;> cases x <;> cases y <;> decide
  | or =>
    match st, h1 with
    | b :: a :: st, h1 =>
    match bs, h2 with
    | y :: x :: bs, h2 =>
    cases h1
    cases h2
    obtain ⟨b1, b2⟩ : 1 ≤ b ∧ b ≤ (t : Int) := h.st b (.head _)
    obtain ⟨a1, a2⟩ : 1 ≤ a ∧ a ≤ (t : Int) := h.st a (.tail _ (.head _))
    refine TsI.step (top := [b, a]) (bt := [y, x]) h rfl ?_ fun m e => ?_
    · intro c hc l hl
      simp only [List.mem_cons, List.not_mem_nil, or_false] at hc
      rcases hc with rfl | rfl | rfl <;> simp only [List.mem_cons, List.not_mem_nil, or_false] at hl <;> (unfold inR; (first|lia|omega))
    · have e : holds m b = y ∧ holds m a = x := by simpa using e
      rw [mod_cons, mod_cons, mod_cons]
      simp only [List.any_cons, List.any_nil, holds_neg m (show a ≠ 0 by (first|lia|omega)), holds_neg m (show b ≠ 0 by (first|lia|omega)), holds_neg m (show ((t : Int) + 1) ≠ 0 by (first|lia|omega)), e.1, e.2, mod_nil, and_true]
      cases holds m ((t : Int) + 1) <;> cases x <;> cases y <;> decide
def unitsM (ws : List Int) (n : Nat) : List (List Int) := (List.range n).map fun (j : Nat) => [((j : Int) + 1) * (ws[j + 1]?).getD 0]
theorem ts_sat {n : Nat} {ws : List Int} {s : Ts} {root : Int} {b : Bool} (hw : ∀ v, 1 ≤ v → v ≤ n → (ws[v]?).getD 0 = 1 ∨ (ws[v]?).getD 0 = -1) (h : TsI n (fun v => (ws[v]?).getD 0 == 1) s [b]) (hs : s.st = [root]) : Sat (s.cls ++ unitsM ws n ++ [[root]]) ↔ b = true := by
  have hu : ∀ m, Mod m (unitsM ws n) ↔ ∀ v, 1 ≤ v → v ≤ n → m v = ((ws[v]?).getD 0 == 1) := by
    intro m
    have one : ∀ v : Nat, 1 ≤ v → v ≤ n → (holds m ((v : Int) * (ws[v]?).getD 0) = true ↔ m v = ((ws[v]?).getD 0 == 1)) := fun v h1 h2 => by
      unfold holds
      rcases hw v h1 h2 with q | q <;> rw [q]
      · rw [Int.mul_one, if_pos (by (first|lia|omega)), Int.natAbs_natCast]
        rfl
      · rw [show (v : Int) * -1 = -(v : Int) by (first|lia|omega), if_neg (by (first|lia|omega)), Int.natAbs_neg, Int.natAbs_natCast]
        cases m v <;> decide
    constructor
    · intro hm v h1 h2
      obtain ⟨l, hl, q⟩ := hm [(((v - 1 : Nat) : Int) + 1) * (ws[v - 1 + 1]?).getD 0] (List.mem_map.mpr ⟨v - 1, List.mem_range.mpr (by (first|lia|omega)), rfl⟩)
      rw [List.mem_singleton.mp hl, show (((v - 1 : Nat) : Int) + 1) = (v : Int) by (first|lia|omega), show v - 1 + 1 = v by (first|lia|omega)] at q
      exact (one v h1 h2).mp q
    · intro hv c hc
      obtain ⟨j, hj, rfl⟩ := List.mem_map.mp hc
      have := List.mem_range.mp hj
      refine ⟨_, .head _, ?_⟩
      have := (one (j + 1) (by (first|lia|omega)) (by (first|lia|omega))).mpr (hv (j + 1) (by (first|lia|omega)) (by (first|lia|omega)))
      rwa [show ((j + 1 : Nat) : Int) = (j : Int) + 1 by (first|lia|omega)] at this
  constructor
  · rintro ⟨m, hm⟩
    obtain ⟨h1, h2⟩ := mod_app.mp hm
    obtain ⟨h3, h4⟩ := mod_app.mp h1
    have e := h.all m h3 ((hu m).mp h4)
    rw [hs] at e
    have h5 := (mod_cons.mp h2).1
    have e : holds m root = b := by simpa using e
    simpa [e] using h5
  · intro hb
    obtain ⟨m, m1, m2⟩ := h.ex
    have e := h.all m m1 m2
    rw [hs] at e
    have e : holds m root = b := by simpa using e
    exact ⟨m, mod_app.mpr ⟨mod_app.mpr ⟨m1, (hu m).mpr m2⟩, mod_cons.mpr ⟨by simp [e, hb], mod_nil⟩⟩⟩
def hStep (n : Nat) : Op → Nat → Option Nat
  | .var v, h => if 1 ≤ v ∧ v ≤ n then some (h + 1) else none
  | .not, h => if 1 ≤ h then some h else none
  | .and, h => if 2 ≤ h then some (h - 1) else none
  | .or, h => if 2 ≤ h then some (h - 1) else none
def hRun (n : Nat) : List Op → Nat → Option Nat
  | [], h => some h
  | o :: os, h => (hStep n o h).bind (hRun n os)
def evRun (val : Nat → Bool) : List Op → List Bool → Option (List Bool)
  | [], st => some st
  | o :: os, st => (evStep val o st).bind (evRun val os)
def tsRun : List Op → Ts → Option Ts
  | [], s => some s
  | o :: os, s => (tsStep o s).bind (tsRun os)
theorem hRun_snoc {n : Nat} {o : Op} {k k' : Nat} : ∀ {es : List Op} {h : Nat}, hRun n es h = some k → hStep n o k = some k' → hRun n (es ++ [o]) h = some k'
  | [], h, e, q => by
    have e : h = k := Option.some.inj e
    subst e
    show (hStep n o h).bind (hRun n []) = some k'
    rw [q]; rfl
  | p :: es, h, e, q => by
    obtain ⟨j, e1, e2⟩ := Option.bind_eq_some_iff.mp (show (hStep n p h).bind (hRun n es) = some k from e)
    show (hStep n p h).bind (hRun n (es ++ [o])) = some k'
    rw [e1]
    exact hRun_snoc e2 q
theorem step_all {n : Nat} {val : Nat → Bool} {o : Op} {s : Ts} {bs : List Bool} {h k : Nat} (h1 : s.st.length = h) (h2 : bs.length = h) (hI : TsI n val s bs) (hs : hStep n o h = some k) :
    ∃ s' bs', tsStep o s = some s' ∧ evStep val o bs = some bs' ∧ s'.st.length = k ∧ bs'.length = k ∧ TsI n val s' bs' ∧ s'.tot ≤ s.tot + 1 ∧ s'.cls.length ≤ s.cls.length + 3 ∧ ((∀ c ∈ s.cls, c.length ≤ 3) → ∀ c ∈ s'.cls, c.length ≤ 3) := by
  have app : ∀ {cls new : List (List Int)}, (∀ c ∈ new, c.length ≤ 3) → (∀ c ∈ cls, c.length ≤ 3) → ∀ c ∈ cls ++ new, c.length ≤ 3 := fun a b c hc => (List.mem_append.mp hc).elim (b c) (a c)
  obtain ⟨cls, t, st⟩ := s
  cases o with
  | var v =>
    dsimp only [hStep] at hs
    split at hs
    · rename_i hv
      cases hs
      exact ⟨_, _, rfl, rfl, by show (_ :: st).length = _; simp; exact h1, by simp [h2], ts_step (o := .var v) hI (fun w e => by cases e; exact hv) rfl rfl, Nat.le_succ _, Nat.le_add_right _ 3, id⟩
    · cases hs
  | not =>
    dsimp only [hStep] at hs
    split at hs
    · rename_i hv
      cases hs
      match st, bs, h1, h2, hI with
      | a :: st, b :: bs, h1, h2, hI => exact ⟨_, _, rfl, rfl, h1, h2, ts_step (o := .not) hI (fun w e => by cases e) rfl rfl, Nat.le_refl _, by simp, app (by simp)⟩
      | [], _, h1, _, _ => simp at h1; (first|lia|omega)
      | _ :: _, [], _, h2, _ => simp at h2; (first|lia|omega)
    · cases hs
  | and =>
    dsimp only [hStep] at hs
    split at hs
    · rename_i hv
      cases hs
      match st, bs, h1, h2, hI with
      | b :: a :: st, y :: x :: bs, h1, h2, hI => exact ⟨_, _, rfl, rfl, by simp at h1 ⊢; (first|lia|omega), by simp at h2 ⊢; (first|lia|omega), ts_step (o := .and) hI (fun w e => by cases e) rfl rfl, Nat.le_refl _, by simp, app (by simp)⟩
      | [], _, h1, _, _ => simp at h1; (first|lia|omega)
      | [_], _, h1, _, _ => simp at h1; (first|lia|omega)
      | _ :: _ :: _, [], _, h2, _ => simp at h2; (first|lia|omega)
      | _ :: _ :: _, [_], _, h2, _ => simp at h2; (first|lia|omega)
    · cases hs
  | or =>
    dsimp only [hStep] at hs
    split at hs
    · rename_i hv
      cases hs
      match st, bs, h1, h2, hI with
      | b :: a :: st, y :: x :: bs, h1, h2, hI => exact ⟨_, _, rfl, rfl, by simp at h1 ⊢; (first|lia|omega), by simp at h2 ⊢; (first|lia|omega), ts_step (o := .or) hI (fun w e => by cases e) rfl rfl, Nat.le_refl _, by simp, app (by simp)⟩
      | [], _, h1, _, _ => simp at h1; (first|lia|omega)
      | [_], _, h1, _, _ => simp at h1; (first|lia|omega)
      | _ :: _ :: _, [], _, h2, _ => simp at h2; (first|lia|omega)
      | _ :: _ :: _, [_], _, h2, _ => simp at h2; (first|lia|omega)
    · cases hs
theorem run_all {n : Nat} {val : Nat → Bool} : ∀ {es : List Op} {s : Ts} {bs : List Bool} {h k : Nat}, s.st.length = h → bs.length = h → TsI n val s bs → hRun n es h = some k →
    ∃ s' bs', tsRun es s = some s' ∧ evRun val es bs = some bs' ∧ s'.st.length = k ∧ bs'.length = k ∧ TsI n val s' bs' ∧ s'.tot ≤ s.tot + es.length ∧ s'.cls.length ≤ s.cls.length + 3 * es.length ∧ ((∀ c ∈ s.cls, c.length ≤ 3) → ∀ c ∈ s'.cls, c.length ≤ 3)
  | [], s, bs, h, k, h1, h2, hI, e => by
    cases e
    exact ⟨s, bs, rfl, rfl, h1, h2, hI, Nat.le_refl _, Nat.le_refl _, id⟩
  | o :: es, s, bs, h, k, h1, h2, hI, e => by
    obtain ⟨j, e1, e2⟩ := Option.bind_eq_some_iff.mp (show (hStep n o h).bind (hRun n es) = some k from e)
    obtain ⟨s1, b1, q1, q2, q3, q4, q5, q6, q7, q8⟩ := step_all h1 h2 hI e1
    obtain ⟨s2, b2, p1, p2, p3, p4, p5, p6, p7, p8⟩ := run_all q3 q4 q5 e2
    refine ⟨s2, b2, ?_, ?_, p3, p4, p5, by simp; (first|lia|omega), by simp; (first|lia|omega), fun z => p8 (q8 z)⟩
    · show (tsStep o s).bind (tsRun es) = _; rw [q1]; exact p1
    · show (evStep val o bs).bind (evRun val es) = _; rw [q2]; exact p2
end Mine
end
section
set_option maxRecDepth 100000
set_option maxHeartbeats 4000000
set_option linter.unusedVariables false
namespace Mine
open PySem PySem.W PyProof.Rows
abbrev pw := PySem.Challenge.pw_k11_0045

def cellA (ns : List Int) (i : Nat) : Int := (ns[i]?).getD 0
theorem cell_spec {W : Wd} {f : Addr} (F : FnIs W f ["script", "i"] (fnBody pw 12) (fnScope pw 12)) (hlen : W.mg "len" = none) {n : Nat} {ns : List Int} {σ : AH} {i : Nat} {Q : AV → AH → Prop} {a : Int} (ha : a = (i : Int)) (hs : σ[0]? = some (.ints ns)) (hz : ns.length < 2 ^ 62) (h : Q (.int (cellA ns i)) σ) :
    TCode W (n + 1) (.stat (.ref f)) [.ref 0, .int a] Q σ := by
  subst ha
  refine code_fn F rfl ?_
  refine kW ?_
  repeat (first|with_reducible refine kW ?_|(first|with_reducible (first|refine pB ?_|refine pF ?_|refine pA ?_|refine kX ?_|refine kY ?_|refine gH ?_|refine gG ?_|refine kD ?_|refine gY ?_|refine kJ ?_|refine gX ?_|refine kL ?_|refine kE ?_|refine kK ?_|refine kC ?_|refine kI ?_|refine kO ?_|refine kP ?_|refine kN ?_|refine pJ ?_|refine pG ?_|refine gB ?_|refine gA ?_|refine pM ?_|refine gJ ?_|refine gN ?_|refine gU ?_|refine gQ ?_|refine gO ?_|refine gV ?_|refine pN ?_)|((with_reducible refine And.intro ?_ ?_);(first|(rw [sizeLine_eq];exact of_decide_eq_true rfl)|omega))|((with_reducible first|refine kZ ?_ ?_|refine kQ ?_ ?_|refine kS ?_ ?_|refine kB ?_ ?_|refine kM ?_ ?_|refine pH ?_ ?_|refine pK ?_ ?_);exact rfl)|((with_reducible first|refine kR ?_ ?_ ?_|refine kT ?_ ?_ ?_|apply kG);exact rfl;exact rfl)|((with_reducible apply gZ);assumption;exact rfl;decide +kernel;exact rfl)|((with_reducible apply kA);assumption;exact rfl;decide +kernel;exact rfl;(first|exact .type _|exact .builtin _);exact rfl)|((with_reducible refine gL ?_ ?_);decide)|((with_reducible refine gK ?_ ?_ ?_);decide;exact PyProof.noPylong_small (by decide))|((with_reducible refine gM ?_ ?_);(first|exact IntMulOk.of_right (intBits_le_64 (by omega) (by omega))|exact IntMulOk.of_left (intBits_le_64 (by omega) (by omega))))|((with_reducible refine kF ?_ ?_ ?_);exact rfl;exact fun _ => rfl)|((with_reducible refine gW ?_ ?_);exact fun _ => rfl)|with_reducible refine pO ?_))

  repeat (first|with_reducible refine kW ?_|(first|with_reducible (first|refine pB ?_|refine pF ?_|refine pA ?_|refine kX ?_|refine kY ?_|refine gH ?_|refine gG ?_|refine kD ?_|refine gY ?_|refine kJ ?_|refine gX ?_|refine kL ?_|refine kE ?_|refine kK ?_|refine kC ?_|refine kI ?_|refine kO ?_|refine kP ?_|refine kN ?_|refine pJ ?_|refine pG ?_|refine gB ?_|refine gA ?_|refine pM ?_|refine gJ ?_|refine gN ?_|refine gU ?_|refine gQ ?_|refine gO ?_|refine gV ?_|refine pN ?_)|((with_reducible refine And.intro ?_ ?_);(first|(rw [sizeLine_eq];exact of_decide_eq_true rfl)|omega))|((with_reducible first|refine kZ ?_ ?_|refine kQ ?_ ?_|refine kS ?_ ?_|refine kB ?_ ?_|refine kM ?_ ?_|refine pH ?_ ?_|refine pK ?_ ?_);exact rfl)|((with_reducible first|refine kR ?_ ?_ ?_|refine kT ?_ ?_ ?_|apply kG);exact rfl;exact rfl)|((with_reducible apply gZ);assumption;exact rfl;decide +kernel;exact rfl)|((with_reducible apply kA);assumption;exact rfl;decide +kernel;exact rfl;(first|exact .type _|exact .builtin _);exact rfl)|((with_reducible refine gL ?_ ?_);decide)|((with_reducible refine gK ?_ ?_ ?_);decide;exact PyProof.noPylong_small (by decide))|((with_reducible refine gM ?_ ?_);(first|exact IntMulOk.of_right (intBits_le_64 (by omega) (by omega))|exact IntMulOk.of_left (intBits_le_64 (by omega) (by omega))))|((with_reducible refine kF ?_ ?_ ?_);exact rfl;exact fun _ => rfl)|((with_reducible refine gW ?_ ?_);exact fun _ => rfl)|with_reducible refine pO ?_))
  refine tcall_len_ints hs (by (first|lia|omega)) ?_
  repeat (first|with_reducible refine kW ?_|(first|with_reducible (first|refine pB ?_|refine pF ?_|refine pA ?_|refine kX ?_|refine kY ?_|refine gH ?_|refine gG ?_|refine kD ?_|refine gY ?_|refine kJ ?_|refine gX ?_|refine kL ?_|refine kE ?_|refine kK ?_|refine kC ?_|refine kI ?_|refine kO ?_|refine kP ?_|refine kN ?_|refine pJ ?_|refine pG ?_|refine gB ?_|refine gA ?_|refine pM ?_|refine gJ ?_|refine gN ?_|refine gU ?_|refine gQ ?_|refine gO ?_|refine gV ?_|refine pN ?_)|((with_reducible refine And.intro ?_ ?_);(first|(rw [sizeLine_eq];exact of_decide_eq_true rfl)|omega))|((with_reducible first|refine kZ ?_ ?_|refine kQ ?_ ?_|refine kS ?_ ?_|refine kB ?_ ?_|refine kM ?_ ?_|refine pH ?_ ?_|refine pK ?_ ?_);exact rfl)|((with_reducible first|refine kR ?_ ?_ ?_|refine kT ?_ ?_ ?_|apply kG);exact rfl;exact rfl)|((with_reducible apply gZ);assumption;exact rfl;decide +kernel;exact rfl)|((with_reducible apply kA);assumption;exact rfl;decide +kernel;exact rfl;(first|exact .type _|exact .builtin _);exact rfl)|((with_reducible refine gL ?_ ?_);decide)|((with_reducible refine gK ?_ ?_ ?_);decide;exact PyProof.noPylong_small (by decide))|((with_reducible refine gM ?_ ?_);(first|exact IntMulOk.of_right (intBits_le_64 (by omega) (by omega))|exact IntMulOk.of_left (intBits_le_64 (by omega) (by omega))))|((with_reducible refine kF ?_ ?_ ?_);exact rfl;exact fun _ => rfl)|((with_reducible refine gW ?_ ?_);exact fun _ => rfl)|with_reducible refine pO ?_))
  split
  · rename_i hlt
    have hlt : i < ns.length := by simpa using hlt
    repeat (first|with_reducible refine kW ?_|(first|with_reducible (first|refine pB ?_|refine pF ?_|refine pA ?_|refine kX ?_|refine kY ?_|refine gH ?_|refine gG ?_|refine kD ?_|refine gY ?_|refine kJ ?_|refine gX ?_|refine kL ?_|refine kE ?_|refine kK ?_|refine kC ?_|refine kI ?_|refine kO ?_|refine kP ?_|refine kN ?_|refine pJ ?_|refine pG ?_|refine gB ?_|refine gA ?_|refine pM ?_|refine gJ ?_|refine gN ?_|refine gU ?_|refine gQ ?_|refine gO ?_|refine gV ?_|refine pN ?_)|((with_reducible refine And.intro ?_ ?_);(first|(rw [sizeLine_eq];exact of_decide_eq_true rfl)|omega))|((with_reducible first|refine kZ ?_ ?_|refine kQ ?_ ?_|refine kS ?_ ?_|refine kB ?_ ?_|refine kM ?_ ?_|refine pH ?_ ?_|refine pK ?_ ?_);exact rfl)|((with_reducible first|refine kR ?_ ?_ ?_|refine kT ?_ ?_ ?_|apply kG);exact rfl;exact rfl)|((with_reducible apply gZ);assumption;exact rfl;decide +kernel;exact rfl)|((with_reducible apply kA);assumption;exact rfl;decide +kernel;exact rfl;(first|exact .type _|exact .builtin _);exact rfl)|((with_reducible refine gL ?_ ?_);decide)|((with_reducible refine gK ?_ ?_ ?_);decide;exact PyProof.noPylong_small (by decide))|((with_reducible refine gM ?_ ?_);(first|exact IntMulOk.of_right (intBits_le_64 (by omega) (by omega))|exact IntMulOk.of_left (intBits_le_64 (by omega) (by omega))))|((with_reducible refine kF ?_ ?_ ?_);exact rfl;exact fun _ => rfl)|((with_reducible refine gW ?_ ?_);exact fun _ => rfl)|with_reducible refine pO ?_))
    refine tidx_ints rfl hs (by (first|lia|omega)) (x := ns[i]) (by simp) (by (first|lia|omega)) ?_
    have : cellA ns i = ns[i] := by simp [cellA, hlt]
    rw [this] at h
    exact h
  · rename_i hlt
    have hlt : ¬ i < ns.length := by simpa using hlt
    repeat (first|with_reducible refine kW ?_|(first|with_reducible (first|refine pB ?_|refine pF ?_|refine pA ?_|refine kX ?_|refine kY ?_|refine gH ?_|refine gG ?_|refine kD ?_|refine gY ?_|refine kJ ?_|refine gX ?_|refine kL ?_|refine kE ?_|refine kK ?_|refine kC ?_|refine kI ?_|refine kO ?_|refine kP ?_|refine kN ?_|refine pJ ?_|refine pG ?_|refine gB ?_|refine gA ?_|refine pM ?_|refine gJ ?_|refine gN ?_|refine gU ?_|refine gQ ?_|refine gO ?_|refine gV ?_|refine pN ?_)|((with_reducible refine And.intro ?_ ?_);(first|(rw [sizeLine_eq];exact of_decide_eq_true rfl)|omega))|((with_reducible first|refine kZ ?_ ?_|refine kQ ?_ ?_|refine kS ?_ ?_|refine kB ?_ ?_|refine kM ?_ ?_|refine pH ?_ ?_|refine pK ?_ ?_);exact rfl)|((with_reducible first|refine kR ?_ ?_ ?_|refine kT ?_ ?_ ?_|apply kG);exact rfl;exact rfl)|((with_reducible apply gZ);assumption;exact rfl;decide +kernel;exact rfl)|((with_reducible apply kA);assumption;exact rfl;decide +kernel;exact rfl;(first|exact .type _|exact .builtin _);exact rfl)|((with_reducible refine gL ?_ ?_);decide)|((with_reducible refine gK ?_ ?_ ?_);decide;exact PyProof.noPylong_small (by decide))|((with_reducible refine gM ?_ ?_);(first|exact IntMulOk.of_right (intBits_le_64 (by omega) (by omega))|exact IntMulOk.of_left (intBits_le_64 (by omega) (by omega))))|((with_reducible refine kF ?_ ?_ ?_);exact rfl;exact fun _ => rfl)|((with_reducible refine gW ?_ ?_);exact fun _ => rfl)|with_reducible refine pO ?_))
    have : cellA ns i = 0 := by simp [cellA, List.getElem?_eq_none (Nat.not_lt.mp hlt)]
    rw [this] at h
    exact h


theorem lv_spec {W : Wd} {f : Addr} (F : FnIs W f ["lit", "values"] (fnBody pw 2) (fnScope pw 2)) {lv : Nat} {n l : Nat} {ws : List Int} {lit : Int} {σ : AH} {Q : AV → AH → Prop}
    (hl : σ[l]? = some (.list (ws.map .int))) (hw : ws.length = n + 1) (hn : n ≤ 1000) (hlit : inR n lit) (h : Q (.int (wv ws lit)) σ) :
    TCode W (lv + 1) (.stat (.ref f)) [.int lit, .ref l] Q σ := by
  unfold inR at hlit
  refine code_fn F rfl ?_
  refine kW ?_
  repeat (first|with_reducible refine kW ?_|(first|with_reducible (first|refine pB ?_|refine pF ?_|refine pA ?_|refine kX ?_|refine kY ?_|refine gH ?_|refine gG ?_|refine kD ?_|refine gY ?_|refine kJ ?_|refine gX ?_|refine kL ?_|refine kE ?_|refine kK ?_|refine kC ?_|refine kI ?_|refine kO ?_|refine kP ?_|refine kN ?_|refine pJ ?_|refine pG ?_|refine gB ?_|refine gA ?_|refine pM ?_|refine gJ ?_|refine gN ?_|refine gU ?_|refine gQ ?_|refine gO ?_|refine gV ?_|refine pN ?_)|((with_reducible refine And.intro ?_ ?_);(first|(rw [sizeLine_eq];exact of_decide_eq_true rfl)|omega))|((with_reducible first|refine kZ ?_ ?_|refine kQ ?_ ?_|refine kS ?_ ?_|refine kB ?_ ?_|refine kM ?_ ?_|refine pH ?_ ?_|refine pK ?_ ?_);exact rfl)|((with_reducible first|refine kR ?_ ?_ ?_|refine kT ?_ ?_ ?_|apply kG);exact rfl;exact rfl)|((with_reducible apply gZ);assumption;exact rfl;decide +kernel;exact rfl)|((with_reducible apply kA);assumption;exact rfl;decide +kernel;exact rfl;(first|exact .type _|exact .builtin _);exact rfl)|((with_reducible refine gL ?_ ?_);decide)|((with_reducible refine gK ?_ ?_ ?_);decide;exact PyProof.noPylong_small (by decide))|((with_reducible refine gM ?_ ?_);(first|exact IntMulOk.of_right (intBits_le_64 (by omega) (by omega))|exact IntMulOk.of_left (intBits_le_64 (by omega) (by omega))))|((with_reducible refine kF ?_ ?_ ?_);exact rfl;exact fun _ => rfl)|((with_reducible refine gW ?_ ?_);exact fun _ => rfl)|with_reducible refine pO ?_))
  split
  · rename_i hpos
    have hpos : 0 < lit := by simpa using hpos
    repeat (first|with_reducible refine kW ?_|(first|with_reducible (first|refine pB ?_|refine pF ?_|refine pA ?_|refine kX ?_|refine kY ?_|refine gH ?_|refine gG ?_|refine kD ?_|refine gY ?_|refine kJ ?_|refine gX ?_|refine kL ?_|refine kE ?_|refine kK ?_|refine kC ?_|refine kI ?_|refine kO ?_|refine kP ?_|refine kN ?_|refine pJ ?_|refine pG ?_|refine gB ?_|refine gA ?_|refine pM ?_|refine gJ ?_|refine gN ?_|refine gU ?_|refine gQ ?_|refine gO ?_|refine gV ?_|refine pN ?_)|((with_reducible refine And.intro ?_ ?_);(first|(rw [sizeLine_eq];exact of_decide_eq_true rfl)|omega))|((with_reducible first|refine kZ ?_ ?_|refine kQ ?_ ?_|refine kS ?_ ?_|refine kB ?_ ?_|refine kM ?_ ?_|refine pH ?_ ?_|refine pK ?_ ?_);exact rfl)|((with_reducible first|refine kR ?_ ?_ ?_|refine kT ?_ ?_ ?_|apply kG);exact rfl;exact rfl)|((with_reducible apply gZ);assumption;exact rfl;decide +kernel;exact rfl)|((with_reducible apply kA);assumption;exact rfl;decide +kernel;exact rfl;(first|exact .type _|exact .builtin _);exact rfl)|((with_reducible refine gL ?_ ?_);decide)|((with_reducible refine gK ?_ ?_ ?_);decide;exact PyProof.noPylong_small (by decide))|((with_reducible refine gM ?_ ?_);(first|exact IntMulOk.of_right (intBits_le_64 (by omega) (by omega))|exact IntMulOk.of_left (intBits_le_64 (by omega) (by omega))))|((with_reducible refine kF ?_ ?_ ?_);exact rfl;exact fun _ => rfl)|((with_reducible refine gW ?_ ?_);exact fun _ => rfl)|with_reducible refine pO ?_))
    refine tidx_nums rfl hl (j := lit.toNat) (by (first|lia|omega)) (by (first|lia|omega)) (by (first|lia|omega)) ?_
    have e : wv ws lit = ws[lit.toNat] := by unfold wv; rw [if_pos hpos, List.getElem?_eq_getElem (by (first|lia|omega))]; rfl
    rw [e] at h
    exact h
  · rename_i hpos
    have hpos : ¬ 0 < lit := by simpa using hpos
    repeat (first|with_reducible refine kW ?_|(first|with_reducible (first|refine pB ?_|refine pF ?_|refine pA ?_|refine kX ?_|refine kY ?_|refine gH ?_|refine gG ?_|refine kD ?_|refine gY ?_|refine kJ ?_|refine gX ?_|refine kL ?_|refine kE ?_|refine kK ?_|refine kC ?_|refine kI ?_|refine kO ?_|refine kP ?_|refine kN ?_|refine pJ ?_|refine pG ?_|refine gB ?_|refine gA ?_|refine pM ?_|refine gJ ?_|refine gN ?_|refine gU ?_|refine gQ ?_|refine gO ?_|refine gV ?_|refine pN ?_)|((with_reducible refine And.intro ?_ ?_);(first|(rw [sizeLine_eq];exact of_decide_eq_true rfl)|omega))|((with_reducible first|refine kZ ?_ ?_|refine kQ ?_ ?_|refine kS ?_ ?_|refine kB ?_ ?_|refine kM ?_ ?_|refine pH ?_ ?_|refine pK ?_ ?_);exact rfl)|((with_reducible first|refine kR ?_ ?_ ?_|refine kT ?_ ?_ ?_|apply kG);exact rfl;exact rfl)|((with_reducible apply gZ);assumption;exact rfl;decide +kernel;exact rfl)|((with_reducible apply kA);assumption;exact rfl;decide +kernel;exact rfl;(first|exact .type _|exact .builtin _);exact rfl)|((with_reducible refine gL ?_ ?_);decide)|((with_reducible refine gK ?_ ?_ ?_);decide;exact PyProof.noPylong_small (by decide))|((with_reducible refine gM ?_ ?_);(first|exact IntMulOk.of_right (intBits_le_64 (by omega) (by omega))|exact IntMulOk.of_left (intBits_le_64 (by omega) (by omega))))|((with_reducible refine kF ?_ ?_ ?_);exact rfl;exact fun _ => rfl)|((with_reducible refine gW ?_ ?_);exact fun _ => rfl)|with_reducible refine pO ?_))
    refine tidx_nums rfl hl (j := (-lit).toNat) (by (first|lia|omega)) (by (first|lia|omega)) (by (first|lia|omega)) ?_
    repeat (first|with_reducible refine kW ?_|(first|with_reducible (first|refine pB ?_|refine pF ?_|refine pA ?_|refine kX ?_|refine kY ?_|refine gH ?_|refine gG ?_|refine kD ?_|refine gY ?_|refine kJ ?_|refine gX ?_|refine kL ?_|refine kE ?_|refine kK ?_|refine kC ?_|refine kI ?_|refine kO ?_|refine kP ?_|refine kN ?_|refine pJ ?_|refine pG ?_|refine gB ?_|refine gA ?_|refine pM ?_|refine gJ ?_|refine gN ?_|refine gU ?_|refine gQ ?_|refine gO ?_|refine gV ?_|refine pN ?_)|((with_reducible refine And.intro ?_ ?_);(first|(rw [sizeLine_eq];exact of_decide_eq_true rfl)|omega))|((with_reducible first|refine kZ ?_ ?_|refine kQ ?_ ?_|refine kS ?_ ?_|refine kB ?_ ?_|refine kM ?_ ?_|refine pH ?_ ?_|refine pK ?_ ?_);exact rfl)|((with_reducible first|refine kR ?_ ?_ ?_|refine kT ?_ ?_ ?_|apply kG);exact rfl;exact rfl)|((with_reducible apply gZ);assumption;exact rfl;decide +kernel;exact rfl)|((with_reducible apply kA);assumption;exact rfl;decide +kernel;exact rfl;(first|exact .type _|exact .builtin _);exact rfl)|((with_reducible refine gL ?_ ?_);decide)|((with_reducible refine gK ?_ ?_ ?_);decide;exact PyProof.noPylong_small (by decide))|((with_reducible refine gM ?_ ?_);(first|exact IntMulOk.of_right (intBits_le_64 (by omega) (by omega))|exact IntMulOk.of_left (intBits_le_64 (by omega) (by omega))))|((with_reducible refine kF ?_ ?_ ?_);exact rfl;exact fun _ => rfl)|((with_reducible refine gW ?_ ?_);exact fun _ => rfl)|with_reducible refine pO ?_))
    have e : wv ws lit = -ws[(-lit).toNat] := by unfold wv; rw [if_neg hpos, List.getElem?_eq_getElem (by (first|lia|omega))]; rfl
    rw [e] at h
    exact h


theorem cs_spec {W : Wd} {f fw : Addr} (F : FnIs W f ["clause", "values"] (fnBody pw 3) (fnScope pw 3)) (Fw : FnIs W fw ["lit", "values"] (fnBody pw 2) (fnScope pw 2)) (gw : W.mg "literal_value" = some (.ref fw)) (hlen : W.mg "len" = none) {lv n lc lw : Nat} {c ws : List Int} {σ : AH} {Q : AV → AH → Prop}
    (hc : σ[lc]? = some (.list (c.map .int))) (hw : σ[lw]? = some (.list (ws.map .int))) (hwl : ws.length = n + 1) (hn : n ≤ 1000) (hr : ∀ l ∈ c, inR n l) (hcl : c.length ≤ 100000)
    (h : ∀ t σ', Sub σ σ' → σ'[t]? = some (.tuple [.str (csS (cstate c ws)), .int (csI (cstate c ws))]) → Q (.ref t) σ') :
    TCode W (lv + 2) (.stat (.ref f)) [.ref lc, .ref lw] Q σ := by
  refine code_fn F rfl ?_
  refine kW ?_
  refine ts_for_list rfl rfl ?_
  repeat (first|with_reducible refine kW ?_|(first|with_reducible (first|refine pB ?_|refine pF ?_|refine pA ?_|refine kX ?_|refine kY ?_|refine gH ?_|refine gG ?_|refine kD ?_|refine gY ?_|refine kJ ?_|refine gX ?_|refine kL ?_|refine kE ?_|refine kK ?_|refine kC ?_|refine kI ?_|refine kO ?_|refine kP ?_|refine kN ?_|refine pJ ?_|refine pG ?_|refine gB ?_|refine gA ?_|refine pM ?_|refine gJ ?_|refine gN ?_|refine gU ?_|refine gQ ?_|refine gO ?_|refine gV ?_|refine pN ?_)|((with_reducible refine And.intro ?_ ?_);(first|(rw [sizeLine_eq];exact of_decide_eq_true rfl)|omega))|((with_reducible first|refine kZ ?_ ?_|refine kQ ?_ ?_|refine kS ?_ ?_|refine kB ?_ ?_|refine kM ?_ ?_|refine pH ?_ ?_|refine pK ?_ ?_);exact rfl)|((with_reducible first|refine kR ?_ ?_ ?_|refine kT ?_ ?_ ?_|apply kG);exact rfl;exact rfl)|((with_reducible apply gZ);assumption;exact rfl;decide +kernel;exact rfl)|((with_reducible apply kA);assumption;exact rfl;decide +kernel;exact rfl;(first|exact .type _|exact .builtin _);exact rfl)|((with_reducible refine gL ?_ ?_);decide)|((with_reducible refine gK ?_ ?_ ?_);decide;exact PyProof.noPylong_small (by decide))|((with_reducible refine gM ?_ ?_);(first|exact IntMulOk.of_right (intBits_le_64 (by omega) (by omega))|exact IntMulOk.of_left (intBits_le_64 (by omega) (by omega))))|((with_reducible refine kF ?_ ?_ ?_);exact rfl;exact fun _ => rfl)|((with_reducible refine gW ?_ ?_);exact fun _ => rfl)|with_reducible refine pO ?_))
  refine ⟨_, _, fun i m' σ' => LE [("clause", .ref lc), ("values", .ref lw)] m' ∧ σ' = σ ∧ ∀ l ∈ c.take i, wv ws l ≠ 1, rfl, ⟨by (repeat (first | exact LE.nil | refine LE.cons (by exact rfl) ?_)), rfl, by simp⟩, fun i m' σ' _ j => by rw [j.2.1]; exact hc, ?_, ?_⟩
  · rintro i x m' σ' hx ⟨le, e, hj⟩
    have e := e.symm
    subst e
    rw [List.getElem?_map] at hx
    obtain ⟨l, hl, rfl⟩ := Option.map_eq_some_iff.mp hx
    refine TA.forget le (ta_name rfl ?_)
    repeat (first|with_reducible refine kW ?_|(first|with_reducible (first|refine pB ?_|refine pF ?_|refine pA ?_|refine kX ?_|refine kY ?_|refine gH ?_|refine gG ?_|refine kD ?_|refine gY ?_|refine kJ ?_|refine gX ?_|refine kL ?_|refine kE ?_|refine kK ?_|refine kC ?_|refine kI ?_|refine kO ?_|refine kP ?_|refine kN ?_|refine pJ ?_|refine pG ?_|refine gB ?_|refine gA ?_|refine pM ?_|refine gJ ?_|refine gN ?_|refine gU ?_|refine gQ ?_|refine gO ?_|refine gV ?_|refine pN ?_)|((with_reducible refine And.intro ?_ ?_);(first|(rw [sizeLine_eq];exact of_decide_eq_true rfl)|omega))|((with_reducible first|refine kZ ?_ ?_|refine kQ ?_ ?_|refine kS ?_ ?_|refine kB ?_ ?_|refine kM ?_ ?_|refine pH ?_ ?_|refine pK ?_ ?_);exact rfl)|((with_reducible first|refine kR ?_ ?_ ?_|refine kT ?_ ?_ ?_|apply kG);exact rfl;exact rfl)|((with_reducible apply gZ);assumption;exact rfl;decide +kernel;exact rfl)|((with_reducible apply kA);assumption;exact rfl;decide +kernel;exact rfl;(first|exact .type _|exact .builtin _);exact rfl)|((with_reducible refine gL ?_ ?_);decide)|((with_reducible refine gK ?_ ?_ ?_);decide;exact PyProof.noPylong_small (by decide))|((with_reducible refine gM ?_ ?_);(first|exact IntMulOk.of_right (intBits_le_64 (by omega) (by omega))|exact IntMulOk.of_left (intBits_le_64 (by omega) (by omega))))|((with_reducible refine kF ?_ ?_ ?_);exact rfl;exact fun _ => rfl)|((with_reducible refine gW ?_ ?_);exact fun _ => rfl)|with_reducible refine pO ?_))
    refine te_callG gw rfl Fw.keeps rfl ?_
    repeat (first|with_reducible refine kW ?_|(first|with_reducible (first|refine pB ?_|refine pF ?_|refine pA ?_|refine kX ?_|refine kY ?_|refine gH ?_|refine gG ?_|refine kD ?_|refine gY ?_|refine kJ ?_|refine gX ?_|refine kL ?_|refine kE ?_|refine kK ?_|refine kC ?_|refine kI ?_|refine kO ?_|refine kP ?_|refine kN ?_|refine pJ ?_|refine pG ?_|refine gB ?_|refine gA ?_|refine pM ?_|refine gJ ?_|refine gN ?_|refine gU ?_|refine gQ ?_|refine gO ?_|refine gV ?_|refine pN ?_)|((with_reducible refine And.intro ?_ ?_);(first|(rw [sizeLine_eq];exact of_decide_eq_true rfl)|omega))|((with_reducible first|refine kZ ?_ ?_|refine kQ ?_ ?_|refine kS ?_ ?_|refine kB ?_ ?_|refine kM ?_ ?_|refine pH ?_ ?_|refine pK ?_ ?_);exact rfl)|((with_reducible first|refine kR ?_ ?_ ?_|refine kT ?_ ?_ ?_|apply kG);exact rfl;exact rfl)|((with_reducible apply gZ);assumption;exact rfl;decide +kernel;exact rfl)|((with_reducible apply kA);assumption;exact rfl;decide +kernel;exact rfl;(first|exact .type _|exact .builtin _);exact rfl)|((with_reducible refine gL ?_ ?_);decide)|((with_reducible refine gK ?_ ?_ ?_);decide;exact PyProof.noPylong_small (by decide))|((with_reducible refine gM ?_ ?_);(first|exact IntMulOk.of_right (intBits_le_64 (by omega) (by omega))|exact IntMulOk.of_left (intBits_le_64 (by omega) (by omega))))|((with_reducible refine kF ?_ ?_ ?_);exact rfl;exact fun _ => rfl)|((with_reducible refine gW ?_ ?_);exact fun _ => rfl)|with_reducible refine pO ?_))
    refine (lv_spec Fw hw hwl hn (hr l (List.mem_of_getElem? hl)) ?_).call
    repeat (first|with_reducible refine kW ?_|(first|with_reducible (first|refine pB ?_|refine pF ?_|refine pA ?_|refine kX ?_|refine kY ?_|refine gH ?_|refine gG ?_|refine kD ?_|refine gY ?_|refine kJ ?_|refine gX ?_|refine kL ?_|refine kE ?_|refine kK ?_|refine kC ?_|refine kI ?_|refine kO ?_|refine kP ?_|refine kN ?_|refine pJ ?_|refine pG ?_|refine gB ?_|refine gA ?_|refine pM ?_|refine gJ ?_|refine gN ?_|refine gU ?_|refine gQ ?_|refine gO ?_|refine gV ?_|refine pN ?_)|((with_reducible refine And.intro ?_ ?_);(first|(rw [sizeLine_eq];exact of_decide_eq_true rfl)|omega))|((with_reducible first|refine kZ ?_ ?_|refine kQ ?_ ?_|refine kS ?_ ?_|refine kB ?_ ?_|refine kM ?_ ?_|refine pH ?_ ?_|refine pK ?_ ?_);exact rfl)|((with_reducible first|refine kR ?_ ?_ ?_|refine kT ?_ ?_ ?_|apply kG);exact rfl;exact rfl)|((with_reducible apply gZ);assumption;exact rfl;decide +kernel;exact rfl)|((with_reducible apply kA);assumption;exact rfl;decide +kernel;exact rfl;(first|exact .type _|exact .builtin _);exact rfl)|((with_reducible refine gL ?_ ?_);decide)|((with_reducible refine gK ?_ ?_ ?_);decide;exact PyProof.noPylong_small (by decide))|((with_reducible refine gM ?_ ?_);(first|exact IntMulOk.of_right (intBits_le_64 (by omega) (by omega))|exact IntMulOk.of_left (intBits_le_64 (by omega) (by omega))))|((with_reducible refine kF ?_ ?_ ?_);exact rfl;exact fun _ => rfl)|((with_reducible refine gW ?_ ?_);exact fun _ => rfl)|with_reducible refine pO ?_))
    split
    · rename_i h1
      have e : cstate c ws = .tru := by
        unfold cstate
        rw [if_pos (List.any_eq_true.mpr ⟨l, List.mem_of_getElem? hl, h1⟩)]
      rw [e] at h
      repeat (first|with_reducible refine kW ?_|(first|with_reducible (first|refine pB ?_|refine pF ?_|refine pA ?_|refine kX ?_|refine kY ?_|refine gH ?_|refine gG ?_|refine kD ?_|refine gY ?_|refine kJ ?_|refine gX ?_|refine kL ?_|refine kE ?_|refine kK ?_|refine kC ?_|refine kI ?_|refine kO ?_|refine kP ?_|refine kN ?_|refine pJ ?_|refine pG ?_|refine gB ?_|refine gA ?_|refine pM ?_|refine gJ ?_|refine gN ?_|refine gU ?_|refine gQ ?_|refine gO ?_|refine gV ?_|refine pN ?_)|((with_reducible refine And.intro ?_ ?_);(first|(rw [sizeLine_eq];exact of_decide_eq_true rfl)|omega))|((with_reducible first|refine kZ ?_ ?_|refine kQ ?_ ?_|refine kS ?_ ?_|refine kB ?_ ?_|refine kM ?_ ?_|refine pH ?_ ?_|refine pK ?_ ?_);exact rfl)|((with_reducible first|refine kR ?_ ?_ ?_|refine kT ?_ ?_ ?_|apply kG);exact rfl;exact rfl)|((with_reducible apply gZ);assumption;exact rfl;decide +kernel;exact rfl)|((with_reducible apply kA);assumption;exact rfl;decide +kernel;exact rfl;(first|exact .type _|exact .builtin _);exact rfl)|((with_reducible refine gL ?_ ?_);decide)|((with_reducible refine gK ?_ ?_ ?_);decide;exact PyProof.noPylong_small (by decide))|((with_reducible refine gM ?_ ?_);(first|exact IntMulOk.of_right (intBits_le_64 (by omega) (by omega))|exact IntMulOk.of_left (intBits_le_64 (by omega) (by omega))))|((with_reducible refine kF ?_ ?_ ?_);exact rfl;exact fun _ => rfl)|((with_reducible refine gW ?_ ?_);exact fun _ => rfl)|with_reducible refine pO ?_))
      exact h _ _ (Sub.snoc _ _) (get_snoc _ _)
    · rename_i h1
      have h1 : wv ws l ≠ 1 := by simpa using h1
      repeat (first|with_reducible refine kW ?_|(first|with_reducible (first|refine pB ?_|refine pF ?_|refine pA ?_|refine kX ?_|refine kY ?_|refine gH ?_|refine gG ?_|refine kD ?_|refine gY ?_|refine kJ ?_|refine gX ?_|refine kL ?_|refine kE ?_|refine kK ?_|refine kC ?_|refine kI ?_|refine kO ?_|refine kP ?_|refine kN ?_|refine pJ ?_|refine pG ?_|refine gB ?_|refine gA ?_|refine pM ?_|refine gJ ?_|refine gN ?_|refine gU ?_|refine gQ ?_|refine gO ?_|refine gV ?_|refine pN ?_)|((with_reducible refine And.intro ?_ ?_);(first|(rw [sizeLine_eq];exact of_decide_eq_true rfl)|omega))|((with_reducible first|refine kZ ?_ ?_|refine kQ ?_ ?_|refine kS ?_ ?_|refine kB ?_ ?_|refine kM ?_ ?_|refine pH ?_ ?_|refine pK ?_ ?_);exact rfl)|((with_reducible first|refine kR ?_ ?_ ?_|refine kT ?_ ?_ ?_|apply kG);exact rfl;exact rfl)|((with_reducible apply gZ);assumption;exact rfl;decide +kernel;exact rfl)|((with_reducible apply kA);assumption;exact rfl;decide +kernel;exact rfl;(first|exact .type _|exact .builtin _);exact rfl)|((with_reducible refine gL ?_ ?_);decide)|((with_reducible refine gK ?_ ?_ ?_);decide;exact PyProof.noPylong_small (by decide))|((with_reducible refine gM ?_ ?_);(first|exact IntMulOk.of_right (intBits_le_64 (by omega) (by omega))|exact IntMulOk.of_left (intBits_le_64 (by omega) (by omega))))|((with_reducible refine kF ?_ ?_ ?_);exact rfl;exact fun _ => rfl)|((with_reducible refine gW ?_ ?_);exact fun _ => rfl)|with_reducible refine pO ?_))
      refine ⟨by (repeat (first | exact LE.nil | refine LE.cons (by exact rfl) ?_)), rfl, fun y hy => ?_⟩
      rw [List.take_add_one, hl] at hy
      rcases List.mem_append.mp hy with q | q
      · exact hj y q
      · simp at q; rw [q]; exact h1
  · rintro m' σ' ⟨le, e, hj⟩
    have e := e.symm
    subst e
    rw [List.length_map, List.take_length] at hj
    have hany : ¬ (c.any fun l => wv ws l == 1) = true := fun q => by
      obtain ⟨l, a, b⟩ := List.any_eq_true.mp q
      exact hj l a (by simpa using b)
    refine TX.forget le ?_
    refine kW ?_
    refine ts_assign_comp rfl rfl rfl ?_
    repeat (first|with_reducible refine kW ?_|(first|with_reducible (first|refine pB ?_|refine pF ?_|refine pA ?_|refine kX ?_|refine kY ?_|refine gH ?_|refine gG ?_|refine kD ?_|refine gY ?_|refine kJ ?_|refine gX ?_|refine kL ?_|refine kE ?_|refine kK ?_|refine kC ?_|refine kI ?_|refine kO ?_|refine kP ?_|refine kN ?_|refine pJ ?_|refine pG ?_|refine gB ?_|refine gA ?_|refine pM ?_|refine gJ ?_|refine gN ?_|refine gU ?_|refine gQ ?_|refine gO ?_|refine gV ?_|refine pN ?_)|((with_reducible refine And.intro ?_ ?_);(first|(rw [sizeLine_eq];exact of_decide_eq_true rfl)|omega))|((with_reducible first|refine kZ ?_ ?_|refine kQ ?_ ?_|refine kS ?_ ?_|refine kB ?_ ?_|refine kM ?_ ?_|refine pH ?_ ?_|refine pK ?_ ?_);exact rfl)|((with_reducible first|refine kR ?_ ?_ ?_|refine kT ?_ ?_ ?_|apply kG);exact rfl;exact rfl)|((with_reducible apply gZ);assumption;exact rfl;decide +kernel;exact rfl)|((with_reducible apply kA);assumption;exact rfl;decide +kernel;exact rfl;(first|exact .type _|exact .builtin _);exact rfl)|((with_reducible refine gL ?_ ?_);decide)|((with_reducible refine gK ?_ ?_ ?_);decide;exact PyProof.noPylong_small (by decide))|((with_reducible refine gM ?_ ?_);(first|exact IntMulOk.of_right (intBits_le_64 (by omega) (by omega))|exact IntMulOk.of_left (intBits_le_64 (by omega) (by omega))))|((with_reducible refine kF ?_ ?_ ?_);exact rfl;exact fun _ => rfl)|((with_reducible refine gW ?_ ?_);exact fun _ => rfl)|with_reducible refine pO ?_))
    refine ⟨_, _, fun i acc σ' => acc = (unsetOf (c.take i) ws).map .int ∧ σ' = σ, .inl ⟨_, _, rfl, rfl, fun _ _ => rfl, hc, fun i acc σ' _ j => by rw [j.2]; exact hc⟩, by rw [sizeLine_eq]; simp; (first|lia|omega), ⟨by simp [unsetOf], rfl⟩, ?_, ?_⟩
    · rintro i acc σ' hi ⟨rfl, e⟩
      have e := e.symm
      subst e
      simp only [List.length_map] at hi
      rw [List.getElem?_map, List.getElem?_eq_getElem hi]
      have hun : unsetOf (c.take (i + 1)) ws = unsetOf (c.take i) ws ++ (if (wv ws c[i] == 0) = true then [c[i]] else []) := by
        unfold unsetOf
        rw [List.take_add_one, List.getElem?_eq_getElem hi, List.filter_append, Option.toList_some, List.filter_cons, List.filter_nil]
      refine tifs_cons ?_
      repeat (first|with_reducible refine kW ?_|(first|with_reducible (first|refine pB ?_|refine pF ?_|refine pA ?_|refine kX ?_|refine kY ?_|refine gH ?_|refine gG ?_|refine kD ?_|refine gY ?_|refine kJ ?_|refine gX ?_|refine kL ?_|refine kE ?_|refine kK ?_|refine kC ?_|refine kI ?_|refine kO ?_|refine kP ?_|refine kN ?_|refine pJ ?_|refine pG ?_|refine gB ?_|refine gA ?_|refine pM ?_|refine gJ ?_|refine gN ?_|refine gU ?_|refine gQ ?_|refine gO ?_|refine gV ?_|refine pN ?_)|((with_reducible refine And.intro ?_ ?_);(first|(rw [sizeLine_eq];exact of_decide_eq_true rfl)|omega))|((with_reducible first|refine kZ ?_ ?_|refine kQ ?_ ?_|refine kS ?_ ?_|refine kB ?_ ?_|refine kM ?_ ?_|refine pH ?_ ?_|refine pK ?_ ?_);exact rfl)|((with_reducible first|refine kR ?_ ?_ ?_|refine kT ?_ ?_ ?_|apply kG);exact rfl;exact rfl)|((with_reducible apply gZ);assumption;exact rfl;decide +kernel;exact rfl)|((with_reducible apply kA);assumption;exact rfl;decide +kernel;exact rfl;(first|exact .type _|exact .builtin _);exact rfl)|((with_reducible refine gL ?_ ?_);decide)|((with_reducible refine gK ?_ ?_ ?_);decide;exact PyProof.noPylong_small (by decide))|((with_reducible refine gM ?_ ?_);(first|exact IntMulOk.of_right (intBits_le_64 (by omega) (by omega))|exact IntMulOk.of_left (intBits_le_64 (by omega) (by omega))))|((with_reducible refine kF ?_ ?_ ?_);exact rfl;exact fun _ => rfl)|((with_reducible refine gW ?_ ?_);exact fun _ => rfl)|with_reducible refine pO ?_))
      refine te_callG gw rfl Fw.keeps rfl ?_
      repeat (first|with_reducible refine kW ?_|(first|with_reducible (first|refine pB ?_|refine pF ?_|refine pA ?_|refine kX ?_|refine kY ?_|refine gH ?_|refine gG ?_|refine kD ?_|refine gY ?_|refine kJ ?_|refine gX ?_|refine kL ?_|refine kE ?_|refine kK ?_|refine kC ?_|refine kI ?_|refine kO ?_|refine kP ?_|refine kN ?_|refine pJ ?_|refine pG ?_|refine gB ?_|refine gA ?_|refine pM ?_|refine gJ ?_|refine gN ?_|refine gU ?_|refine gQ ?_|refine gO ?_|refine gV ?_|refine pN ?_)|((with_reducible refine And.intro ?_ ?_);(first|(rw [sizeLine_eq];exact of_decide_eq_true rfl)|omega))|((with_reducible first|refine kZ ?_ ?_|refine kQ ?_ ?_|refine kS ?_ ?_|refine kB ?_ ?_|refine kM ?_ ?_|refine pH ?_ ?_|refine pK ?_ ?_);exact rfl)|((with_reducible first|refine kR ?_ ?_ ?_|refine kT ?_ ?_ ?_|apply kG);exact rfl;exact rfl)|((with_reducible apply gZ);assumption;exact rfl;decide +kernel;exact rfl)|((with_reducible apply kA);assumption;exact rfl;decide +kernel;exact rfl;(first|exact .type _|exact .builtin _);exact rfl)|((with_reducible refine gL ?_ ?_);decide)|((with_reducible refine gK ?_ ?_ ?_);decide;exact PyProof.noPylong_small (by decide))|((with_reducible refine gM ?_ ?_);(first|exact IntMulOk.of_right (intBits_le_64 (by omega) (by omega))|exact IntMulOk.of_left (intBits_le_64 (by omega) (by omega))))|((with_reducible refine kF ?_ ?_ ?_);exact rfl;exact fun _ => rfl)|((with_reducible refine gW ?_ ?_);exact fun _ => rfl)|with_reducible refine pO ?_))
      refine (lv_spec Fw hw hwl hn (hr _ (List.getElem_mem hi)) ?_).call
      repeat (first|with_reducible refine kW ?_|(first|with_reducible (first|refine pB ?_|refine pF ?_|refine pA ?_|refine kX ?_|refine kY ?_|refine gH ?_|refine gG ?_|refine kD ?_|refine gY ?_|refine kJ ?_|refine gX ?_|refine kL ?_|refine kE ?_|refine kK ?_|refine kC ?_|refine kI ?_|refine kO ?_|refine kP ?_|refine kN ?_|refine pJ ?_|refine pG ?_|refine gB ?_|refine gA ?_|refine pM ?_|refine gJ ?_|refine gN ?_|refine gU ?_|refine gQ ?_|refine gO ?_|refine gV ?_|refine pN ?_)|((with_reducible refine And.intro ?_ ?_);(first|(rw [sizeLine_eq];exact of_decide_eq_true rfl)|omega))|((with_reducible first|refine kZ ?_ ?_|refine kQ ?_ ?_|refine kS ?_ ?_|refine kB ?_ ?_|refine kM ?_ ?_|refine pH ?_ ?_|refine pK ?_ ?_);exact rfl)|((with_reducible first|refine kR ?_ ?_ ?_|refine kT ?_ ?_ ?_|apply kG);exact rfl;exact rfl)|((with_reducible apply gZ);assumption;exact rfl;decide +kernel;exact rfl)|((with_reducible apply kA);assumption;exact rfl;decide +kernel;exact rfl;(first|exact .type _|exact .builtin _);exact rfl)|((with_reducible refine gL ?_ ?_);decide)|((with_reducible refine gK ?_ ?_ ?_);decide;exact PyProof.noPylong_small (by decide))|((with_reducible refine gM ?_ ?_);(first|exact IntMulOk.of_right (intBits_le_64 (by omega) (by omega))|exact IntMulOk.of_left (intBits_le_64 (by omega) (by omega))))|((with_reducible refine kF ?_ ?_ ?_);exact rfl;exact fun _ => rfl)|((with_reducible refine gW ?_ ?_);exact fun _ => rfl)|with_reducible refine pO ?_))
      split
      · rename_i h1
        rw [if_pos h1] at hun
        refine tifs_nil ?_
        rw [if_pos rfl]
        repeat (first|with_reducible refine kW ?_|(first|with_reducible (first|refine pB ?_|refine pF ?_|refine pA ?_|refine kX ?_|refine kY ?_|refine gH ?_|refine gG ?_|refine kD ?_|refine gY ?_|refine kJ ?_|refine gX ?_|refine kL ?_|refine kE ?_|refine kK ?_|refine kC ?_|refine kI ?_|refine kO ?_|refine kP ?_|refine kN ?_|refine pJ ?_|refine pG ?_|refine gB ?_|refine gA ?_|refine pM ?_|refine gJ ?_|refine gN ?_|refine gU ?_|refine gQ ?_|refine gO ?_|refine gV ?_|refine pN ?_)|((with_reducible refine And.intro ?_ ?_);(first|(rw [sizeLine_eq];exact of_decide_eq_true rfl)|omega))|((with_reducible first|refine kZ ?_ ?_|refine kQ ?_ ?_|refine kS ?_ ?_|refine kB ?_ ?_|refine kM ?_ ?_|refine pH ?_ ?_|refine pK ?_ ?_);exact rfl)|((with_reducible first|refine kR ?_ ?_ ?_|refine kT ?_ ?_ ?_|apply kG);exact rfl;exact rfl)|((with_reducible apply gZ);assumption;exact rfl;decide +kernel;exact rfl)|((with_reducible apply kA);assumption;exact rfl;decide +kernel;exact rfl;(first|exact .type _|exact .builtin _);exact rfl)|((with_reducible refine gL ?_ ?_);decide)|((with_reducible refine gK ?_ ?_ ?_);decide;exact PyProof.noPylong_small (by decide))|((with_reducible refine gM ?_ ?_);(first|exact IntMulOk.of_right (intBits_le_64 (by omega) (by omega))|exact IntMulOk.of_left (intBits_le_64 (by omega) (by omega))))|((with_reducible refine kF ?_ ?_ ?_);exact rfl;exact fun _ => rfl)|((with_reducible refine gW ?_ ?_);exact fun _ => rfl)|with_reducible refine pO ?_))
        exact ⟨by rw [hun]; simp, rfl⟩
      · rename_i h1
        rw [if_neg h1] at hun
        rw [if_neg (by decide)]
        exact ⟨by rw [hun]; simp, rfl⟩
    · rintro acc σ' ⟨rfl, e⟩
      have e := e.symm
      subst e
      rw [List.length_map, List.take_length]
      have hcs : cstate c ws = match unsetOf c ws with | [] => .fls | x :: xs => if (x :: xs).all (· == x) then .unit x else .opn := by
        unfold cstate; exact if_neg hany
      have hul : (unsetOf c ws).length ≤ 100000 := Nat.le_trans (List.length_filter_le _ _) hcl
      generalize unsetOf c ws = un at hcs hul
      have hg : (σ ++ [AO.list (un.map .int)])[List.length σ]? = some (.list (un.map .int)) := get_snoc _ _
      repeat (first|with_reducible refine kW ?_|(first|with_reducible (first|refine pB ?_|refine pF ?_|refine pA ?_|refine kX ?_|refine kY ?_|refine gH ?_|refine gG ?_|refine kD ?_|refine gY ?_|refine kJ ?_|refine gX ?_|refine kL ?_|refine kE ?_|refine kK ?_|refine kC ?_|refine kI ?_|refine kO ?_|refine kP ?_|refine kN ?_|refine pJ ?_|refine pG ?_|refine gB ?_|refine gA ?_|refine pM ?_|refine gJ ?_|refine gN ?_|refine gU ?_|refine gQ ?_|refine gO ?_|refine gV ?_|refine pN ?_)|((with_reducible refine And.intro ?_ ?_);(first|(rw [sizeLine_eq];exact of_decide_eq_true rfl)|omega))|((with_reducible first|refine kZ ?_ ?_|refine kQ ?_ ?_|refine kS ?_ ?_|refine kB ?_ ?_|refine kM ?_ ?_|refine pH ?_ ?_|refine pK ?_ ?_);exact rfl)|((with_reducible first|refine kR ?_ ?_ ?_|refine kT ?_ ?_ ?_|apply kG);exact rfl;exact rfl)|((with_reducible apply gZ);assumption;exact rfl;decide +kernel;exact rfl)|((with_reducible apply kA);assumption;exact rfl;decide +kernel;exact rfl;(first|exact .type _|exact .builtin _);exact rfl)|((with_reducible refine gL ?_ ?_);decide)|((with_reducible refine gK ?_ ?_ ?_);decide;exact PyProof.noPylong_small (by decide))|((with_reducible refine gM ?_ ?_);(first|exact IntMulOk.of_right (intBits_le_64 (by omega) (by omega))|exact IntMulOk.of_left (intBits_le_64 (by omega) (by omega))))|((with_reducible refine kF ?_ ?_ ?_);exact rfl;exact fun _ => rfl)|((with_reducible refine gW ?_ ?_);exact fun _ => rfl)|with_reducible refine pO ?_))
      refine tcall_len hg (by simp; (first|lia|omega)) ?_
      cases un with
      | nil =>
        rw [hcs] at h
        repeat (first|with_reducible refine kW ?_|(first|with_reducible (first|refine pB ?_|refine pF ?_|refine pA ?_|refine kX ?_|refine kY ?_|refine gH ?_|refine gG ?_|refine kD ?_|refine gY ?_|refine kJ ?_|refine gX ?_|refine kL ?_|refine kE ?_|refine kK ?_|refine kC ?_|refine kI ?_|refine kO ?_|refine kP ?_|refine kN ?_|refine pJ ?_|refine pG ?_|refine gB ?_|refine gA ?_|refine pM ?_|refine gJ ?_|refine gN ?_|refine gU ?_|refine gQ ?_|refine gO ?_|refine gV ?_|refine pN ?_)|((with_reducible refine And.intro ?_ ?_);(first|(rw [sizeLine_eq];exact of_decide_eq_true rfl)|omega))|((with_reducible first|refine kZ ?_ ?_|refine kQ ?_ ?_|refine kS ?_ ?_|refine kB ?_ ?_|refine kM ?_ ?_|refine pH ?_ ?_|refine pK ?_ ?_);exact rfl)|((with_reducible first|refine kR ?_ ?_ ?_|refine kT ?_ ?_ ?_|apply kG);exact rfl;exact rfl)|((with_reducible apply gZ);assumption;exact rfl;decide +kernel;exact rfl)|((with_reducible apply kA);assumption;exact rfl;decide +kernel;exact rfl;(first|exact .type _|exact .builtin _);exact rfl)|((with_reducible refine gL ?_ ?_);decide)|((with_reducible refine gK ?_ ?_ ?_);decide;exact PyProof.noPylong_small (by decide))|((with_reducible refine gM ?_ ?_);(first|exact IntMulOk.of_right (intBits_le_64 (by omega) (by omega))|exact IntMulOk.of_left (intBits_le_64 (by omega) (by omega))))|((with_reducible refine kF ?_ ?_ ?_);exact rfl;exact fun _ => rfl)|((with_reducible refine gW ?_ ?_);exact fun _ => rfl)|with_reducible refine pO ?_))
        rw [if_pos (by decide)]
        repeat (first|with_reducible refine kW ?_|(first|with_reducible (first|refine pB ?_|refine pF ?_|refine pA ?_|refine kX ?_|refine kY ?_|refine gH ?_|refine gG ?_|refine kD ?_|refine gY ?_|refine kJ ?_|refine gX ?_|refine kL ?_|refine kE ?_|refine kK ?_|refine kC ?_|refine kI ?_|refine kO ?_|refine kP ?_|refine kN ?_|refine pJ ?_|refine pG ?_|refine gB ?_|refine gA ?_|refine pM ?_|refine gJ ?_|refine gN ?_|refine gU ?_|refine gQ ?_|refine gO ?_|refine gV ?_|refine pN ?_)|((with_reducible refine And.intro ?_ ?_);(first|(rw [sizeLine_eq];exact of_decide_eq_true rfl)|omega))|((with_reducible first|refine kZ ?_ ?_|refine kQ ?_ ?_|refine kS ?_ ?_|refine kB ?_ ?_|refine kM ?_ ?_|refine pH ?_ ?_|refine pK ?_ ?_);exact rfl)|((with_reducible first|refine kR ?_ ?_ ?_|refine kT ?_ ?_ ?_|apply kG);exact rfl;exact rfl)|((with_reducible apply gZ);assumption;exact rfl;decide +kernel;exact rfl)|((with_reducible apply kA);assumption;exact rfl;decide +kernel;exact rfl;(first|exact .type _|exact .builtin _);exact rfl)|((with_reducible refine gL ?_ ?_);decide)|((with_reducible refine gK ?_ ?_ ?_);decide;exact PyProof.noPylong_small (by decide))|((with_reducible refine gM ?_ ?_);(first|exact IntMulOk.of_right (intBits_le_64 (by omega) (by omega))|exact IntMulOk.of_left (intBits_le_64 (by omega) (by omega))))|((with_reducible refine kF ?_ ?_ ?_);exact rfl;exact fun _ => rfl)|((with_reducible refine gW ?_ ?_);exact fun _ => rfl)|with_reducible refine pO ?_))
        exact h _ _ (by (repeat (first | exact Sub.refl _ | assumption | refine Sub.trans ?_ (Sub.snoc _ _)))) (get_snoc _ _)
      | cons x xs =>
        dsimp only at hcs
        repeat (first|with_reducible refine kW ?_|(first|with_reducible (first|refine pB ?_|refine pF ?_|refine pA ?_|refine kX ?_|refine kY ?_|refine gH ?_|refine gG ?_|refine kD ?_|refine gY ?_|refine kJ ?_|refine gX ?_|refine kL ?_|refine kE ?_|refine kK ?_|refine kC ?_|refine kI ?_|refine kO ?_|refine kP ?_|refine kN ?_|refine pJ ?_|refine pG ?_|refine gB ?_|refine gA ?_|refine pM ?_|refine gJ ?_|refine gN ?_|refine gU ?_|refine gQ ?_|refine gO ?_|refine gV ?_|refine pN ?_)|((with_reducible refine And.intro ?_ ?_);(first|(rw [sizeLine_eq];exact of_decide_eq_true rfl)|omega))|((with_reducible first|refine kZ ?_ ?_|refine kQ ?_ ?_|refine kS ?_ ?_|refine kB ?_ ?_|refine kM ?_ ?_|refine pH ?_ ?_|refine pK ?_ ?_);exact rfl)|((with_reducible first|refine kR ?_ ?_ ?_|refine kT ?_ ?_ ?_|apply kG);exact rfl;exact rfl)|((with_reducible apply gZ);assumption;exact rfl;decide +kernel;exact rfl)|((with_reducible apply kA);assumption;exact rfl;decide +kernel;exact rfl;(first|exact .type _|exact .builtin _);exact rfl)|((with_reducible refine gL ?_ ?_);decide)|((with_reducible refine gK ?_ ?_ ?_);decide;exact PyProof.noPylong_small (by decide))|((with_reducible refine gM ?_ ?_);(first|exact IntMulOk.of_right (intBits_le_64 (by omega) (by omega))|exact IntMulOk.of_left (intBits_le_64 (by omega) (by omega))))|((with_reducible refine kF ?_ ?_ ?_);exact rfl;exact fun _ => rfl)|((with_reducible refine gW ?_ ?_);exact fun _ => rfl)|with_reducible refine pO ?_))
        rw [if_neg (by simp; (first|lia|omega))]
        repeat (first|with_reducible refine kW ?_|(first|with_reducible (first|refine pB ?_|refine pF ?_|refine pA ?_|refine kX ?_|refine kY ?_|refine gH ?_|refine gG ?_|refine kD ?_|refine gY ?_|refine kJ ?_|refine gX ?_|refine kL ?_|refine kE ?_|refine kK ?_|refine kC ?_|refine kI ?_|refine kO ?_|refine kP ?_|refine kN ?_|refine pJ ?_|refine pG ?_|refine gB ?_|refine gA ?_|refine pM ?_|refine gJ ?_|refine gN ?_|refine gU ?_|refine gQ ?_|refine gO ?_|refine gV ?_|refine pN ?_)|((with_reducible refine And.intro ?_ ?_);(first|(rw [sizeLine_eq];exact of_decide_eq_true rfl)|omega))|((with_reducible first|refine kZ ?_ ?_|refine kQ ?_ ?_|refine kS ?_ ?_|refine kB ?_ ?_|refine kM ?_ ?_|refine pH ?_ ?_|refine pK ?_ ?_);exact rfl)|((with_reducible first|refine kR ?_ ?_ ?_|refine kT ?_ ?_ ?_|apply kG);exact rfl;exact rfl)|((with_reducible apply gZ);assumption;exact rfl;decide +kernel;exact rfl)|((with_reducible apply kA);assumption;exact rfl;decide +kernel;exact rfl;(first|exact .type _|exact .builtin _);exact rfl)|((with_reducible refine gL ?_ ?_);decide)|((with_reducible refine gK ?_ ?_ ?_);decide;exact PyProof.noPylong_small (by decide))|((with_reducible refine gM ?_ ?_);(first|exact IntMulOk.of_right (intBits_le_64 (by omega) (by omega))|exact IntMulOk.of_left (intBits_le_64 (by omega) (by omega))))|((with_reducible refine kF ?_ ?_ ?_);exact rfl;exact fun _ => rfl)|((with_reducible refine gW ?_ ?_);exact fun _ => rfl)|with_reducible refine pO ?_))
        refine ts_for_list rfl rfl ?_
        repeat (first|with_reducible refine kW ?_|(first|with_reducible (first|refine pB ?_|refine pF ?_|refine pA ?_|refine kX ?_|refine kY ?_|refine gH ?_|refine gG ?_|refine kD ?_|refine gY ?_|refine kJ ?_|refine gX ?_|refine kL ?_|refine kE ?_|refine kK ?_|refine kC ?_|refine kI ?_|refine kO ?_|refine kP ?_|refine kN ?_|refine pJ ?_|refine pG ?_|refine gB ?_|refine gA ?_|refine pM ?_|refine gJ ?_|refine gN ?_|refine gU ?_|refine gQ ?_|refine gO ?_|refine gV ?_|refine pN ?_)|((with_reducible refine And.intro ?_ ?_);(first|(rw [sizeLine_eq];exact of_decide_eq_true rfl)|omega))|((with_reducible first|refine kZ ?_ ?_|refine kQ ?_ ?_|refine kS ?_ ?_|refine kB ?_ ?_|refine kM ?_ ?_|refine pH ?_ ?_|refine pK ?_ ?_);exact rfl)|((with_reducible first|refine kR ?_ ?_ ?_|refine kT ?_ ?_ ?_|apply kG);exact rfl;exact rfl)|((with_reducible apply gZ);assumption;exact rfl;decide +kernel;exact rfl)|((with_reducible apply kA);assumption;exact rfl;decide +kernel;exact rfl;(first|exact .type _|exact .builtin _);exact rfl)|((with_reducible refine gL ?_ ?_);decide)|((with_reducible refine gK ?_ ?_ ?_);decide;exact PyProof.noPylong_small (by decide))|((with_reducible refine gM ?_ ?_);(first|exact IntMulOk.of_right (intBits_le_64 (by omega) (by omega))|exact IntMulOk.of_left (intBits_le_64 (by omega) (by omega))))|((with_reducible refine kF ?_ ?_ ?_);exact rfl;exact fun _ => rfl)|((with_reducible refine gW ?_ ?_);exact fun _ => rfl)|with_reducible refine pO ?_))
        refine ⟨_, _, fun i m' σ' => LE [("unset", .ref (List.length σ))] m' ∧ σ' = (σ ++ [AO.list ((x :: xs).map .int)]) ∧ ∀ y ∈ (x :: xs).take i, y = x, rfl, ⟨by (repeat (first | exact LE.nil | refine LE.cons (by exact rfl) ?_)), rfl, by simp⟩, fun i m' σ' _ j => by rw [j.2.1]; exact hg, ?_, ?_⟩
        · rintro i z m2 σ' hx ⟨le2, e, hj2⟩
          subst e
          rw [List.getElem?_map] at hx
          obtain ⟨l, hl, rfl⟩ := Option.map_eq_some_iff.mp hx
          refine TA.forget le2 (ta_name rfl ?_)
          repeat (first|with_reducible refine kW ?_|(first|with_reducible (first|refine pB ?_|refine pF ?_|refine pA ?_|refine kX ?_|refine kY ?_|refine gH ?_|refine gG ?_|refine kD ?_|refine gY ?_|refine kJ ?_|refine gX ?_|refine kL ?_|refine kE ?_|refine kK ?_|refine kC ?_|refine kI ?_|refine kO ?_|refine kP ?_|refine kN ?_|refine pJ ?_|refine pG ?_|refine gB ?_|refine gA ?_|refine pM ?_|refine gJ ?_|refine gN ?_|refine gU ?_|refine gQ ?_|refine gO ?_|refine gV ?_|refine pN ?_)|((with_reducible refine And.intro ?_ ?_);(first|(rw [sizeLine_eq];exact of_decide_eq_true rfl)|omega))|((with_reducible first|refine kZ ?_ ?_|refine kQ ?_ ?_|refine kS ?_ ?_|refine kB ?_ ?_|refine kM ?_ ?_|refine pH ?_ ?_|refine pK ?_ ?_);exact rfl)|((with_reducible first|refine kR ?_ ?_ ?_|refine kT ?_ ?_ ?_|apply kG);exact rfl;exact rfl)|((with_reducible apply gZ);assumption;exact rfl;decide +kernel;exact rfl)|((with_reducible apply kA);assumption;exact rfl;decide +kernel;exact rfl;(first|exact .type _|exact .builtin _);exact rfl)|((with_reducible refine gL ?_ ?_);decide)|((with_reducible refine gK ?_ ?_ ?_);decide;exact PyProof.noPylong_small (by decide))|((with_reducible refine gM ?_ ?_);(first|exact IntMulOk.of_right (intBits_le_64 (by omega) (by omega))|exact IntMulOk.of_left (intBits_le_64 (by omega) (by omega))))|((with_reducible refine kF ?_ ?_ ?_);exact rfl;exact fun _ => rfl)|((with_reducible refine gW ?_ ?_);exact fun _ => rfl)|with_reducible refine pO ?_))
          refine tidx_nums rfl hg (j := 0) rfl (by simp) (by decide) ?_
          rw [List.getElem_cons_zero]
          repeat (first|with_reducible refine kW ?_|(first|with_reducible (first|refine pB ?_|refine pF ?_|refine pA ?_|refine kX ?_|refine kY ?_|refine gH ?_|refine gG ?_|refine kD ?_|refine gY ?_|refine kJ ?_|refine gX ?_|refine kL ?_|refine kE ?_|refine kK ?_|refine kC ?_|refine kI ?_|refine kO ?_|refine kP ?_|refine kN ?_|refine pJ ?_|refine pG ?_|refine gB ?_|refine gA ?_|refine pM ?_|refine gJ ?_|refine gN ?_|refine gU ?_|refine gQ ?_|refine gO ?_|refine gV ?_|refine pN ?_)|((with_reducible refine And.intro ?_ ?_);(first|(rw [sizeLine_eq];exact of_decide_eq_true rfl)|omega))|((with_reducible first|refine kZ ?_ ?_|refine kQ ?_ ?_|refine kS ?_ ?_|refine kB ?_ ?_|refine kM ?_ ?_|refine pH ?_ ?_|refine pK ?_ ?_);exact rfl)|((with_reducible first|refine kR ?_ ?_ ?_|refine kT ?_ ?_ ?_|apply kG);exact rfl;exact rfl)|((with_reducible apply gZ);assumption;exact rfl;decide +kernel;exact rfl)|((with_reducible apply kA);assumption;exact rfl;decide +kernel;exact rfl;(first|exact .type _|exact .builtin _);exact rfl)|((with_reducible refine gL ?_ ?_);decide)|((with_reducible refine gK ?_ ?_ ?_);decide;exact PyProof.noPylong_small (by decide))|((with_reducible refine gM ?_ ?_);(first|exact IntMulOk.of_right (intBits_le_64 (by omega) (by omega))|exact IntMulOk.of_left (intBits_le_64 (by omega) (by omega))))|((with_reducible refine kF ?_ ?_ ?_);exact rfl;exact fun _ => rfl)|((with_reducible refine gW ?_ ?_);exact fun _ => rfl)|with_reducible refine pO ?_))
          split
          · rename_i hne
            have hne : l ≠ x := by simpa using hne
            rw [if_neg (fun q => hne (by simpa using List.all_eq_true.mp q l (List.mem_of_getElem? hl)))] at hcs
            rw [hcs] at h
            repeat (first|with_reducible refine kW ?_|(first|with_reducible (first|refine pB ?_|refine pF ?_|refine pA ?_|refine kX ?_|refine kY ?_|refine gH ?_|refine gG ?_|refine kD ?_|refine gY ?_|refine kJ ?_|refine gX ?_|refine kL ?_|refine kE ?_|refine kK ?_|refine kC ?_|refine kI ?_|refine kO ?_|refine kP ?_|refine kN ?_|refine pJ ?_|refine pG ?_|refine gB ?_|refine gA ?_|refine pM ?_|refine gJ ?_|refine gN ?_|refine gU ?_|refine gQ ?_|refine gO ?_|refine gV ?_|refine pN ?_)|((with_reducible refine And.intro ?_ ?_);(first|(rw [sizeLine_eq];exact of_decide_eq_true rfl)|omega))|((with_reducible first|refine kZ ?_ ?_|refine kQ ?_ ?_|refine kS ?_ ?_|refine kB ?_ ?_|refine kM ?_ ?_|refine pH ?_ ?_|refine pK ?_ ?_);exact rfl)|((with_reducible first|refine kR ?_ ?_ ?_|refine kT ?_ ?_ ?_|apply kG);exact rfl;exact rfl)|((with_reducible apply gZ);assumption;exact rfl;decide +kernel;exact rfl)|((with_reducible apply kA);assumption;exact rfl;decide +kernel;exact rfl;(first|exact .type _|exact .builtin _);exact rfl)|((with_reducible refine gL ?_ ?_);decide)|((with_reducible refine gK ?_ ?_ ?_);decide;exact PyProof.noPylong_small (by decide))|((with_reducible refine gM ?_ ?_);(first|exact IntMulOk.of_right (intBits_le_64 (by omega) (by omega))|exact IntMulOk.of_left (intBits_le_64 (by omega) (by omega))))|((with_reducible refine kF ?_ ?_ ?_);exact rfl;exact fun _ => rfl)|((with_reducible refine gW ?_ ?_);exact fun _ => rfl)|with_reducible refine pO ?_))
            exact h _ _ (by (repeat (first | exact Sub.refl _ | assumption | refine Sub.trans ?_ (Sub.snoc _ _)))) (get_snoc _ _)
          · rename_i hne
            have hne : l = x := by simpa using hne
            repeat (first|with_reducible refine kW ?_|(first|with_reducible (first|refine pB ?_|refine pF ?_|refine pA ?_|refine kX ?_|refine kY ?_|refine gH ?_|refine gG ?_|refine kD ?_|refine gY ?_|refine kJ ?_|refine gX ?_|refine kL ?_|refine kE ?_|refine kK ?_|refine kC ?_|refine kI ?_|refine kO ?_|refine kP ?_|refine kN ?_|refine pJ ?_|refine pG ?_|refine gB ?_|refine gA ?_|refine pM ?_|refine gJ ?_|refine gN ?_|refine gU ?_|refine gQ ?_|refine gO ?_|refine gV ?_|refine pN ?_)|((with_reducible refine And.intro ?_ ?_);(first|(rw [sizeLine_eq];exact of_decide_eq_true rfl)|omega))|((with_reducible first|refine kZ ?_ ?_|refine kQ ?_ ?_|refine kS ?_ ?_|refine kB ?_ ?_|refine kM ?_ ?_|refine pH ?_ ?_|refine pK ?_ ?_);exact rfl)|((with_reducible first|refine kR ?_ ?_ ?_|refine kT ?_ ?_ ?_|apply kG);exact rfl;exact rfl)|((with_reducible apply gZ);assumption;exact rfl;decide +kernel;exact rfl)|((with_reducible apply kA);assumption;exact rfl;decide +kernel;exact rfl;(first|exact .type _|exact .builtin _);exact rfl)|((with_reducible refine gL ?_ ?_);decide)|((with_reducible refine gK ?_ ?_ ?_);decide;exact PyProof.noPylong_small (by decide))|((with_reducible refine gM ?_ ?_);(first|exact IntMulOk.of_right (intBits_le_64 (by omega) (by omega))|exact IntMulOk.of_left (intBits_le_64 (by omega) (by omega))))|((with_reducible refine kF ?_ ?_ ?_);exact rfl;exact fun _ => rfl)|((with_reducible refine gW ?_ ?_);exact fun _ => rfl)|with_reducible refine pO ?_))
            refine ⟨by (repeat (first | exact LE.nil | refine LE.cons (by exact rfl) ?_)), rfl, fun y hy => ?_⟩
            rw [List.take_add_one, hl] at hy
            rcases List.mem_append.mp hy with q | q
            · exact hj2 y q
            · simp at q; rw [q]; exact hne
        · rintro m2 σ' ⟨le2, e, hj2⟩
          subst e
          rw [List.length_map, List.take_length] at hj2
          rw [if_pos (List.all_eq_true.mpr fun y hy => by simpa using hj2 y hy)] at hcs
          rw [hcs] at h
          refine TX.forget le2 ?_
          repeat (first|with_reducible refine kW ?_|(first|with_reducible (first|refine pB ?_|refine pF ?_|refine pA ?_|refine kX ?_|refine kY ?_|refine gH ?_|refine gG ?_|refine kD ?_|refine gY ?_|refine kJ ?_|refine gX ?_|refine kL ?_|refine kE ?_|refine kK ?_|refine kC ?_|refine kI ?_|refine kO ?_|refine kP ?_|refine kN ?_|refine pJ ?_|refine pG ?_|refine gB ?_|refine gA ?_|refine pM ?_|refine gJ ?_|refine gN ?_|refine gU ?_|refine gQ ?_|refine gO ?_|refine gV ?_|refine pN ?_)|((with_reducible refine And.intro ?_ ?_);(first|(rw [sizeLine_eq];exact of_decide_eq_true rfl)|omega))|((with_reducible first|refine kZ ?_ ?_|refine kQ ?_ ?_|refine kS ?_ ?_|refine kB ?_ ?_|refine kM ?_ ?_|refine pH ?_ ?_|refine pK ?_ ?_);exact rfl)|((with_reducible first|refine kR ?_ ?_ ?_|refine kT ?_ ?_ ?_|apply kG);exact rfl;exact rfl)|((with_reducible apply gZ);assumption;exact rfl;decide +kernel;exact rfl)|((with_reducible apply kA);assumption;exact rfl;decide +kernel;exact rfl;(first|exact .type _|exact .builtin _);exact rfl)|((with_reducible refine gL ?_ ?_);decide)|((with_reducible refine gK ?_ ?_ ?_);decide;exact PyProof.noPylong_small (by decide))|((with_reducible refine gM ?_ ?_);(first|exact IntMulOk.of_right (intBits_le_64 (by omega) (by omega))|exact IntMulOk.of_left (intBits_le_64 (by omega) (by omega))))|((with_reducible refine kF ?_ ?_ ?_);exact rfl;exact fun _ => rfl)|((with_reducible refine gW ?_ ?_);exact fun _ => rfl)|with_reducible refine pO ?_))
          refine tidx_nums rfl hg (j := 0) rfl (by simp) (by decide) ?_
          rw [List.getElem_cons_zero]
          repeat (first|with_reducible refine kW ?_|(first|with_reducible (first|refine pB ?_|refine pF ?_|refine pA ?_|refine kX ?_|refine kY ?_|refine gH ?_|refine gG ?_|refine kD ?_|refine gY ?_|refine kJ ?_|refine gX ?_|refine kL ?_|refine kE ?_|refine kK ?_|refine kC ?_|refine kI ?_|refine kO ?_|refine kP ?_|refine kN ?_|refine pJ ?_|refine pG ?_|refine gB ?_|refine gA ?_|refine pM ?_|refine gJ ?_|refine gN ?_|refine gU ?_|refine gQ ?_|refine gO ?_|refine gV ?_|refine pN ?_)|((with_reducible refine And.intro ?_ ?_);(first|(rw [sizeLine_eq];exact of_decide_eq_true rfl)|omega))|((with_reducible first|refine kZ ?_ ?_|refine kQ ?_ ?_|refine kS ?_ ?_|refine kB ?_ ?_|refine kM ?_ ?_|refine pH ?_ ?_|refine pK ?_ ?_);exact rfl)|((with_reducible first|refine kR ?_ ?_ ?_|refine kT ?_ ?_ ?_|apply kG);exact rfl;exact rfl)|((with_reducible apply gZ);assumption;exact rfl;decide +kernel;exact rfl)|((with_reducible apply kA);assumption;exact rfl;decide +kernel;exact rfl;(first|exact .type _|exact .builtin _);exact rfl)|((with_reducible refine gL ?_ ?_);decide)|((with_reducible refine gK ?_ ?_ ?_);decide;exact PyProof.noPylong_small (by decide))|((with_reducible refine gM ?_ ?_);(first|exact IntMulOk.of_right (intBits_le_64 (by omega) (by omega))|exact IntMulOk.of_left (intBits_le_64 (by omega) (by omega))))|((with_reducible refine kF ?_ ?_ ?_);exact rfl;exact fun _ => rfl)|((with_reducible refine gW ?_ ?_);exact fun _ => rfl)|with_reducible refine pO ?_))
          exact h _ _ (by (repeat (first | exact Sub.refl _ | assumption | refine Sub.trans ?_ (Sub.snoc _ _)))) (get_snoc _ _)


theorem init_spec {W : Wd} {K : Frag} {C f : Addr} (Cl : ClsIs W K C ["n", "worths", "order", "marks"]) (M : MethIs W K C "__init__" f ["self", "n"] (methBody pw 6 0) (methScope pw 6 0)) {lv : Nat} {n : Nat} {t d : Nat} {σ : AH} {Q : AV → AH → Prop} (hn : n ≤ 1000)
    (ht : σ[t]? = some (.inst C d)) (hd : σ[d]? = some (.dict []))
    (h : ∀ p σ', p.t = t → p.d = d → TrAt C p n (List.replicate (n + 1) 0) [] [] σ' → Fx [d] σ σ' → σ.length ≤ p.w → σ.length ≤ p.o → σ.length ≤ p.k → Q .none σ') :
    TCode W (lv + 1) (.stat (.ref f)) [.ref t, .int n] Q σ := by
  have htd : t ≠ d := ne_of_obj ht hd (by simp)
  refine code_fn M.fn rfl ?_
  refine kW ?_
  repeat (first|with_reducible refine kW ?_|(first|with_reducible (first|refine pB ?_|refine pF ?_|refine pA ?_|refine kX ?_|refine kY ?_|refine gH ?_|refine gG ?_|refine kD ?_|refine gY ?_|refine kJ ?_|refine gX ?_|refine kL ?_|refine kE ?_|refine kK ?_|refine kC ?_|refine kI ?_|refine kO ?_|refine kP ?_|refine kN ?_|refine pJ ?_|refine pG ?_|refine gB ?_|refine gA ?_|refine pM ?_|refine gJ ?_|refine gN ?_|refine gU ?_|refine gQ ?_|refine gO ?_|refine gV ?_|refine pN ?_)|((with_reducible refine And.intro ?_ ?_);(first|(rw [sizeLine_eq];exact of_decide_eq_true rfl)|omega))|((with_reducible first|refine kZ ?_ ?_|refine kQ ?_ ?_|refine kS ?_ ?_|refine kB ?_ ?_|refine kM ?_ ?_|refine pH ?_ ?_|refine pK ?_ ?_);exact rfl)|((with_reducible first|refine kR ?_ ?_ ?_|refine kT ?_ ?_ ?_|apply kG);exact rfl;exact rfl)|((with_reducible apply gZ);assumption;exact rfl;decide +kernel;exact rfl)|((with_reducible apply kA);assumption;exact rfl;decide +kernel;exact rfl;(first|exact .type _|exact .builtin _);exact rfl)|((with_reducible refine gL ?_ ?_);decide)|((with_reducible refine gK ?_ ?_ ?_);decide;exact PyProof.noPylong_small (by decide))|((with_reducible refine gM ?_ ?_);(first|exact IntMulOk.of_right (intBits_le_64 (by omega) (by omega))|exact IntMulOk.of_left (intBits_le_64 (by omega) (by omega))))|((with_reducible refine kF ?_ ?_ ?_);exact rfl;exact fun _ => rfl)|((with_reducible refine gW ?_ ?_);exact fun _ => rfl)|with_reducible refine pO ?_))
  refine Cl.set ht hd rfl (by simp) (fs' := [("n", .int n)]) rfl ?_
  repeat (first|with_reducible refine kW ?_|(first|with_reducible (first|refine pB ?_|refine pF ?_|refine pA ?_|refine kX ?_|refine kY ?_|refine gH ?_|refine gG ?_|refine kD ?_|refine gY ?_|refine kJ ?_|refine gX ?_|refine kL ?_|refine kE ?_|refine kK ?_|refine kC ?_|refine kI ?_|refine kO ?_|refine kP ?_|refine kN ?_|refine pJ ?_|refine pG ?_|refine gB ?_|refine gA ?_|refine pM ?_|refine gJ ?_|refine gN ?_|refine gU ?_|refine gQ ?_|refine gO ?_|refine gV ?_|refine pN ?_)|((with_reducible refine And.intro ?_ ?_);(first|(rw [sizeLine_eq];exact of_decide_eq_true rfl)|omega))|((with_reducible first|refine kZ ?_ ?_|refine kQ ?_ ?_|refine kS ?_ ?_|refine kB ?_ ?_|refine kM ?_ ?_|refine pH ?_ ?_|refine pK ?_ ?_);exact rfl)|((with_reducible first|refine kR ?_ ?_ ?_|refine kT ?_ ?_ ?_|apply kG);exact rfl;exact rfl)|((with_reducible apply gZ);assumption;exact rfl;decide +kernel;exact rfl)|((with_reducible apply kA);assumption;exact rfl;decide +kernel;exact rfl;(first|exact .type _|exact .builtin _);exact rfl)|((with_reducible refine gL ?_ ?_);decide)|((with_reducible refine gK ?_ ?_ ?_);decide;exact PyProof.noPylong_small (by decide))|((with_reducible refine gM ?_ ?_);(first|exact IntMulOk.of_right (intBits_le_64 (by omega) (by omega))|exact IntMulOk.of_left (intBits_le_64 (by omega) (by omega))))|((with_reducible refine kF ?_ ?_ ?_);exact rfl;exact fun _ => rfl)|((with_reducible refine gW ?_ ?_);exact fun _ => rfl)|with_reducible refine pO ?_))
  refine tbin_mulL (by (repeat (first | with_reducible exact get_snoc _ _ | with_reducible assumption | refine Sub.snoc _ _ _ _ ?_))) (by (first|lia|omega)) (by (first|lia|omega)) (by simp; (first|lia|omega)) ?_
  have e : (List.replicate ((n : Int) + 1).toNat [AV.int 0]).flatten = (List.replicate (n + 1) (0 : Int)).map AV.int := by
    rw [show ((n : Int) + 1).toNat = n + 1 by (first|lia|omega), List.map_replicate]
    generalize n + 1 = k
    induction k with
    | zero => rfl
    | succ k ih => rw [List.replicate_succ, List.flatten_cons, ih]; rfl
  rw [e]
  repeat (first|with_reducible refine kW ?_|(first|with_reducible (first|refine pB ?_|refine pF ?_|refine pA ?_|refine kX ?_|refine kY ?_|refine gH ?_|refine gG ?_|refine kD ?_|refine gY ?_|refine kJ ?_|refine gX ?_|refine kL ?_|refine kE ?_|refine kK ?_|refine kC ?_|refine kI ?_|refine kO ?_|refine kP ?_|refine kN ?_|refine pJ ?_|refine pG ?_|refine gB ?_|refine gA ?_|refine pM ?_|refine gJ ?_|refine gN ?_|refine gU ?_|refine gQ ?_|refine gO ?_|refine gV ?_|refine pN ?_)|((with_reducible refine And.intro ?_ ?_);(first|(rw [sizeLine_eq];exact of_decide_eq_true rfl)|omega))|((with_reducible first|refine kZ ?_ ?_|refine kQ ?_ ?_|refine kS ?_ ?_|refine kB ?_ ?_|refine kM ?_ ?_|refine pH ?_ ?_|refine pK ?_ ?_);exact rfl)|((with_reducible first|refine kR ?_ ?_ ?_|refine kT ?_ ?_ ?_|apply kG);exact rfl;exact rfl)|((with_reducible apply gZ);assumption;exact rfl;decide +kernel;exact rfl)|((with_reducible apply kA);assumption;exact rfl;decide +kernel;exact rfl;(first|exact .type _|exact .builtin _);exact rfl)|((with_reducible refine gL ?_ ?_);decide)|((with_reducible refine gK ?_ ?_ ?_);decide;exact PyProof.noPylong_small (by decide))|((with_reducible refine gM ?_ ?_);(first|exact IntMulOk.of_right (intBits_le_64 (by omega) (by omega))|exact IntMulOk.of_left (intBits_le_64 (by omega) (by omega))))|((with_reducible refine kF ?_ ?_ ?_);exact rfl;exact fun _ => rfl)|((with_reducible refine gW ?_ ?_);exact fun _ => rfl)|with_reducible refine pO ?_))
  have s1 : Sub (σ.set d (.dict [("n", .int n)])) (σ.set d (.dict [("n", .int n)]) ++ [.list [.int 0]] ++ [.list ((List.replicate (n + 1) (0 : Int)).map AV.int)]) := by (repeat (first | exact Sub.refl _ | assumption | refine Sub.trans ?_ (Sub.snoc _ _)))
  refine Cl.set (s1 _ _ (get_ne htd ht)) (s1 _ _ (get_set hd)) rfl (by simp) rfl ?_
  have L1 := lt_of_get ht
  have L2 := lt_of_get hd
  generalize hσ1 : (σ.set d (.dict [("n", .int n)]) ++ [.list [.int 0]] ++ [.list ((List.replicate (n + 1) (0 : Int)).map AV.int)]) = σ₁
  have hlen : σ₁.length = σ.length + 2 := by rw [← hσ1]; simp
  have g1 : σ₁[t]? = some (.inst C d) := by rw [← hσ1]; exact s1 _ _ (get_ne htd ht)
  have g2 : σ₁[d]? = some (.dict [("n", .int n)]) := by rw [← hσ1]; exact s1 _ _ (get_set hd)
  have g3 : σ₁[σ.length + 1]? = some (.list ((List.replicate (n + 1) (0 : Int)).map AV.int)) := by rw [← hσ1]; simp
  have g4 : Fx [d] σ σ₁ := by rw [← hσ1]; exact (Fx.set (by simp)).trans (Fx.of s1)
  have wl : (σ.set d (.dict [("n", .int n)]) ++ [AO.list [.int 0]]).length = σ.length + 1 := by simp
  rw [wl]
  clear hσ1 s1 wl
  have nd : σ.length + 1 ≠ d := by (first|lia|omega)
  have nt : σ.length + 1 ≠ t := by (first|lia|omega)
  show TSs _ _ _ _ _ _ (σ₁.set d (.dict [("n", .int n), ("worths", .ref (σ.length + 1))]))
  generalize hσ2 : σ₁.set d (.dict [("n", .int n), ("worths", .ref (σ.length + 1))]) = σ₂
  have k1 : σ₂[t]? = some (.inst C d) := by rw [← hσ2]; exact get_ne htd g1
  have k2 : σ₂[d]? = some (.dict [("n", .int n), ("worths", .ref (σ.length + 1))]) := by rw [← hσ2]; exact get_set g2
  have k3 : σ₂[σ.length + 1]? = some (.list ((List.replicate (n + 1) (0 : Int)).map AV.int)) := by rw [← hσ2]; exact get_ne nd g3
  have k4 : Fx [d] σ σ₂ := by rw [← hσ2]; exact g4.trans (Fx.set (by simp))
  have hlen2 : σ₂.length = σ.length + 2 := by rw [← hσ2, set_len]; exact hlen
  clear hσ2 hlen g1 g2 g3 g4
  repeat (first|with_reducible refine kW ?_|(first|with_reducible (first|refine pB ?_|refine pF ?_|refine pA ?_|refine kX ?_|refine kY ?_|refine gH ?_|refine gG ?_|refine kD ?_|refine gY ?_|refine kJ ?_|refine gX ?_|refine kL ?_|refine kE ?_|refine kK ?_|refine kC ?_|refine kI ?_|refine kO ?_|refine kP ?_|refine kN ?_|refine pJ ?_|refine pG ?_|refine gB ?_|refine gA ?_|refine pM ?_|refine gJ ?_|refine gN ?_|refine gU ?_|refine gQ ?_|refine gO ?_|refine gV ?_|refine pN ?_)|((with_reducible refine And.intro ?_ ?_);(first|(rw [sizeLine_eq];exact of_decide_eq_true rfl)|omega))|((with_reducible first|refine kZ ?_ ?_|refine kQ ?_ ?_|refine kS ?_ ?_|refine kB ?_ ?_|refine kM ?_ ?_|refine pH ?_ ?_|refine pK ?_ ?_);exact rfl)|((with_reducible first|refine kR ?_ ?_ ?_|refine kT ?_ ?_ ?_|apply kG);exact rfl;exact rfl)|((with_reducible apply gZ);assumption;exact rfl;decide +kernel;exact rfl)|((with_reducible apply kA);assumption;exact rfl;decide +kernel;exact rfl;(first|exact .type _|exact .builtin _);exact rfl)|((with_reducible refine gL ?_ ?_);decide)|((with_reducible refine gK ?_ ?_ ?_);decide;exact PyProof.noPylong_small (by decide))|((with_reducible refine gM ?_ ?_);(first|exact IntMulOk.of_right (intBits_le_64 (by omega) (by omega))|exact IntMulOk.of_left (intBits_le_64 (by omega) (by omega))))|((with_reducible refine kF ?_ ?_ ?_);exact rfl;exact fun _ => rfl)|((with_reducible refine gW ?_ ?_);exact fun _ => rfl)|with_reducible refine pO ?_))
  refine Cl.set (Sub.snoc _ _ _ _ k1) (Sub.snoc _ _ _ _ k2) rfl (by simp) rfl ?_
  show TSs _ _ _ _ _ _ ((σ₂ ++ [AO.list []]).set d (.dict [("n", .int n), ("worths", .ref (σ.length + 1)), ("order", .ref σ₂.length)]))
  rw [hlen2]
  generalize hσ3 : (σ₂ ++ [AO.list []]).set d (.dict [("n", .int n), ("worths", .ref (σ.length + 1)), ("order", .ref (σ.length + 2))]) = σ₃
  have j1 : σ₃[t]? = some (.inst C d) := by rw [← hσ3]; exact get_ne htd (Sub.snoc _ _ _ _ k1)
  have j2 : σ₃[d]? = some (.dict [("n", .int n), ("worths", .ref (σ.length + 1)), ("order", .ref (σ.length + 2))]) := by rw [← hσ3]; exact get_set (Sub.snoc _ _ _ _ k2)
  have j3 : σ₃[σ.length + 1]? = some (.list ((List.replicate (n + 1) (0 : Int)).map AV.int)) := by rw [← hσ3]; exact get_ne nd (Sub.snoc _ _ _ _ k3)
  have j5 : σ₃[σ.length + 2]? = some (.list []) := by rw [← hσ3]; exact get_ne (by (first|lia|omega)) (by rw [← hlen2]; exact get_snoc _ _)
  have j4 : Fx [d] σ σ₃ := by rw [← hσ3]; exact (k4.trans (Fx.of (Sub.snoc _ _))).trans (Fx.set (by simp))
  have hlen3 : σ₃.length = σ.length + 3 := by rw [← hσ3, set_len]; simp [hlen2]
  clear hσ3 hlen2 k1 k2 k3 k4
  repeat (first|with_reducible refine kW ?_|(first|with_reducible (first|refine pB ?_|refine pF ?_|refine pA ?_|refine kX ?_|refine kY ?_|refine gH ?_|refine gG ?_|refine kD ?_|refine gY ?_|refine kJ ?_|refine gX ?_|refine kL ?_|refine kE ?_|refine kK ?_|refine kC ?_|refine kI ?_|refine kO ?_|refine kP ?_|refine kN ?_|refine pJ ?_|refine pG ?_|refine gB ?_|refine gA ?_|refine pM ?_|refine gJ ?_|refine gN ?_|refine gU ?_|refine gQ ?_|refine gO ?_|refine gV ?_|refine pN ?_)|((with_reducible refine And.intro ?_ ?_);(first|(rw [sizeLine_eq];exact of_decide_eq_true rfl)|omega))|((with_reducible first|refine kZ ?_ ?_|refine kQ ?_ ?_|refine kS ?_ ?_|refine kB ?_ ?_|refine kM ?_ ?_|refine pH ?_ ?_|refine pK ?_ ?_);exact rfl)|((with_reducible first|refine kR ?_ ?_ ?_|refine kT ?_ ?_ ?_|apply kG);exact rfl;exact rfl)|((with_reducible apply gZ);assumption;exact rfl;decide +kernel;exact rfl)|((with_reducible apply kA);assumption;exact rfl;decide +kernel;exact rfl;(first|exact .type _|exact .builtin _);exact rfl)|((with_reducible refine gL ?_ ?_);decide)|((with_reducible refine gK ?_ ?_ ?_);decide;exact PyProof.noPylong_small (by decide))|((with_reducible refine gM ?_ ?_);(first|exact IntMulOk.of_right (intBits_le_64 (by omega) (by omega))|exact IntMulOk.of_left (intBits_le_64 (by omega) (by omega))))|((with_reducible refine kF ?_ ?_ ?_);exact rfl;exact fun _ => rfl)|((with_reducible refine gW ?_ ?_);exact fun _ => rfl)|with_reducible refine pO ?_))
  refine Cl.set (Sub.snoc _ _ _ _ j1) (Sub.snoc _ _ _ _ j2) rfl (by simp) rfl ?_
  show TSs _ _ _ _ _ _ ((σ₃ ++ [AO.list []]).set d (.dict [("n", .int n), ("worths", .ref (σ.length + 1)), ("order", .ref (σ.length + 2)), ("marks", .ref σ₃.length)]))
  rw [hlen3]
  repeat (first|with_reducible refine kW ?_|(first|with_reducible (first|refine pB ?_|refine pF ?_|refine pA ?_|refine kX ?_|refine kY ?_|refine gH ?_|refine gG ?_|refine kD ?_|refine gY ?_|refine kJ ?_|refine gX ?_|refine kL ?_|refine kE ?_|refine kK ?_|refine kC ?_|refine kI ?_|refine kO ?_|refine kP ?_|refine kN ?_|refine pJ ?_|refine pG ?_|refine gB ?_|refine gA ?_|refine pM ?_|refine gJ ?_|refine gN ?_|refine gU ?_|refine gQ ?_|refine gO ?_|refine gV ?_|refine pN ?_)|((with_reducible refine And.intro ?_ ?_);(first|(rw [sizeLine_eq];exact of_decide_eq_true rfl)|omega))|((with_reducible first|refine kZ ?_ ?_|refine kQ ?_ ?_|refine kS ?_ ?_|refine kB ?_ ?_|refine kM ?_ ?_|refine pH ?_ ?_|refine pK ?_ ?_);exact rfl)|((with_reducible first|refine kR ?_ ?_ ?_|refine kT ?_ ?_ ?_|apply kG);exact rfl;exact rfl)|((with_reducible apply gZ);assumption;exact rfl;decide +kernel;exact rfl)|((with_reducible apply kA);assumption;exact rfl;decide +kernel;exact rfl;(first|exact .type _|exact .builtin _);exact rfl)|((with_reducible refine gL ?_ ?_);decide)|((with_reducible refine gK ?_ ?_ ?_);decide;exact PyProof.noPylong_small (by decide))|((with_reducible refine gM ?_ ?_);(first|exact IntMulOk.of_right (intBits_le_64 (by omega) (by omega))|exact IntMulOk.of_left (intBits_le_64 (by omega) (by omega))))|((with_reducible refine kF ?_ ?_ ?_);exact rfl;exact fun _ => rfl)|((with_reducible refine gW ?_ ?_);exact fun _ => rfl)|with_reducible refine pO ?_))
  refine h ⟨t, d, σ.length + 1, σ.length + 2, σ.length + 3⟩ _ rfl rfl ⟨get_ne htd (Sub.snoc _ _ _ _ j1), get_set (Sub.snoc _ _ _ _ j2), get_ne nd (Sub.snoc _ _ _ _ j3), get_ne (by show σ.length + 2 ≠ d; (first|lia|omega)) (Sub.snoc _ _ _ _ j5), get_ne (by show σ.length + 3 ≠ d; (first|lia|omega)) (by rw [← hlen3]; exact get_snoc _ _), by simp, by simp, by simp⟩ ((j4.trans (Fx.of (Sub.snoc _ _))).trans (Fx.set (by simp))) (by simp) (by simp) (by simp)
theorem mk_spec {W : Wd} {K : Frag} {C f : Addr} (Cl : ClsIs W K C ["n", "worths", "order", "marks"]) (M : MethIs W K C "__init__" f ["self", "n"] (methBody pw 6 0) (methScope pw 6 0)) {lv : Nat} {n : Nat} {σ : AH} {Q : AV → AH → Prop} (hn : n ≤ 1000)
    (h : ∀ p σ', TrAt C p n (List.replicate (n + 1) 0) [] [] σ' → Sub σ σ' → σ.length ≤ p.t → σ.length ≤ p.d → σ.length ≤ p.w → σ.length ≤ p.o → σ.length ≤ p.k → Q (.ref p.t) σ') :
    TCall W (lv + 2) (.stat (.ref C)) [.int n] Q σ := by
  refine Cl.make M (init_spec Cl M hn (d := σ.length) (by simp) (by simp) fun p σ' e1 e2 hT hF h1 h2 h3 => ⟨rfl, ?_⟩)
  have e3 : Sub σ σ' := fun i o e => hF i o (by have := lt_of_get e; simp; (first|lia|omega)) (Sub.snoc _ _ _ _ e)
  simp at h1 h2 h3
  rw [← e1]
  exact h p σ' hT e3 (by (first|lia|omega)) (by (first|lia|omega)) (by (first|lia|omega)) (by (first|lia|omega)) (by (first|lia|omega))


theorem assign_spec {W : Wd} {K : Frag} {C f : Addr} (Cl : ClsIs W K C ["n", "worths", "order", "marks"]) (M : MethIs W K C "assign" f ["self", "lit"] (methBody pw 6 2) (methScope pw 6 2)) {lv : Nat} {n : Nat} {p : TrP} {ws od mk : List Int} {lit : Int} {σ : AH} {Q : AV → AH → Prop}
    (hT : TrAt C p n ws od mk σ) (hw : ws.length = n + 1) (hn : n ≤ 1000) (hod : od.length ≤ 100000) (hlit : inR n lit)
    (h : ∀ σ', TrAt C p n (wset ws lit) (od ++ [lit]) mk σ' → Fx p.S σ σ' → Q .none σ') :
    TCode W (lv + 1) (.stat (.ref f)) [.ref p.t, .int lit] Q σ := by
  unfold inR at hlit
  refine code_fn M.fn rfl ?_
  refine ts_cut (fun m' σ' => LE [("self", .ref p.t), ("lit", .int lit)] m' ∧ TrAt C p n (wset ws lit) od mk σ' ∧ Fx p.S σ σ') ?_ ?_
  · repeat (first|with_reducible refine kW ?_|(first|with_reducible (first|refine pB ?_|refine pF ?_|refine pA ?_|refine kX ?_|refine kY ?_|refine gH ?_|refine gG ?_|refine kD ?_|refine gY ?_|refine kJ ?_|refine gX ?_|refine kL ?_|refine kE ?_|refine kK ?_|refine kC ?_|refine kI ?_|refine kO ?_|refine kP ?_|refine kN ?_|refine pJ ?_|refine pG ?_|refine gB ?_|refine gA ?_|refine pM ?_|refine gJ ?_|refine gN ?_|refine gU ?_|refine gQ ?_|refine gO ?_|refine gV ?_|refine pN ?_)|((with_reducible refine And.intro ?_ ?_);(first|(rw [sizeLine_eq];exact of_decide_eq_true rfl)|omega))|((with_reducible first|refine kZ ?_ ?_|refine kQ ?_ ?_|refine kS ?_ ?_|refine kB ?_ ?_|refine kM ?_ ?_|refine pH ?_ ?_|refine pK ?_ ?_);exact rfl)|((with_reducible first|refine kR ?_ ?_ ?_|refine kT ?_ ?_ ?_|apply kG);exact rfl;exact rfl)|((with_reducible apply gZ);assumption;exact rfl;decide +kernel;exact rfl)|((with_reducible apply kA);assumption;exact rfl;decide +kernel;exact rfl;(first|exact .type _|exact .builtin _);exact rfl)|((with_reducible refine gL ?_ ?_);decide)|((with_reducible refine gK ?_ ?_ ?_);decide;exact PyProof.noPylong_small (by decide))|((with_reducible refine gM ?_ ?_);(first|exact IntMulOk.of_right (intBits_le_64 (by omega) (by omega))|exact IntMulOk.of_left (intBits_le_64 (by omega) (by omega))))|((with_reducible refine kF ?_ ?_ ?_);exact rfl;exact fun _ => rfl)|((with_reducible refine gW ?_ ?_);exact fun _ => rfl)|with_reducible refine pO ?_))
    split
    · rename_i hpos
      have hpos : 0 < lit := by simpa using hpos
      repeat (first|with_reducible refine kW ?_|(first|with_reducible (first|refine pB ?_|refine pF ?_|refine pA ?_|refine kX ?_|refine kY ?_|refine gH ?_|refine gG ?_|refine kD ?_|refine gY ?_|refine kJ ?_|refine gX ?_|refine kL ?_|refine kE ?_|refine kK ?_|refine kC ?_|refine kI ?_|refine kO ?_|refine kP ?_|refine kN ?_|refine pJ ?_|refine pG ?_|refine gB ?_|refine gA ?_|refine pM ?_|refine gJ ?_|refine gN ?_|refine gU ?_|refine gQ ?_|refine gO ?_|refine gV ?_|refine pN ?_)|((with_reducible refine And.intro ?_ ?_);(first|(rw [sizeLine_eq];exact of_decide_eq_true rfl)|omega))|((with_reducible first|refine kZ ?_ ?_|refine kQ ?_ ?_|refine kS ?_ ?_|refine kB ?_ ?_|refine kM ?_ ?_|refine pH ?_ ?_|refine pK ?_ ?_);exact rfl)|((with_reducible first|refine kR ?_ ?_ ?_|refine kT ?_ ?_ ?_|apply kG);exact rfl;exact rfl)|((with_reducible apply gZ);assumption;exact rfl;decide +kernel;exact rfl)|((with_reducible apply kA);assumption;exact rfl;decide +kernel;exact rfl;(first|exact .type _|exact .builtin _);exact rfl)|((with_reducible refine gL ?_ ?_);decide)|((with_reducible refine gK ?_ ?_ ?_);decide;exact PyProof.noPylong_small (by decide))|((with_reducible refine gM ?_ ?_);(first|exact IntMulOk.of_right (intBits_le_64 (by omega) (by omega))|exact IntMulOk.of_left (intBits_le_64 (by omega) (by omega))))|((with_reducible refine kF ?_ ?_ ?_);exact rfl;exact fun _ => rfl)|((with_reducible refine gW ?_ ?_);exact fun _ => rfl)|with_reducible refine pO ?_))
      refine Cl.get hT.t hT.d rfl rfl rfl ?_
      repeat (first|with_reducible refine kW ?_|(first|with_reducible (first|refine pB ?_|refine pF ?_|refine pA ?_|refine kX ?_|refine kY ?_|refine gH ?_|refine gG ?_|refine kD ?_|refine gY ?_|refine kJ ?_|refine gX ?_|refine kL ?_|refine kE ?_|refine kK ?_|refine kC ?_|refine kI ?_|refine kO ?_|refine kP ?_|refine kN ?_|refine pJ ?_|refine pG ?_|refine gB ?_|refine gA ?_|refine pM ?_|refine gJ ?_|refine gN ?_|refine gU ?_|refine gQ ?_|refine gO ?_|refine gV ?_|refine pN ?_)|((with_reducible refine And.intro ?_ ?_);(first|(rw [sizeLine_eq];exact of_decide_eq_true rfl)|omega))|((with_reducible first|refine kZ ?_ ?_|refine kQ ?_ ?_|refine kS ?_ ?_|refine kB ?_ ?_|refine kM ?_ ?_|refine pH ?_ ?_|refine pK ?_ ?_);exact rfl)|((with_reducible first|refine kR ?_ ?_ ?_|refine kT ?_ ?_ ?_|apply kG);exact rfl;exact rfl)|((with_reducible apply gZ);assumption;exact rfl;decide +kernel;exact rfl)|((with_reducible apply kA);assumption;exact rfl;decide +kernel;exact rfl;(first|exact .type _|exact .builtin _);exact rfl)|((with_reducible refine gL ?_ ?_);decide)|((with_reducible refine gK ?_ ?_ ?_);decide;exact PyProof.noPylong_small (by decide))|((with_reducible refine gM ?_ ?_);(first|exact IntMulOk.of_right (intBits_le_64 (by omega) (by omega))|exact IntMulOk.of_left (intBits_le_64 (by omega) (by omega))))|((with_reducible refine kF ?_ ?_ ?_);exact rfl;exact fun _ => rfl)|((with_reducible refine gW ?_ ?_);exact fun _ => rfl)|with_reducible refine pO ?_))
      refine tset_list hT.w (pyIdx_nat (j := lit.toNat) (by (first|lia|omega)) (by simp; (first|lia|omega))) (by (first|lia|omega)) ?_
      repeat (first|with_reducible refine kW ?_|(first|with_reducible (first|refine pB ?_|refine pF ?_|refine pA ?_|refine kX ?_|refine kY ?_|refine gH ?_|refine gG ?_|refine kD ?_|refine gY ?_|refine kJ ?_|refine gX ?_|refine kL ?_|refine kE ?_|refine kK ?_|refine kC ?_|refine kI ?_|refine kO ?_|refine kP ?_|refine kN ?_|refine pJ ?_|refine pG ?_|refine gB ?_|refine gA ?_|refine pM ?_|refine gJ ?_|refine gN ?_|refine gU ?_|refine gQ ?_|refine gO ?_|refine gV ?_|refine pN ?_)|((with_reducible refine And.intro ?_ ?_);(first|(rw [sizeLine_eq];exact of_decide_eq_true rfl)|omega))|((with_reducible first|refine kZ ?_ ?_|refine kQ ?_ ?_|refine kS ?_ ?_|refine kB ?_ ?_|refine kM ?_ ?_|refine pH ?_ ?_|refine pK ?_ ?_);exact rfl)|((with_reducible first|refine kR ?_ ?_ ?_|refine kT ?_ ?_ ?_|apply kG);exact rfl;exact rfl)|((with_reducible apply gZ);assumption;exact rfl;decide +kernel;exact rfl)|((with_reducible apply kA);assumption;exact rfl;decide +kernel;exact rfl;(first|exact .type _|exact .builtin _);exact rfl)|((with_reducible refine gL ?_ ?_);decide)|((with_reducible refine gK ?_ ?_ ?_);decide;exact PyProof.noPylong_small (by decide))|((with_reducible refine gM ?_ ?_);(first|exact IntMulOk.of_right (intBits_le_64 (by omega) (by omega))|exact IntMulOk.of_left (intBits_le_64 (by omega) (by omega))))|((with_reducible refine kF ?_ ?_ ?_);exact rfl;exact fun _ => rfl)|((with_reducible refine gW ?_ ?_);exact fun _ => rfl)|with_reducible refine pO ?_))
      have e : wset ws lit = ws.set lit.toNat 1 := by unfold wset; rw [if_pos hpos]
      refine ⟨by (repeat (first | exact LE.nil | refine LE.cons (by exact rfl) ?_)), ?_, Fx.setW p⟩
      rw [e, ← List.map_set]
      exact hT.setW
    · rename_i hpos
      have hpos : ¬ 0 < lit := by simpa using hpos
      repeat (first|with_reducible refine kW ?_|(first|with_reducible (first|refine pB ?_|refine pF ?_|refine pA ?_|refine kX ?_|refine kY ?_|refine gH ?_|refine gG ?_|refine kD ?_|refine gY ?_|refine kJ ?_|refine gX ?_|refine kL ?_|refine kE ?_|refine kK ?_|refine kC ?_|refine kI ?_|refine kO ?_|refine kP ?_|refine kN ?_|refine pJ ?_|refine pG ?_|refine gB ?_|refine gA ?_|refine pM ?_|refine gJ ?_|refine gN ?_|refine gU ?_|refine gQ ?_|refine gO ?_|refine gV ?_|refine pN ?_)|((with_reducible refine And.intro ?_ ?_);(first|(rw [sizeLine_eq];exact of_decide_eq_true rfl)|omega))|((with_reducible first|refine kZ ?_ ?_|refine kQ ?_ ?_|refine kS ?_ ?_|refine kB ?_ ?_|refine kM ?_ ?_|refine pH ?_ ?_|refine pK ?_ ?_);exact rfl)|((with_reducible first|refine kR ?_ ?_ ?_|refine kT ?_ ?_ ?_|apply kG);exact rfl;exact rfl)|((with_reducible apply gZ);assumption;exact rfl;decide +kernel;exact rfl)|((with_reducible apply kA);assumption;exact rfl;decide +kernel;exact rfl;(first|exact .type _|exact .builtin _);exact rfl)|((with_reducible refine gL ?_ ?_);decide)|((with_reducible refine gK ?_ ?_ ?_);decide;exact PyProof.noPylong_small (by decide))|((with_reducible refine gM ?_ ?_);(first|exact IntMulOk.of_right (intBits_le_64 (by omega) (by omega))|exact IntMulOk.of_left (intBits_le_64 (by omega) (by omega))))|((with_reducible refine kF ?_ ?_ ?_);exact rfl;exact fun _ => rfl)|((with_reducible refine gW ?_ ?_);exact fun _ => rfl)|with_reducible refine pO ?_))
      refine Cl.get hT.t hT.d rfl rfl rfl ?_
      repeat (first|with_reducible refine kW ?_|(first|with_reducible (first|refine pB ?_|refine pF ?_|refine pA ?_|refine kX ?_|refine kY ?_|refine gH ?_|refine gG ?_|refine kD ?_|refine gY ?_|refine kJ ?_|refine gX ?_|refine kL ?_|refine kE ?_|refine kK ?_|refine kC ?_|refine kI ?_|refine kO ?_|refine kP ?_|refine kN ?_|refine pJ ?_|refine pG ?_|refine gB ?_|refine gA ?_|refine pM ?_|refine gJ ?_|refine gN ?_|refine gU ?_|refine gQ ?_|refine gO ?_|refine gV ?_|refine pN ?_)|((with_reducible refine And.intro ?_ ?_);(first|(rw [sizeLine_eq];exact of_decide_eq_true rfl)|omega))|((with_reducible first|refine kZ ?_ ?_|refine kQ ?_ ?_|refine kS ?_ ?_|refine kB ?_ ?_|refine kM ?_ ?_|refine pH ?_ ?_|refine pK ?_ ?_);exact rfl)|((with_reducible first|refine kR ?_ ?_ ?_|refine kT ?_ ?_ ?_|apply kG);exact rfl;exact rfl)|((with_reducible apply gZ);assumption;exact rfl;decide +kernel;exact rfl)|((with_reducible apply kA);assumption;exact rfl;decide +kernel;exact rfl;(first|exact .type _|exact .builtin _);exact rfl)|((with_reducible refine gL ?_ ?_);decide)|((with_reducible refine gK ?_ ?_ ?_);decide;exact PyProof.noPylong_small (by decide))|((with_reducible refine gM ?_ ?_);(first|exact IntMulOk.of_right (intBits_le_64 (by omega) (by omega))|exact IntMulOk.of_left (intBits_le_64 (by omega) (by omega))))|((with_reducible refine kF ?_ ?_ ?_);exact rfl;exact fun _ => rfl)|((with_reducible refine gW ?_ ?_);exact fun _ => rfl)|with_reducible refine pO ?_))
      refine tset_list hT.w (pyIdx_nat (j := (-lit).toNat) (by (first|lia|omega)) (by simp; (first|lia|omega))) (by (first|lia|omega)) ?_
      repeat (first|with_reducible refine kW ?_|(first|with_reducible (first|refine pB ?_|refine pF ?_|refine pA ?_|refine kX ?_|refine kY ?_|refine gH ?_|refine gG ?_|refine kD ?_|refine gY ?_|refine kJ ?_|refine gX ?_|refine kL ?_|refine kE ?_|refine kK ?_|refine kC ?_|refine kI ?_|refine kO ?_|refine kP ?_|refine kN ?_|refine pJ ?_|refine pG ?_|refine gB ?_|refine gA ?_|refine pM ?_|refine gJ ?_|refine gN ?_|refine gU ?_|refine gQ ?_|refine gO ?_|refine gV ?_|refine pN ?_)|((with_reducible refine And.intro ?_ ?_);(first|(rw [sizeLine_eq];exact of_decide_eq_true rfl)|omega))|((with_reducible first|refine kZ ?_ ?_|refine kQ ?_ ?_|refine kS ?_ ?_|refine kB ?_ ?_|refine kM ?_ ?_|refine pH ?_ ?_|refine pK ?_ ?_);exact rfl)|((with_reducible first|refine kR ?_ ?_ ?_|refine kT ?_ ?_ ?_|apply kG);exact rfl;exact rfl)|((with_reducible apply gZ);assumption;exact rfl;decide +kernel;exact rfl)|((with_reducible apply kA);assumption;exact rfl;decide +kernel;exact rfl;(first|exact .type _|exact .builtin _);exact rfl)|((with_reducible refine gL ?_ ?_);decide)|((with_reducible refine gK ?_ ?_ ?_);decide;exact PyProof.noPylong_small (by decide))|((with_reducible refine gM ?_ ?_);(first|exact IntMulOk.of_right (intBits_le_64 (by omega) (by omega))|exact IntMulOk.of_left (intBits_le_64 (by omega) (by omega))))|((with_reducible refine kF ?_ ?_ ?_);exact rfl;exact fun _ => rfl)|((with_reducible refine gW ?_ ?_);exact fun _ => rfl)|with_reducible refine pO ?_))
      have e : wset ws lit = ws.set (-lit).toNat (-1) := by unfold wset; rw [if_neg hpos]
      refine ⟨by (repeat (first | exact LE.nil | refine LE.cons (by exact rfl) ?_)), ?_, Fx.setW p⟩
      rw [e, ← List.map_set]
      exact hT.setW
  rintro m' σ₁ ⟨le, hT, hF⟩
  refine TX.forget le ?_
  repeat (first|with_reducible refine kW ?_|(first|with_reducible (first|refine pB ?_|refine pF ?_|refine pA ?_|refine kX ?_|refine kY ?_|refine gH ?_|refine gG ?_|refine kD ?_|refine gY ?_|refine kJ ?_|refine gX ?_|refine kL ?_|refine kE ?_|refine kK ?_|refine kC ?_|refine kI ?_|refine kO ?_|refine kP ?_|refine kN ?_|refine pJ ?_|refine pG ?_|refine gB ?_|refine gA ?_|refine pM ?_|refine gJ ?_|refine gN ?_|refine gU ?_|refine gQ ?_|refine gO ?_|refine gV ?_|refine pN ?_)|((with_reducible refine And.intro ?_ ?_);(first|(rw [sizeLine_eq];exact of_decide_eq_true rfl)|omega))|((with_reducible first|refine kZ ?_ ?_|refine kQ ?_ ?_|refine kS ?_ ?_|refine kB ?_ ?_|refine kM ?_ ?_|refine pH ?_ ?_|refine pK ?_ ?_);exact rfl)|((with_reducible first|refine kR ?_ ?_ ?_|refine kT ?_ ?_ ?_|apply kG);exact rfl;exact rfl)|((with_reducible apply gZ);assumption;exact rfl;decide +kernel;exact rfl)|((with_reducible apply kA);assumption;exact rfl;decide +kernel;exact rfl;(first|exact .type _|exact .builtin _);exact rfl)|((with_reducible refine gL ?_ ?_);decide)|((with_reducible refine gK ?_ ?_ ?_);decide;exact PyProof.noPylong_small (by decide))|((with_reducible refine gM ?_ ?_);(first|exact IntMulOk.of_right (intBits_le_64 (by omega) (by omega))|exact IntMulOk.of_left (intBits_le_64 (by omega) (by omega))))|((with_reducible refine kF ?_ ?_ ?_);exact rfl;exact fun _ => rfl)|((with_reducible refine gW ?_ ?_);exact fun _ => rfl)|with_reducible refine pO ?_))
  refine Cl.get hT.t hT.d rfl rfl rfl ?_
  refine tmeth_append hT.o ?_
  repeat (first|with_reducible refine kW ?_|(first|with_reducible (first|refine pB ?_|refine pF ?_|refine pA ?_|refine kX ?_|refine kY ?_|refine gH ?_|refine gG ?_|refine kD ?_|refine gY ?_|refine kJ ?_|refine gX ?_|refine kL ?_|refine kE ?_|refine kK ?_|refine kC ?_|refine kI ?_|refine kO ?_|refine kP ?_|refine kN ?_|refine pJ ?_|refine pG ?_|refine gB ?_|refine gA ?_|refine pM ?_|refine gJ ?_|refine gN ?_|refine gU ?_|refine gQ ?_|refine gO ?_|refine gV ?_|refine pN ?_)|((with_reducible refine And.intro ?_ ?_);(first|(rw [sizeLine_eq];exact of_decide_eq_true rfl)|omega))|((with_reducible first|refine kZ ?_ ?_|refine kQ ?_ ?_|refine kS ?_ ?_|refine kB ?_ ?_|refine kM ?_ ?_|refine pH ?_ ?_|refine pK ?_ ?_);exact rfl)|((with_reducible first|refine kR ?_ ?_ ?_|refine kT ?_ ?_ ?_|apply kG);exact rfl;exact rfl)|((with_reducible apply gZ);assumption;exact rfl;decide +kernel;exact rfl)|((with_reducible apply kA);assumption;exact rfl;decide +kernel;exact rfl;(first|exact .type _|exact .builtin _);exact rfl)|((with_reducible refine gL ?_ ?_);decide)|((with_reducible refine gK ?_ ?_ ?_);decide;exact PyProof.noPylong_small (by decide))|((with_reducible refine gM ?_ ?_);(first|exact IntMulOk.of_right (intBits_le_64 (by omega) (by omega))|exact IntMulOk.of_left (intBits_le_64 (by omega) (by omega))))|((with_reducible refine kF ?_ ?_ ?_);exact rfl;exact fun _ => rfl)|((with_reducible refine gW ?_ ?_);exact fun _ => rfl)|with_reducible refine pO ?_))
  refine tcall_append hT.o (by rw [sizeLine_eq]; simp; (first|lia|omega)) ?_
  repeat (first|with_reducible refine kW ?_|(first|with_reducible (first|refine pB ?_|refine pF ?_|refine pA ?_|refine kX ?_|refine kY ?_|refine gH ?_|refine gG ?_|refine kD ?_|refine gY ?_|refine kJ ?_|refine gX ?_|refine kL ?_|refine kE ?_|refine kK ?_|refine kC ?_|refine kI ?_|refine kO ?_|refine kP ?_|refine kN ?_|refine pJ ?_|refine pG ?_|refine gB ?_|refine gA ?_|refine pM ?_|refine gJ ?_|refine gN ?_|refine gU ?_|refine gQ ?_|refine gO ?_|refine gV ?_|refine pN ?_)|((with_reducible refine And.intro ?_ ?_);(first|(rw [sizeLine_eq];exact of_decide_eq_true rfl)|omega))|((with_reducible first|refine kZ ?_ ?_|refine kQ ?_ ?_|refine kS ?_ ?_|refine kB ?_ ?_|refine kM ?_ ?_|refine pH ?_ ?_|refine pK ?_ ?_);exact rfl)|((with_reducible first|refine kR ?_ ?_ ?_|refine kT ?_ ?_ ?_|apply kG);exact rfl;exact rfl)|((with_reducible apply gZ);assumption;exact rfl;decide +kernel;exact rfl)|((with_reducible apply kA);assumption;exact rfl;decide +kernel;exact rfl;(first|exact .type _|exact .builtin _);exact rfl)|((with_reducible refine gL ?_ ?_);decide)|((with_reducible refine gK ?_ ?_ ?_);decide;exact PyProof.noPylong_small (by decide))|((with_reducible refine gM ?_ ?_);(first|exact IntMulOk.of_right (intBits_le_64 (by omega) (by omega))|exact IntMulOk.of_left (intBits_le_64 (by omega) (by omega))))|((with_reducible refine kF ?_ ?_ ?_);exact rfl;exact fun _ => rfl)|((with_reducible refine gW ?_ ?_);exact fun _ => rfl)|with_reducible refine pO ?_))
  refine h _ ?_ (hF.trans (Fx.setO p))
  have := hT.setO (od' := od ++ [lit])
  rw [List.map_append] at this
  exact this


theorem decide_spec {W : Wd} {K : Frag} {C f fa : Addr} (Cl : ClsIs W K C ["n", "worths", "order", "marks"]) (M : MethIs W K C "decide" f ["self", "lit"] (methBody pw 6 3) (methScope pw 6 3)) (Ma : MethIs W K C "assign" fa ["self", "lit"] (methBody pw 6 2) (methScope pw 6 2)) (hlen : W.mg "len" = none) {lv : Nat} {n : Nat} {p : TrP} {ws od mk : List Int} {lit : Int} {σ : AH} {Q : AV → AH → Prop}
    (hT : TrAt C p n ws od mk σ) (hw : ws.length = n + 1) (hn : n ≤ 1000) (hod : od.length ≤ 100000) (hmk : mk.length ≤ 100000) (hlit : inR n lit)
    (h : ∀ σ', TrAt C p n (wset ws lit) (od ++ [lit]) (mk ++ [(od.length : Int)]) σ' → Fx p.S σ σ' → Q .none σ') :
    TCode W (lv + 2) (.stat (.ref f)) [.ref p.t, .int lit] Q σ := by
  refine code_fn M.fn rfl ?_
  refine kW ?_
  repeat (first|with_reducible refine kW ?_|(first|with_reducible (first|refine pB ?_|refine pF ?_|refine pA ?_|refine kX ?_|refine kY ?_|refine gH ?_|refine gG ?_|refine kD ?_|refine gY ?_|refine kJ ?_|refine gX ?_|refine kL ?_|refine kE ?_|refine kK ?_|refine kC ?_|refine kI ?_|refine kO ?_|refine kP ?_|refine kN ?_|refine pJ ?_|refine pG ?_|refine gB ?_|refine gA ?_|refine pM ?_|refine gJ ?_|refine gN ?_|refine gU ?_|refine gQ ?_|refine gO ?_|refine gV ?_|refine pN ?_)|((with_reducible refine And.intro ?_ ?_);(first|(rw [sizeLine_eq];exact of_decide_eq_true rfl)|omega))|((with_reducible first|refine kZ ?_ ?_|refine kQ ?_ ?_|refine kS ?_ ?_|refine kB ?_ ?_|refine kM ?_ ?_|refine pH ?_ ?_|refine pK ?_ ?_);exact rfl)|((with_reducible first|refine kR ?_ ?_ ?_|refine kT ?_ ?_ ?_|apply kG);exact rfl;exact rfl)|((with_reducible apply gZ);assumption;exact rfl;decide +kernel;exact rfl)|((with_reducible apply kA);assumption;exact rfl;decide +kernel;exact rfl;(first|exact .type _|exact .builtin _);exact rfl)|((with_reducible refine gL ?_ ?_);decide)|((with_reducible refine gK ?_ ?_ ?_);decide;exact PyProof.noPylong_small (by decide))|((with_reducible refine gM ?_ ?_);(first|exact IntMulOk.of_right (intBits_le_64 (by omega) (by omega))|exact IntMulOk.of_left (intBits_le_64 (by omega) (by omega))))|((with_reducible refine kF ?_ ?_ ?_);exact rfl;exact fun _ => rfl)|((with_reducible refine gW ?_ ?_);exact fun _ => rfl)|with_reducible refine pO ?_))
  refine Cl.get hT.t hT.d rfl rfl rfl ?_
  refine tmeth_append hT.k ?_
  repeat (first|with_reducible refine kW ?_|(first|with_reducible (first|refine pB ?_|refine pF ?_|refine pA ?_|refine kX ?_|refine kY ?_|refine gH ?_|refine gG ?_|refine kD ?_|refine gY ?_|refine kJ ?_|refine gX ?_|refine kL ?_|refine kE ?_|refine kK ?_|refine kC ?_|refine kI ?_|refine kO ?_|refine kP ?_|refine kN ?_|refine pJ ?_|refine pG ?_|refine gB ?_|refine gA ?_|refine pM ?_|refine gJ ?_|refine gN ?_|refine gU ?_|refine gQ ?_|refine gO ?_|refine gV ?_|refine pN ?_)|((with_reducible refine And.intro ?_ ?_);(first|(rw [sizeLine_eq];exact of_decide_eq_true rfl)|omega))|((with_reducible first|refine kZ ?_ ?_|refine kQ ?_ ?_|refine kS ?_ ?_|refine kB ?_ ?_|refine kM ?_ ?_|refine pH ?_ ?_|refine pK ?_ ?_);exact rfl)|((with_reducible first|refine kR ?_ ?_ ?_|refine kT ?_ ?_ ?_|apply kG);exact rfl;exact rfl)|((with_reducible apply gZ);assumption;exact rfl;decide +kernel;exact rfl)|((with_reducible apply kA);assumption;exact rfl;decide +kernel;exact rfl;(first|exact .type _|exact .builtin _);exact rfl)|((with_reducible refine gL ?_ ?_);decide)|((with_reducible refine gK ?_ ?_ ?_);decide;exact PyProof.noPylong_small (by decide))|((with_reducible refine gM ?_ ?_);(first|exact IntMulOk.of_right (intBits_le_64 (by omega) (by omega))|exact IntMulOk.of_left (intBits_le_64 (by omega) (by omega))))|((with_reducible refine kF ?_ ?_ ?_);exact rfl;exact fun _ => rfl)|((with_reducible refine gW ?_ ?_);exact fun _ => rfl)|with_reducible refine pO ?_))
  refine Cl.get hT.t hT.d rfl rfl rfl ?_
  repeat (first|with_reducible refine kW ?_|(first|with_reducible (first|refine pB ?_|refine pF ?_|refine pA ?_|refine kX ?_|refine kY ?_|refine gH ?_|refine gG ?_|refine kD ?_|refine gY ?_|refine kJ ?_|refine gX ?_|refine kL ?_|refine kE ?_|refine kK ?_|refine kC ?_|refine kI ?_|refine kO ?_|refine kP ?_|refine kN ?_|refine pJ ?_|refine pG ?_|refine gB ?_|refine gA ?_|refine pM ?_|refine gJ ?_|refine gN ?_|refine gU ?_|refine gQ ?_|refine gO ?_|refine gV ?_|refine pN ?_)|((with_reducible refine And.intro ?_ ?_);(first|(rw [sizeLine_eq];exact of_decide_eq_true rfl)|omega))|((with_reducible first|refine kZ ?_ ?_|refine kQ ?_ ?_|refine kS ?_ ?_|refine kB ?_ ?_|refine kM ?_ ?_|refine pH ?_ ?_|refine pK ?_ ?_);exact rfl)|((with_reducible first|refine kR ?_ ?_ ?_|refine kT ?_ ?_ ?_|apply kG);exact rfl;exact rfl)|((with_reducible apply gZ);assumption;exact rfl;decide +kernel;exact rfl)|((with_reducible apply kA);assumption;exact rfl;decide +kernel;exact rfl;(first|exact .type _|exact .builtin _);exact rfl)|((with_reducible refine gL ?_ ?_);decide)|((with_reducible refine gK ?_ ?_ ?_);decide;exact PyProof.noPylong_small (by decide))|((with_reducible refine gM ?_ ?_);(first|exact IntMulOk.of_right (intBits_le_64 (by omega) (by omega))|exact IntMulOk.of_left (intBits_le_64 (by omega) (by omega))))|((with_reducible refine kF ?_ ?_ ?_);exact rfl;exact fun _ => rfl)|((with_reducible refine gW ?_ ?_);exact fun _ => rfl)|with_reducible refine pO ?_))
  refine tcall_len hT.o (by simp; (first|lia|omega)) ?_
  repeat (first|with_reducible refine kW ?_|(first|with_reducible (first|refine pB ?_|refine pF ?_|refine pA ?_|refine kX ?_|refine kY ?_|refine gH ?_|refine gG ?_|refine kD ?_|refine gY ?_|refine kJ ?_|refine gX ?_|refine kL ?_|refine kE ?_|refine kK ?_|refine kC ?_|refine kI ?_|refine kO ?_|refine kP ?_|refine kN ?_|refine pJ ?_|refine pG ?_|refine gB ?_|refine gA ?_|refine pM ?_|refine gJ ?_|refine gN ?_|refine gU ?_|refine gQ ?_|refine gO ?_|refine gV ?_|refine pN ?_)|((with_reducible refine And.intro ?_ ?_);(first|(rw [sizeLine_eq];exact of_decide_eq_true rfl)|omega))|((with_reducible first|refine kZ ?_ ?_|refine kQ ?_ ?_|refine kS ?_ ?_|refine kB ?_ ?_|refine kM ?_ ?_|refine pH ?_ ?_|refine pK ?_ ?_);exact rfl)|((with_reducible first|refine kR ?_ ?_ ?_|refine kT ?_ ?_ ?_|apply kG);exact rfl;exact rfl)|((with_reducible apply gZ);assumption;exact rfl;decide +kernel;exact rfl)|((with_reducible apply kA);assumption;exact rfl;decide +kernel;exact rfl;(first|exact .type _|exact .builtin _);exact rfl)|((with_reducible refine gL ?_ ?_);decide)|((with_reducible refine gK ?_ ?_ ?_);decide;exact PyProof.noPylong_small (by decide))|((with_reducible refine gM ?_ ?_);(first|exact IntMulOk.of_right (intBits_le_64 (by omega) (by omega))|exact IntMulOk.of_left (intBits_le_64 (by omega) (by omega))))|((with_reducible refine kF ?_ ?_ ?_);exact rfl;exact fun _ => rfl)|((with_reducible refine gW ?_ ?_);exact fun _ => rfl)|with_reducible refine pO ?_))
  refine tcall_append hT.k (by rw [sizeLine_eq]; simp; (first|lia|omega)) ?_
  have e : mk.map AV.int ++ [.int ((od.map AV.int).length : Int)] = (mk ++ [(od.length : Int)]).map AV.int := by simp
  rw [e]
  have hT1 := hT.setK (mk' := mk ++ [(od.length : Int)])
  repeat (first|with_reducible refine kW ?_|(first|with_reducible (first|refine pB ?_|refine pF ?_|refine pA ?_|refine kX ?_|refine kY ?_|refine gH ?_|refine gG ?_|refine kD ?_|refine gY ?_|refine kJ ?_|refine gX ?_|refine kL ?_|refine kE ?_|refine kK ?_|refine kC ?_|refine kI ?_|refine kO ?_|refine kP ?_|refine kN ?_|refine pJ ?_|refine pG ?_|refine gB ?_|refine gA ?_|refine pM ?_|refine gJ ?_|refine gN ?_|refine gU ?_|refine gQ ?_|refine gO ?_|refine gV ?_|refine pN ?_)|((with_reducible refine And.intro ?_ ?_);(first|(rw [sizeLine_eq];exact of_decide_eq_true rfl)|omega))|((with_reducible first|refine kZ ?_ ?_|refine kQ ?_ ?_|refine kS ?_ ?_|refine kB ?_ ?_|refine kM ?_ ?_|refine pH ?_ ?_|refine pK ?_ ?_);exact rfl)|((with_reducible first|refine kR ?_ ?_ ?_|refine kT ?_ ?_ ?_|apply kG);exact rfl;exact rfl)|((with_reducible apply gZ);assumption;exact rfl;decide +kernel;exact rfl)|((with_reducible apply kA);assumption;exact rfl;decide +kernel;exact rfl;(first|exact .type _|exact .builtin _);exact rfl)|((with_reducible refine gL ?_ ?_);decide)|((with_reducible refine gK ?_ ?_ ?_);decide;exact PyProof.noPylong_small (by decide))|((with_reducible refine gM ?_ ?_);(first|exact IntMulOk.of_right (intBits_le_64 (by omega) (by omega))|exact IntMulOk.of_left (intBits_le_64 (by omega) (by omega))))|((with_reducible refine kF ?_ ?_ ?_);exact rfl;exact fun _ => rfl)|((with_reducible refine gW ?_ ?_);exact fun _ => rfl)|with_reducible refine pO ?_))
  refine Cl.meth Ma hT1.t hT1.d rfl ?_
  repeat (first|with_reducible refine kW ?_|(first|with_reducible (first|refine pB ?_|refine pF ?_|refine pA ?_|refine kX ?_|refine kY ?_|refine gH ?_|refine gG ?_|refine kD ?_|refine gY ?_|refine kJ ?_|refine gX ?_|refine kL ?_|refine kE ?_|refine kK ?_|refine kC ?_|refine kI ?_|refine kO ?_|refine kP ?_|refine kN ?_|refine pJ ?_|refine pG ?_|refine gB ?_|refine gA ?_|refine pM ?_|refine gJ ?_|refine gN ?_|refine gU ?_|refine gQ ?_|refine gO ?_|refine gV ?_|refine pN ?_)|((with_reducible refine And.intro ?_ ?_);(first|(rw [sizeLine_eq];exact of_decide_eq_true rfl)|omega))|((with_reducible first|refine kZ ?_ ?_|refine kQ ?_ ?_|refine kS ?_ ?_|refine kB ?_ ?_|refine kM ?_ ?_|refine pH ?_ ?_|refine pK ?_ ?_);exact rfl)|((with_reducible first|refine kR ?_ ?_ ?_|refine kT ?_ ?_ ?_|apply kG);exact rfl;exact rfl)|((with_reducible apply gZ);assumption;exact rfl;decide +kernel;exact rfl)|((with_reducible apply kA);assumption;exact rfl;decide +kernel;exact rfl;(first|exact .type _|exact .builtin _);exact rfl)|((with_reducible refine gL ?_ ?_);decide)|((with_reducible refine gK ?_ ?_ ?_);decide;exact PyProof.noPylong_small (by decide))|((with_reducible refine gM ?_ ?_);(first|exact IntMulOk.of_right (intBits_le_64 (by omega) (by omega))|exact IntMulOk.of_left (intBits_le_64 (by omega) (by omega))))|((with_reducible refine kF ?_ ?_ ?_);exact rfl;exact fun _ => rfl)|((with_reducible refine gW ?_ ?_);exact fun _ => rfl)|with_reducible refine pO ?_))
  refine (assign_spec Cl Ma hT1 hw hn hod hlit fun σ' hT2 hF2 => ?_).call
  repeat (first|with_reducible refine kW ?_|(first|with_reducible (first|refine pB ?_|refine pF ?_|refine pA ?_|refine kX ?_|refine kY ?_|refine gH ?_|refine gG ?_|refine kD ?_|refine gY ?_|refine kJ ?_|refine gX ?_|refine kL ?_|refine kE ?_|refine kK ?_|refine kC ?_|refine kI ?_|refine kO ?_|refine kP ?_|refine kN ?_|refine pJ ?_|refine pG ?_|refine gB ?_|refine gA ?_|refine pM ?_|refine gJ ?_|refine gN ?_|refine gU ?_|refine gQ ?_|refine gO ?_|refine gV ?_|refine pN ?_)|((with_reducible refine And.intro ?_ ?_);(first|(rw [sizeLine_eq];exact of_decide_eq_true rfl)|omega))|((with_reducible first|refine kZ ?_ ?_|refine kQ ?_ ?_|refine kS ?_ ?_|refine kB ?_ ?_|refine kM ?_ ?_|refine pH ?_ ?_|refine pK ?_ ?_);exact rfl)|((with_reducible first|refine kR ?_ ?_ ?_|refine kT ?_ ?_ ?_|apply kG);exact rfl;exact rfl)|((with_reducible apply gZ);assumption;exact rfl;decide +kernel;exact rfl)|((with_reducible apply kA);assumption;exact rfl;decide +kernel;exact rfl;(first|exact .type _|exact .builtin _);exact rfl)|((with_reducible refine gL ?_ ?_);decide)|((with_reducible refine gK ?_ ?_ ?_);decide;exact PyProof.noPylong_small (by decide))|((with_reducible refine gM ?_ ?_);(first|exact IntMulOk.of_right (intBits_le_64 (by omega) (by omega))|exact IntMulOk.of_left (intBits_le_64 (by omega) (by omega))))|((with_reducible refine kF ?_ ?_ ?_);exact rfl;exact fun _ => rfl)|((with_reducible refine gW ?_ ?_);exact fun _ => rfl)|with_reducible refine pO ?_))
  exact h _ hT2 ((Fx.setK p).trans hF2)


theorem undo_spec {W : Wd} {K : Frag} {C f : Addr} (Cl : ClsIs W K C ["n", "worths", "order", "marks"]) (M : MethIs W K C "undo_last_decision" f ["self"] (methBody pw 6 4) (methScope pw 6 4)) (habs : W.mg "abs" = none) {lv : Nat} {n : Nat} {p : TrP} {ws od mk : List Int} {j : Nat} {σ : AH} {Q : AV → AH → Prop}
    (hT : TrAt C p n ws od (mk ++ [(j : Int)]) σ) (hw : ws.length = n + 1) (hn : n ≤ 1000) (hod : od.length ≤ 100000) (hmk : mk.length ≤ 100000) (hj : j < od.length) (hlit : ∀ l ∈ od, inR n l)
    (h : ∀ σ', TrAt C p n (wipe ws (od.drop j)) (od.take j) mk σ' → Fx p.S σ σ' → Q (.int od[j]) σ') :
    TCode W (lv + 1) (.stat (.ref f)) [.ref p.t] Q σ := by
  refine code_fn M.fn rfl ?_
  refine kW ?_
  repeat (first|with_reducible refine kW ?_|(first|with_reducible (first|refine pB ?_|refine pF ?_|refine pA ?_|refine kX ?_|refine kY ?_|refine gH ?_|refine gG ?_|refine kD ?_|refine gY ?_|refine kJ ?_|refine gX ?_|refine kL ?_|refine kE ?_|refine kK ?_|refine kC ?_|refine kI ?_|refine kO ?_|refine kP ?_|refine kN ?_|refine pJ ?_|refine pG ?_|refine gB ?_|refine gA ?_|refine pM ?_|refine gJ ?_|refine gN ?_|refine gU ?_|refine gQ ?_|refine gO ?_|refine gV ?_|refine pN ?_)|((with_reducible refine And.intro ?_ ?_);(first|(rw [sizeLine_eq];exact of_decide_eq_true rfl)|omega))|((with_reducible first|refine kZ ?_ ?_|refine kQ ?_ ?_|refine kS ?_ ?_|refine kB ?_ ?_|refine kM ?_ ?_|refine pH ?_ ?_|refine pK ?_ ?_);exact rfl)|((with_reducible first|refine kR ?_ ?_ ?_|refine kT ?_ ?_ ?_|apply kG);exact rfl;exact rfl)|((with_reducible apply gZ);assumption;exact rfl;decide +kernel;exact rfl)|((with_reducible apply kA);assumption;exact rfl;decide +kernel;exact rfl;(first|exact .type _|exact .builtin _);exact rfl)|((with_reducible refine gL ?_ ?_);decide)|((with_reducible refine gK ?_ ?_ ?_);decide;exact PyProof.noPylong_small (by decide))|((with_reducible refine gM ?_ ?_);(first|exact IntMulOk.of_right (intBits_le_64 (by omega) (by omega))|exact IntMulOk.of_left (intBits_le_64 (by omega) (by omega))))|((with_reducible refine kF ?_ ?_ ?_);exact rfl;exact fun _ => rfl)|((with_reducible refine gW ?_ ?_);exact fun _ => rfl)|with_reducible refine pO ?_))
  refine Cl.get hT.t hT.d rfl rfl rfl ?_
  repeat (first|with_reducible refine kW ?_|(first|with_reducible (first|refine pB ?_|refine pF ?_|refine pA ?_|refine kX ?_|refine kY ?_|refine gH ?_|refine gG ?_|refine kD ?_|refine gY ?_|refine kJ ?_|refine gX ?_|refine kL ?_|refine kE ?_|refine kK ?_|refine kC ?_|refine kI ?_|refine kO ?_|refine kP ?_|refine kN ?_|refine pJ ?_|refine pG ?_|refine gB ?_|refine gA ?_|refine pM ?_|refine gJ ?_|refine gN ?_|refine gU ?_|refine gQ ?_|refine gO ?_|refine gV ?_|refine pN ?_)|((with_reducible refine And.intro ?_ ?_);(first|(rw [sizeLine_eq];exact of_decide_eq_true rfl)|omega))|((with_reducible first|refine kZ ?_ ?_|refine kQ ?_ ?_|refine kS ?_ ?_|refine kB ?_ ?_|refine kM ?_ ?_|refine pH ?_ ?_|refine pK ?_ ?_);exact rfl)|((with_reducible first|refine kR ?_ ?_ ?_|refine kT ?_ ?_ ?_|apply kG);exact rfl;exact rfl)|((with_reducible apply gZ);assumption;exact rfl;decide +kernel;exact rfl)|((with_reducible apply kA);assumption;exact rfl;decide +kernel;exact rfl;(first|exact .type _|exact .builtin _);exact rfl)|((with_reducible refine gL ?_ ?_);decide)|((with_reducible refine gK ?_ ?_ ?_);decide;exact PyProof.noPylong_small (by decide))|((with_reducible refine gM ?_ ?_);(first|exact IntMulOk.of_right (intBits_le_64 (by omega) (by omega))|exact IntMulOk.of_left (intBits_le_64 (by omega) (by omega))))|((with_reducible refine kF ?_ ?_ ?_);exact rfl;exact fun _ => rfl)|((with_reducible refine gW ?_ ?_);exact fun _ => rfl)|with_reducible refine pO ?_))
  refine tidx_list rfl hT.k (j := mk.length) (x := .int j) (by unfold pyIdx; rw [if_neg (by decide), if_pos (by simp; (first|lia|omega))]; simp; (first|lia|omega)) (by simp) (by decide) ?_
  repeat (first|with_reducible refine kW ?_|(first|with_reducible (first|refine pB ?_|refine pF ?_|refine pA ?_|refine kX ?_|refine kY ?_|refine gH ?_|refine gG ?_|refine kD ?_|refine gY ?_|refine kJ ?_|refine gX ?_|refine kL ?_|refine kE ?_|refine kK ?_|refine kC ?_|refine kI ?_|refine kO ?_|refine kP ?_|refine kN ?_|refine pJ ?_|refine pG ?_|refine gB ?_|refine gA ?_|refine pM ?_|refine gJ ?_|refine gN ?_|refine gU ?_|refine gQ ?_|refine gO ?_|refine gV ?_|refine pN ?_)|((with_reducible refine And.intro ?_ ?_);(first|(rw [sizeLine_eq];exact of_decide_eq_true rfl)|omega))|((with_reducible first|refine kZ ?_ ?_|refine kQ ?_ ?_|refine kS ?_ ?_|refine kB ?_ ?_|refine kM ?_ ?_|refine pH ?_ ?_|refine pK ?_ ?_);exact rfl)|((with_reducible first|refine kR ?_ ?_ ?_|refine kT ?_ ?_ ?_|apply kG);exact rfl;exact rfl)|((with_reducible apply gZ);assumption;exact rfl;decide +kernel;exact rfl)|((with_reducible apply kA);assumption;exact rfl;decide +kernel;exact rfl;(first|exact .type _|exact .builtin _);exact rfl)|((with_reducible refine gL ?_ ?_);decide)|((with_reducible refine gK ?_ ?_ ?_);decide;exact PyProof.noPylong_small (by decide))|((with_reducible refine gM ?_ ?_);(first|exact IntMulOk.of_right (intBits_le_64 (by omega) (by omega))|exact IntMulOk.of_left (intBits_le_64 (by omega) (by omega))))|((with_reducible refine kF ?_ ?_ ?_);exact rfl;exact fun _ => rfl)|((with_reducible refine gW ?_ ?_);exact fun _ => rfl)|with_reducible refine pO ?_))
  refine Cl.get hT.t hT.d rfl rfl rfl ?_
  repeat (first|with_reducible refine kW ?_|(first|with_reducible (first|refine pB ?_|refine pF ?_|refine pA ?_|refine kX ?_|refine kY ?_|refine gH ?_|refine gG ?_|refine kD ?_|refine gY ?_|refine kJ ?_|refine gX ?_|refine kL ?_|refine kE ?_|refine kK ?_|refine kC ?_|refine kI ?_|refine kO ?_|refine kP ?_|refine kN ?_|refine pJ ?_|refine pG ?_|refine gB ?_|refine gA ?_|refine pM ?_|refine gJ ?_|refine gN ?_|refine gU ?_|refine gQ ?_|refine gO ?_|refine gV ?_|refine pN ?_)|((with_reducible refine And.intro ?_ ?_);(first|(rw [sizeLine_eq];exact of_decide_eq_true rfl)|omega))|((with_reducible first|refine kZ ?_ ?_|refine kQ ?_ ?_|refine kS ?_ ?_|refine kB ?_ ?_|refine kM ?_ ?_|refine pH ?_ ?_|refine pK ?_ ?_);exact rfl)|((with_reducible first|refine kR ?_ ?_ ?_|refine kT ?_ ?_ ?_|apply kG);exact rfl;exact rfl)|((with_reducible apply gZ);assumption;exact rfl;decide +kernel;exact rfl)|((with_reducible apply kA);assumption;exact rfl;decide +kernel;exact rfl;(first|exact .type _|exact .builtin _);exact rfl)|((with_reducible refine gL ?_ ?_);decide)|((with_reducible refine gK ?_ ?_ ?_);decide;exact PyProof.noPylong_small (by decide))|((with_reducible refine gM ?_ ?_);(first|exact IntMulOk.of_right (intBits_le_64 (by omega) (by omega))|exact IntMulOk.of_left (intBits_le_64 (by omega) (by omega))))|((with_reducible refine kF ?_ ?_ ?_);exact rfl;exact fun _ => rfl)|((with_reducible refine gW ?_ ?_);exact fun _ => rfl)|with_reducible refine pO ?_))
  refine tidx_nums rfl hT.o (j := j) rfl hj (by (first|lia|omega)) ?_
  repeat (first|with_reducible refine kW ?_|(first|with_reducible (first|refine pB ?_|refine pF ?_|refine pA ?_|refine kX ?_|refine kY ?_|refine gH ?_|refine gG ?_|refine kD ?_|refine gY ?_|refine kJ ?_|refine gX ?_|refine kL ?_|refine kE ?_|refine kK ?_|refine kC ?_|refine kI ?_|refine kO ?_|refine kP ?_|refine kN ?_|refine pJ ?_|refine pG ?_|refine gB ?_|refine gA ?_|refine pM ?_|refine gJ ?_|refine gN ?_|refine gU ?_|refine gQ ?_|refine gO ?_|refine gV ?_|refine pN ?_)|((with_reducible refine And.intro ?_ ?_);(first|(rw [sizeLine_eq];exact of_decide_eq_true rfl)|omega))|((with_reducible first|refine kZ ?_ ?_|refine kQ ?_ ?_|refine kS ?_ ?_|refine kB ?_ ?_|refine kM ?_ ?_|refine pH ?_ ?_|refine pK ?_ ?_);exact rfl)|((with_reducible first|refine kR ?_ ?_ ?_|refine kT ?_ ?_ ?_|apply kG);exact rfl;exact rfl)|((with_reducible apply gZ);assumption;exact rfl;decide +kernel;exact rfl)|((with_reducible apply kA);assumption;exact rfl;decide +kernel;exact rfl;(first|exact .type _|exact .builtin _);exact rfl)|((with_reducible refine gL ?_ ?_);decide)|((with_reducible refine gK ?_ ?_ ?_);decide;exact PyProof.noPylong_small (by decide))|((with_reducible refine gM ?_ ?_);(first|exact IntMulOk.of_right (intBits_le_64 (by omega) (by omega))|exact IntMulOk.of_left (intBits_le_64 (by omega) (by omega))))|((with_reducible refine kF ?_ ?_ ?_);exact rfl;exact fun _ => rfl)|((with_reducible refine gW ?_ ?_);exact fun _ => rfl)|with_reducible refine pO ?_))
  refine ts_for_list rfl rfl ?_
  repeat (first|with_reducible refine kW ?_|(first|with_reducible (first|refine pB ?_|refine pF ?_|refine pA ?_|refine kX ?_|refine kY ?_|refine gH ?_|refine gG ?_|refine kD ?_|refine gY ?_|refine kJ ?_|refine gX ?_|refine kL ?_|refine kE ?_|refine kK ?_|refine kC ?_|refine kI ?_|refine kO ?_|refine kP ?_|refine kN ?_|refine pJ ?_|refine pG ?_|refine gB ?_|refine gA ?_|refine pM ?_|refine gJ ?_|refine gN ?_|refine gU ?_|refine gQ ?_|refine gO ?_|refine gV ?_|refine pN ?_)|((with_reducible refine And.intro ?_ ?_);(first|(rw [sizeLine_eq];exact of_decide_eq_true rfl)|omega))|((with_reducible first|refine kZ ?_ ?_|refine kQ ?_ ?_|refine kS ?_ ?_|refine kB ?_ ?_|refine kM ?_ ?_|refine pH ?_ ?_|refine pK ?_ ?_);exact rfl)|((with_reducible first|refine kR ?_ ?_ ?_|refine kT ?_ ?_ ?_|apply kG);exact rfl;exact rfl)|((with_reducible apply gZ);assumption;exact rfl;decide +kernel;exact rfl)|((with_reducible apply kA);assumption;exact rfl;decide +kernel;exact rfl;(first|exact .type _|exact .builtin _);exact rfl)|((with_reducible refine gL ?_ ?_);decide)|((with_reducible refine gK ?_ ?_ ?_);decide;exact PyProof.noPylong_small (by decide))|((with_reducible refine gM ?_ ?_);(first|exact IntMulOk.of_right (intBits_le_64 (by omega) (by omega))|exact IntMulOk.of_left (intBits_le_64 (by omega) (by omega))))|((with_reducible refine kF ?_ ?_ ?_);exact rfl;exact fun _ => rfl)|((with_reducible refine gW ?_ ?_);exact fun _ => rfl)|with_reducible refine pO ?_))
  refine Cl.get hT.t hT.d rfl rfl rfl ?_
  repeat (first|with_reducible refine kW ?_|(first|with_reducible (first|refine pB ?_|refine pF ?_|refine pA ?_|refine kX ?_|refine kY ?_|refine gH ?_|refine gG ?_|refine kD ?_|refine gY ?_|refine kJ ?_|refine gX ?_|refine kL ?_|refine kE ?_|refine kK ?_|refine kC ?_|refine kI ?_|refine kO ?_|refine kP ?_|refine kN ?_|refine pJ ?_|refine pG ?_|refine gB ?_|refine gA ?_|refine pM ?_|refine gJ ?_|refine gN ?_|refine gU ?_|refine gQ ?_|refine gO ?_|refine gV ?_|refine pN ?_)|((with_reducible refine And.intro ?_ ?_);(first|(rw [sizeLine_eq];exact of_decide_eq_true rfl)|omega))|((with_reducible first|refine kZ ?_ ?_|refine kQ ?_ ?_|refine kS ?_ ?_|refine kB ?_ ?_|refine kM ?_ ?_|refine pH ?_ ?_|refine pK ?_ ?_);exact rfl)|((with_reducible first|refine kR ?_ ?_ ?_|refine kT ?_ ?_ ?_|apply kG);exact rfl;exact rfl)|((with_reducible apply gZ);assumption;exact rfl;decide +kernel;exact rfl)|((with_reducible apply kA);assumption;exact rfl;decide +kernel;exact rfl;(first|exact .type _|exact .builtin _);exact rfl)|((with_reducible refine gL ?_ ?_);decide)|((with_reducible refine gK ?_ ?_ ?_);decide;exact PyProof.noPylong_small (by decide))|((with_reducible refine gM ?_ ?_);(first|exact IntMulOk.of_right (intBits_le_64 (by omega) (by omega))|exact IntMulOk.of_left (intBits_le_64 (by omega) (by omega))))|((with_reducible refine kF ?_ ?_ ?_);exact rfl;exact fun _ => rfl)|((with_reducible refine gW ?_ ?_);exact fun _ => rfl)|with_reducible refine pO ?_))
  refine tidx_slice (Sub.snoc _ _ _ _ hT.o) (get_snoc _ _) (by simp) (by rw [sizeLine_eq]; simp; (first|lia|omega)) ?_
  rw [pickL_from]
  generalize hσ1 : σ ++ [AO.slice (some (j : Int)) none none] = σ₁
  have hT1 : TrAt C p n ws od (mk ++ [(j : Int)]) (σ₁ ++ [.list ((od.map AV.int).drop j)]) := hT.sub (by rw [← hσ1]; (repeat (first | exact Sub.refl _ | assumption | refine Sub.trans ?_ (Sub.snoc _ _))))
  have hF1 : Fx p.S σ (σ₁ ++ [.list ((od.map AV.int).drop j)]) := Fx.of (by rw [← hσ1]; (repeat (first | exact Sub.refl _ | assumption | refine Sub.trans ?_ (Sub.snoc _ _))))
  have hl1 : σ.length < σ₁.length := by rw [← hσ1]; simp
  have nS : σ₁.length ∉ p.S := by
    have a1 := lt_of_get hT.w
    have a2 := lt_of_get hT.o
    have a3 := lt_of_get hT.k
    simp only [List.mem_cons, List.not_mem_nil, or_false, not_or]; (first|lia|omega)
  clear hσ1
  refine ⟨_, _, fun i m' σ' => LE [("self", .ref p.t), ("mark", .int j), ("choice", .int od[j])] m' ∧ TrAt C p n (wipe ws ((od.drop j).take i)) od (mk ++ [(j : Int)]) σ' ∧ Fx p.S σ σ' ∧ σ'[σ₁.length]? = some (.list ((od.map AV.int).drop j)), rfl, ⟨by (repeat (first | exact LE.nil | refine LE.cons (by exact rfl) ?_)), hT1, hF1, get_snoc _ _⟩, fun i m' σ' _ j => j.2.2.2, ?_, ?_⟩
  · rintro i x m' σ' hx ⟨le, hT2, hF2, hg⟩
    rw [← List.map_drop, List.getElem?_map] at hx
    obtain ⟨lit, hx', rfl⟩ := Option.map_eq_some_iff.mp hx
    have hin : inR n lit := hlit lit (List.mem_of_mem_drop (List.mem_of_getElem? hx'))
    unfold inR at hin
    refine TA.forget le (ta_name rfl ?_)
    repeat (first|with_reducible refine kW ?_|(first|with_reducible (first|refine pB ?_|refine pF ?_|refine pA ?_|refine kX ?_|refine kY ?_|refine gH ?_|refine gG ?_|refine kD ?_|refine gY ?_|refine kJ ?_|refine gX ?_|refine kL ?_|refine kE ?_|refine kK ?_|refine kC ?_|refine kI ?_|refine kO ?_|refine kP ?_|refine kN ?_|refine pJ ?_|refine pG ?_|refine gB ?_|refine gA ?_|refine pM ?_|refine gJ ?_|refine gN ?_|refine gU ?_|refine gQ ?_|refine gO ?_|refine gV ?_|refine pN ?_)|((with_reducible refine And.intro ?_ ?_);(first|(rw [sizeLine_eq];exact of_decide_eq_true rfl)|omega))|((with_reducible first|refine kZ ?_ ?_|refine kQ ?_ ?_|refine kS ?_ ?_|refine kB ?_ ?_|refine kM ?_ ?_|refine pH ?_ ?_|refine pK ?_ ?_);exact rfl)|((with_reducible first|refine kR ?_ ?_ ?_|refine kT ?_ ?_ ?_|apply kG);exact rfl;exact rfl)|((with_reducible apply gZ);assumption;exact rfl;decide +kernel;exact rfl)|((with_reducible apply kA);assumption;exact rfl;decide +kernel;exact rfl;(first|exact .type _|exact .builtin _);exact rfl)|((with_reducible refine gL ?_ ?_);decide)|((with_reducible refine gK ?_ ?_ ?_);decide;exact PyProof.noPylong_small (by decide))|((with_reducible refine gM ?_ ?_);(first|exact IntMulOk.of_right (intBits_le_64 (by omega) (by omega))|exact IntMulOk.of_left (intBits_le_64 (by omega) (by omega))))|((with_reducible refine kF ?_ ?_ ?_);exact rfl;exact fun _ => rfl)|((with_reducible refine gW ?_ ?_);exact fun _ => rfl)|with_reducible refine pO ?_))
    refine Cl.get hT2.t hT2.d rfl rfl rfl ?_
    repeat (first|with_reducible refine kW ?_|(first|with_reducible (first|refine pB ?_|refine pF ?_|refine pA ?_|refine kX ?_|refine kY ?_|refine gH ?_|refine gG ?_|refine kD ?_|refine gY ?_|refine kJ ?_|refine gX ?_|refine kL ?_|refine kE ?_|refine kK ?_|refine kC ?_|refine kI ?_|refine kO ?_|refine kP ?_|refine kN ?_|refine pJ ?_|refine pG ?_|refine gB ?_|refine gA ?_|refine pM ?_|refine gJ ?_|refine gN ?_|refine gU ?_|refine gQ ?_|refine gO ?_|refine gV ?_|refine pN ?_)|((with_reducible refine And.intro ?_ ?_);(first|(rw [sizeLine_eq];exact of_decide_eq_true rfl)|omega))|((with_reducible first|refine kZ ?_ ?_|refine kQ ?_ ?_|refine kS ?_ ?_|refine kB ?_ ?_|refine kM ?_ ?_|refine pH ?_ ?_|refine pK ?_ ?_);exact rfl)|((with_reducible first|refine kR ?_ ?_ ?_|refine kT ?_ ?_ ?_|apply kG);exact rfl;exact rfl)|((with_reducible apply gZ);assumption;exact rfl;decide +kernel;exact rfl)|((with_reducible apply kA);assumption;exact rfl;decide +kernel;exact rfl;(first|exact .type _|exact .builtin _);exact rfl)|((with_reducible refine gL ?_ ?_);decide)|((with_reducible refine gK ?_ ?_ ?_);decide;exact PyProof.noPylong_small (by decide))|((with_reducible refine gM ?_ ?_);(first|exact IntMulOk.of_right (intBits_le_64 (by omega) (by omega))|exact IntMulOk.of_left (intBits_le_64 (by omega) (by omega))))|((with_reducible refine kF ?_ ?_ ?_);exact rfl;exact fun _ => rfl)|((with_reducible refine gW ?_ ?_);exact fun _ => rfl)|with_reducible refine pO ?_))
    refine tcall_abs ?_
    have wl := wipe_len ((od.drop j).take i) ws
    refine tset_list hT2.w (pyIdx_nat (j := (if lit < 0 then -lit else lit).toNat) (by split <;> (first|lia|omega)) (by simp; split <;> (first|lia|omega))) (by split <;> (first|lia|omega)) ?_
    repeat (first|with_reducible refine kW ?_|(first|with_reducible (first|refine pB ?_|refine pF ?_|refine pA ?_|refine kX ?_|refine kY ?_|refine gH ?_|refine gG ?_|refine kD ?_|refine gY ?_|refine kJ ?_|refine gX ?_|refine kL ?_|refine kE ?_|refine kK ?_|refine kC ?_|refine kI ?_|refine kO ?_|refine kP ?_|refine kN ?_|refine pJ ?_|refine pG ?_|refine gB ?_|refine gA ?_|refine pM ?_|refine gJ ?_|refine gN ?_|refine gU ?_|refine gQ ?_|refine gO ?_|refine gV ?_|refine pN ?_)|((with_reducible refine And.intro ?_ ?_);(first|(rw [sizeLine_eq];exact of_decide_eq_true rfl)|omega))|((with_reducible first|refine kZ ?_ ?_|refine kQ ?_ ?_|refine kS ?_ ?_|refine kB ?_ ?_|refine kM ?_ ?_|refine pH ?_ ?_|refine pK ?_ ?_);exact rfl)|((with_reducible first|refine kR ?_ ?_ ?_|refine kT ?_ ?_ ?_|apply kG);exact rfl;exact rfl)|((with_reducible apply gZ);assumption;exact rfl;decide +kernel;exact rfl)|((with_reducible apply kA);assumption;exact rfl;decide +kernel;exact rfl;(first|exact .type _|exact .builtin _);exact rfl)|((with_reducible refine gL ?_ ?_);decide)|((with_reducible refine gK ?_ ?_ ?_);decide;exact PyProof.noPylong_small (by decide))|((with_reducible refine gM ?_ ?_);(first|exact IntMulOk.of_right (intBits_le_64 (by omega) (by omega))|exact IntMulOk.of_left (intBits_le_64 (by omega) (by omega))))|((with_reducible refine kF ?_ ?_ ?_);exact rfl;exact fun _ => rfl)|((with_reducible refine gW ?_ ?_);exact fun _ => rfl)|with_reducible refine pO ?_))
    refine ⟨by (repeat (first | exact LE.nil | refine LE.cons (by exact rfl) ?_)), ?_, hF2.trans (Fx.setW p), by rw [List.getElem?_set_ne (fun e => nS (by rw [← e]; simp))]; exact hg⟩
    rw [← List.map_set, List.take_add_one, hx']
    have e : wipe ws ((od.drop j).take i ++ [lit]) = (wipe ws ((od.drop j).take i)).set (if lit < 0 then -lit else lit).toNat 0 := by
      unfold wipe; rw [List.foldl_append]; rfl
    rw [show (some lit).toList = [lit] from rfl, e]
    exact hT2.setW
  · rintro m' σ' ⟨le, hT2, hF2, -⟩
    refine TX.forget le ?_
    rw [List.length_drop, List.length_map, ← List.length_drop, List.take_length] at hT2
    repeat (first|with_reducible refine kW ?_|(first|with_reducible (first|refine pB ?_|refine pF ?_|refine pA ?_|refine kX ?_|refine kY ?_|refine gH ?_|refine gG ?_|refine kD ?_|refine gY ?_|refine kJ ?_|refine gX ?_|refine kL ?_|refine kE ?_|refine kK ?_|refine kC ?_|refine kI ?_|refine kO ?_|refine kP ?_|refine kN ?_|refine pJ ?_|refine pG ?_|refine gB ?_|refine gA ?_|refine pM ?_|refine gJ ?_|refine gN ?_|refine gU ?_|refine gQ ?_|refine gO ?_|refine gV ?_|refine pN ?_)|((with_reducible refine And.intro ?_ ?_);(first|(rw [sizeLine_eq];exact of_decide_eq_true rfl)|omega))|((with_reducible first|refine kZ ?_ ?_|refine kQ ?_ ?_|refine kS ?_ ?_|refine kB ?_ ?_|refine kM ?_ ?_|refine pH ?_ ?_|refine pK ?_ ?_);exact rfl)|((with_reducible first|refine kR ?_ ?_ ?_|refine kT ?_ ?_ ?_|apply kG);exact rfl;exact rfl)|((with_reducible apply gZ);assumption;exact rfl;decide +kernel;exact rfl)|((with_reducible apply kA);assumption;exact rfl;decide +kernel;exact rfl;(first|exact .type _|exact .builtin _);exact rfl)|((with_reducible refine gL ?_ ?_);decide)|((with_reducible refine gK ?_ ?_ ?_);decide;exact PyProof.noPylong_small (by decide))|((with_reducible refine gM ?_ ?_);(first|exact IntMulOk.of_right (intBits_le_64 (by omega) (by omega))|exact IntMulOk.of_left (intBits_le_64 (by omega) (by omega))))|((with_reducible refine kF ?_ ?_ ?_);exact rfl;exact fun _ => rfl)|((with_reducible refine gW ?_ ?_);exact fun _ => rfl)|with_reducible refine pO ?_))
    refine Cl.get hT2.t hT2.d rfl rfl rfl ?_
    repeat (first|with_reducible refine kW ?_|(first|with_reducible (first|refine pB ?_|refine pF ?_|refine pA ?_|refine kX ?_|refine kY ?_|refine gH ?_|refine gG ?_|refine kD ?_|refine gY ?_|refine kJ ?_|refine gX ?_|refine kL ?_|refine kE ?_|refine kK ?_|refine kC ?_|refine kI ?_|refine kO ?_|refine kP ?_|refine kN ?_|refine pJ ?_|refine pG ?_|refine gB ?_|refine gA ?_|refine pM ?_|refine gJ ?_|refine gN ?_|refine gU ?_|refine gQ ?_|refine gO ?_|refine gV ?_|refine pN ?_)|((with_reducible refine And.intro ?_ ?_);(first|(rw [sizeLine_eq];exact of_decide_eq_true rfl)|omega))|((with_reducible first|refine kZ ?_ ?_|refine kQ ?_ ?_|refine kS ?_ ?_|refine kB ?_ ?_|refine kM ?_ ?_|refine pH ?_ ?_|refine pK ?_ ?_);exact rfl)|((with_reducible first|refine kR ?_ ?_ ?_|refine kT ?_ ?_ ?_|apply kG);exact rfl;exact rfl)|((with_reducible apply gZ);assumption;exact rfl;decide +kernel;exact rfl)|((with_reducible apply kA);assumption;exact rfl;decide +kernel;exact rfl;(first|exact .type _|exact .builtin _);exact rfl)|((with_reducible refine gL ?_ ?_);decide)|((with_reducible refine gK ?_ ?_ ?_);decide;exact PyProof.noPylong_small (by decide))|((with_reducible refine gM ?_ ?_);(first|exact IntMulOk.of_right (intBits_le_64 (by omega) (by omega))|exact IntMulOk.of_left (intBits_le_64 (by omega) (by omega))))|((with_reducible refine kF ?_ ?_ ?_);exact rfl;exact fun _ => rfl)|((with_reducible refine gW ?_ ?_);exact fun _ => rfl)|with_reducible refine pO ?_))
    refine tdel_slice (Sub.snoc _ _ _ _ hT2.o) (get_snoc _ _) (by rw [sizeLine_eq]; simp; (first|lia|omega)) ?_
    rw [cutEnd _ _ (by simp; (first|lia|omega)), ← List.map_take]
    have hT3 := (hT2.sub (Sub.snoc σ' [AO.slice (some (j : Int)) none none])).setO (od' := od.take j)
    have hF3 := (hF2.trans (Fx.of (Sub.snoc σ' [AO.slice (some (j : Int)) none none]))).trans (Fx.setO p (o := .list ((od.take j).map .int)))
    generalize (List.set (σ' ++ [AO.slice (some (j : Int)) none none]) p.o (.list ((od.take j).map .int))) = σ₃ at hT3 hF3 ⊢
    repeat (first|with_reducible refine kW ?_|(first|with_reducible (first|refine pB ?_|refine pF ?_|refine pA ?_|refine kX ?_|refine kY ?_|refine gH ?_|refine gG ?_|refine kD ?_|refine gY ?_|refine kJ ?_|refine gX ?_|refine kL ?_|refine kE ?_|refine kK ?_|refine kC ?_|refine kI ?_|refine kO ?_|refine kP ?_|refine kN ?_|refine pJ ?_|refine pG ?_|refine gB ?_|refine gA ?_|refine pM ?_|refine gJ ?_|refine gN ?_|refine gU ?_|refine gQ ?_|refine gO ?_|refine gV ?_|refine pN ?_)|((with_reducible refine And.intro ?_ ?_);(first|(rw [sizeLine_eq];exact of_decide_eq_true rfl)|omega))|((with_reducible first|refine kZ ?_ ?_|refine kQ ?_ ?_|refine kS ?_ ?_|refine kB ?_ ?_|refine kM ?_ ?_|refine pH ?_ ?_|refine pK ?_ ?_);exact rfl)|((with_reducible first|refine kR ?_ ?_ ?_|refine kT ?_ ?_ ?_|apply kG);exact rfl;exact rfl)|((with_reducible apply gZ);assumption;exact rfl;decide +kernel;exact rfl)|((with_reducible apply kA);assumption;exact rfl;decide +kernel;exact rfl;(first|exact .type _|exact .builtin _);exact rfl)|((with_reducible refine gL ?_ ?_);decide)|((with_reducible refine gK ?_ ?_ ?_);decide;exact PyProof.noPylong_small (by decide))|((with_reducible refine gM ?_ ?_);(first|exact IntMulOk.of_right (intBits_le_64 (by omega) (by omega))|exact IntMulOk.of_left (intBits_le_64 (by omega) (by omega))))|((with_reducible refine kF ?_ ?_ ?_);exact rfl;exact fun _ => rfl)|((with_reducible refine gW ?_ ?_);exact fun _ => rfl)|with_reducible refine pO ?_))
    refine Cl.get hT3.t hT3.d rfl rfl rfl ?_
    repeat (first|with_reducible refine kW ?_|(first|with_reducible (first|refine pB ?_|refine pF ?_|refine pA ?_|refine kX ?_|refine kY ?_|refine gH ?_|refine gG ?_|refine kD ?_|refine gY ?_|refine kJ ?_|refine gX ?_|refine kL ?_|refine kE ?_|refine kK ?_|refine kC ?_|refine kI ?_|refine kO ?_|refine kP ?_|refine kN ?_|refine pJ ?_|refine pG ?_|refine gB ?_|refine gA ?_|refine pM ?_|refine gJ ?_|refine gN ?_|refine gU ?_|refine gQ ?_|refine gO ?_|refine gV ?_|refine pN ?_)|((with_reducible refine And.intro ?_ ?_);(first|(rw [sizeLine_eq];exact of_decide_eq_true rfl)|omega))|((with_reducible first|refine kZ ?_ ?_|refine kQ ?_ ?_|refine kS ?_ ?_|refine kB ?_ ?_|refine kM ?_ ?_|refine pH ?_ ?_|refine pK ?_ ?_);exact rfl)|((with_reducible first|refine kR ?_ ?_ ?_|refine kT ?_ ?_ ?_|apply kG);exact rfl;exact rfl)|((with_reducible apply gZ);assumption;exact rfl;decide +kernel;exact rfl)|((with_reducible apply kA);assumption;exact rfl;decide +kernel;exact rfl;(first|exact .type _|exact .builtin _);exact rfl)|((with_reducible refine gL ?_ ?_);decide)|((with_reducible refine gK ?_ ?_ ?_);decide;exact PyProof.noPylong_small (by decide))|((with_reducible refine gM ?_ ?_);(first|exact IntMulOk.of_right (intBits_le_64 (by omega) (by omega))|exact IntMulOk.of_left (intBits_le_64 (by omega) (by omega))))|((with_reducible refine kF ?_ ?_ ?_);exact rfl;exact fun _ => rfl)|((with_reducible refine gW ?_ ?_);exact fun _ => rfl)|with_reducible refine pO ?_))
    refine tdel_slice (Sub.snoc _ _ _ _ hT3.k) (get_snoc _ _) (by rw [sizeLine_eq]; simp; (first|lia|omega)) ?_
    rw [show (-1 : Int) = -((1 : Nat) : Int) from rfl, cutLast _ _ (Nat.le_refl _) (by simp)]
    have e : ((mk ++ [(j : Int)]).map AV.int).take (((mk ++ [(j : Int)]).map AV.int).length - 1) = mk.map AV.int := by
      rw [List.map_append, List.length_append, List.length_map]
      exact List.take_left' (by simp)
    rw [e]
    repeat (first|with_reducible refine kW ?_|(first|with_reducible (first|refine pB ?_|refine pF ?_|refine pA ?_|refine kX ?_|refine kY ?_|refine gH ?_|refine gG ?_|refine kD ?_|refine gY ?_|refine kJ ?_|refine gX ?_|refine kL ?_|refine kE ?_|refine kK ?_|refine kC ?_|refine kI ?_|refine kO ?_|refine kP ?_|refine kN ?_|refine pJ ?_|refine pG ?_|refine gB ?_|refine gA ?_|refine pM ?_|refine gJ ?_|refine gN ?_|refine gU ?_|refine gQ ?_|refine gO ?_|refine gV ?_|refine pN ?_)|((with_reducible refine And.intro ?_ ?_);(first|(rw [sizeLine_eq];exact of_decide_eq_true rfl)|omega))|((with_reducible first|refine kZ ?_ ?_|refine kQ ?_ ?_|refine kS ?_ ?_|refine kB ?_ ?_|refine kM ?_ ?_|refine pH ?_ ?_|refine pK ?_ ?_);exact rfl)|((with_reducible first|refine kR ?_ ?_ ?_|refine kT ?_ ?_ ?_|apply kG);exact rfl;exact rfl)|((with_reducible apply gZ);assumption;exact rfl;decide +kernel;exact rfl)|((with_reducible apply kA);assumption;exact rfl;decide +kernel;exact rfl;(first|exact .type _|exact .builtin _);exact rfl)|((with_reducible refine gL ?_ ?_);decide)|((with_reducible refine gK ?_ ?_ ?_);decide;exact PyProof.noPylong_small (by decide))|((with_reducible refine gM ?_ ?_);(first|exact IntMulOk.of_right (intBits_le_64 (by omega) (by omega))|exact IntMulOk.of_left (intBits_le_64 (by omega) (by omega))))|((with_reducible refine kF ?_ ?_ ?_);exact rfl;exact fun _ => rfl)|((with_reducible refine gW ?_ ?_);exact fun _ => rfl)|with_reducible refine pO ?_))
    exact h _ ((hT3.sub (Sub.snoc _ _)).setK) ((hF3.trans (Fx.of (Sub.snoc _ _))).trans (Fx.setK p))


theorem decisions_spec {W : Wd} {K : Frag} {C f : Addr} (Cl : ClsIs W K C ["n", "worths", "order", "marks"]) (M : MethIs W K C "decisions" f ["self"] (methBody pw 6 5) (methScope pw 6 5)) {lv : Nat} {n : Nat} {p : TrP} {ws od : List Int} {mk : List Nat} {σ : AH} {Q : AV → AH → Prop}
    (hT : TrAt C p n ws od (mk.map fun (k : Nat) => (k : Int)) σ) (hod : od.length ≤ 100000) (hmk : mk.length ≤ 100000) (hlt : ∀ k ∈ mk, k < od.length)
    (h : ∀ σ', Sub σ σ' → Q (.ref σ'.length) (σ' ++ [.list ((mk.map fun k => (od[k]?).getD 0).map .int)])) :
    TCode W (lv + 1) (.stat (.ref f)) [.ref p.t] Q σ := by
  refine code_fn M.fn rfl ?_
  refine kW ?_
  repeat (first|with_reducible refine kW ?_|(first|with_reducible (first|refine pB ?_|refine pF ?_|refine pA ?_|refine kX ?_|refine kY ?_|refine gH ?_|refine gG ?_|refine kD ?_|refine gY ?_|refine kJ ?_|refine gX ?_|refine kL ?_|refine kE ?_|refine kK ?_|refine kC ?_|refine kI ?_|refine kO ?_|refine kP ?_|refine kN ?_|refine pJ ?_|refine pG ?_|refine gB ?_|refine gA ?_|refine pM ?_|refine gJ ?_|refine gN ?_|refine gU ?_|refine gQ ?_|refine gO ?_|refine gV ?_|refine pN ?_)|((with_reducible refine And.intro ?_ ?_);(first|(rw [sizeLine_eq];exact of_decide_eq_true rfl)|omega))|((with_reducible first|refine kZ ?_ ?_|refine kQ ?_ ?_|refine kS ?_ ?_|refine kB ?_ ?_|refine kM ?_ ?_|refine pH ?_ ?_|refine pK ?_ ?_);exact rfl)|((with_reducible first|refine kR ?_ ?_ ?_|refine kT ?_ ?_ ?_|apply kG);exact rfl;exact rfl)|((with_reducible apply gZ);assumption;exact rfl;decide +kernel;exact rfl)|((with_reducible apply kA);assumption;exact rfl;decide +kernel;exact rfl;(first|exact .type _|exact .builtin _);exact rfl)|((with_reducible refine gL ?_ ?_);decide)|((with_reducible refine gK ?_ ?_ ?_);decide;exact PyProof.noPylong_small (by decide))|((with_reducible refine gM ?_ ?_);(first|exact IntMulOk.of_right (intBits_le_64 (by omega) (by omega))|exact IntMulOk.of_left (intBits_le_64 (by omega) (by omega))))|((with_reducible refine kF ?_ ?_ ?_);exact rfl;exact fun _ => rfl)|((with_reducible refine gW ?_ ?_);exact fun _ => rfl)|with_reducible refine pO ?_))
  refine te_comp rfl rfl ?_
  repeat (first|with_reducible refine kW ?_|(first|with_reducible (first|refine pB ?_|refine pF ?_|refine pA ?_|refine kX ?_|refine kY ?_|refine gH ?_|refine gG ?_|refine kD ?_|refine gY ?_|refine kJ ?_|refine gX ?_|refine kL ?_|refine kE ?_|refine kK ?_|refine kC ?_|refine kI ?_|refine kO ?_|refine kP ?_|refine kN ?_|refine pJ ?_|refine pG ?_|refine gB ?_|refine gA ?_|refine pM ?_|refine gJ ?_|refine gN ?_|refine gU ?_|refine gQ ?_|refine gO ?_|refine gV ?_|refine pN ?_)|((with_reducible refine And.intro ?_ ?_);(first|(rw [sizeLine_eq];exact of_decide_eq_true rfl)|omega))|((with_reducible first|refine kZ ?_ ?_|refine kQ ?_ ?_|refine kS ?_ ?_|refine kB ?_ ?_|refine kM ?_ ?_|refine pH ?_ ?_|refine pK ?_ ?_);exact rfl)|((with_reducible first|refine kR ?_ ?_ ?_|refine kT ?_ ?_ ?_|apply kG);exact rfl;exact rfl)|((with_reducible apply gZ);assumption;exact rfl;decide +kernel;exact rfl)|((with_reducible apply kA);assumption;exact rfl;decide +kernel;exact rfl;(first|exact .type _|exact .builtin _);exact rfl)|((with_reducible refine gL ?_ ?_);decide)|((with_reducible refine gK ?_ ?_ ?_);decide;exact PyProof.noPylong_small (by decide))|((with_reducible refine gM ?_ ?_);(first|exact IntMulOk.of_right (intBits_le_64 (by omega) (by omega))|exact IntMulOk.of_left (intBits_le_64 (by omega) (by omega))))|((with_reducible refine kF ?_ ?_ ?_);exact rfl;exact fun _ => rfl)|((with_reducible refine gW ?_ ?_);exact fun _ => rfl)|with_reducible refine pO ?_))
  refine Cl.get hT.t hT.d rfl rfl rfl ?_
  refine ⟨_, _, fun i acc σ' => acc = ((mk.take i).map fun k => (od[k]?).getD 0).map .int ∧ Sub σ σ', .inl ⟨_, _, rfl, rfl, fun _ _ => rfl, hT.k, fun i acc σ' _ j => j.2 _ _ hT.k⟩, by rw [sizeLine_eq]; simp; (first|lia|omega), ⟨by simp, Sub.refl _⟩, ?_, ?_⟩
  · rintro i acc σ' hi ⟨rfl, sub⟩
    simp only [List.length_map] at hi
    refine tifs_nil ?_
    rw [if_pos rfl, List.getElem?_map, List.getElem?_map, List.getElem?_eq_getElem hi]
    have hm := hlt mk[i] (List.getElem_mem _)
    have hT' := hT.sub sub
    repeat (first|with_reducible refine kW ?_|(first|with_reducible (first|refine pB ?_|refine pF ?_|refine pA ?_|refine kX ?_|refine kY ?_|refine gH ?_|refine gG ?_|refine kD ?_|refine gY ?_|refine kJ ?_|refine gX ?_|refine kL ?_|refine kE ?_|refine kK ?_|refine kC ?_|refine kI ?_|refine kO ?_|refine kP ?_|refine kN ?_|refine pJ ?_|refine pG ?_|refine gB ?_|refine gA ?_|refine pM ?_|refine gJ ?_|refine gN ?_|refine gU ?_|refine gQ ?_|refine gO ?_|refine gV ?_|refine pN ?_)|((with_reducible refine And.intro ?_ ?_);(first|(rw [sizeLine_eq];exact of_decide_eq_true rfl)|omega))|((with_reducible first|refine kZ ?_ ?_|refine kQ ?_ ?_|refine kS ?_ ?_|refine kB ?_ ?_|refine kM ?_ ?_|refine pH ?_ ?_|refine pK ?_ ?_);exact rfl)|((with_reducible first|refine kR ?_ ?_ ?_|refine kT ?_ ?_ ?_|apply kG);exact rfl;exact rfl)|((with_reducible apply gZ);assumption;exact rfl;decide +kernel;exact rfl)|((with_reducible apply kA);assumption;exact rfl;decide +kernel;exact rfl;(first|exact .type _|exact .builtin _);exact rfl)|((with_reducible refine gL ?_ ?_);decide)|((with_reducible refine gK ?_ ?_ ?_);decide;exact PyProof.noPylong_small (by decide))|((with_reducible refine gM ?_ ?_);(first|exact IntMulOk.of_right (intBits_le_64 (by omega) (by omega))|exact IntMulOk.of_left (intBits_le_64 (by omega) (by omega))))|((with_reducible refine kF ?_ ?_ ?_);exact rfl;exact fun _ => rfl)|((with_reducible refine gW ?_ ?_);exact fun _ => rfl)|with_reducible refine pO ?_))
    refine Cl.get hT'.t hT'.d rfl rfl rfl ?_
    repeat (first|with_reducible refine kW ?_|(first|with_reducible (first|refine pB ?_|refine pF ?_|refine pA ?_|refine kX ?_|refine kY ?_|refine gH ?_|refine gG ?_|refine kD ?_|refine gY ?_|refine kJ ?_|refine gX ?_|refine kL ?_|refine kE ?_|refine kK ?_|refine kC ?_|refine kI ?_|refine kO ?_|refine kP ?_|refine kN ?_|refine pJ ?_|refine pG ?_|refine gB ?_|refine gA ?_|refine pM ?_|refine gJ ?_|refine gN ?_|refine gU ?_|refine gQ ?_|refine gO ?_|refine gV ?_|refine pN ?_)|((with_reducible refine And.intro ?_ ?_);(first|(rw [sizeLine_eq];exact of_decide_eq_true rfl)|omega))|((with_reducible first|refine kZ ?_ ?_|refine kQ ?_ ?_|refine kS ?_ ?_|refine kB ?_ ?_|refine kM ?_ ?_|refine pH ?_ ?_|refine pK ?_ ?_);exact rfl)|((with_reducible first|refine kR ?_ ?_ ?_|refine kT ?_ ?_ ?_|apply kG);exact rfl;exact rfl)|((with_reducible apply gZ);assumption;exact rfl;decide +kernel;exact rfl)|((with_reducible apply kA);assumption;exact rfl;decide +kernel;exact rfl;(first|exact .type _|exact .builtin _);exact rfl)|((with_reducible refine gL ?_ ?_);decide)|((with_reducible refine gK ?_ ?_ ?_);decide;exact PyProof.noPylong_small (by decide))|((with_reducible refine gM ?_ ?_);(first|exact IntMulOk.of_right (intBits_le_64 (by omega) (by omega))|exact IntMulOk.of_left (intBits_le_64 (by omega) (by omega))))|((with_reducible refine kF ?_ ?_ ?_);exact rfl;exact fun _ => rfl)|((with_reducible refine gW ?_ ?_);exact fun _ => rfl)|with_reducible refine pO ?_))
    refine tidx_nums rfl hT'.o (j := mk[i]) rfl hm (by (first|lia|omega)) ?_
    refine ⟨?_, sub⟩
    rw [List.take_add_one, List.getElem?_eq_getElem hi]
    simp only [Option.toList_some, List.map_append, List.map_cons, List.map_nil, List.getElem?_eq_getElem hm, Option.getD_some]
  · rintro acc σ' ⟨rfl, sub⟩
    repeat (first|with_reducible refine kW ?_|(first|with_reducible (first|refine pB ?_|refine pF ?_|refine pA ?_|refine kX ?_|refine kY ?_|refine gH ?_|refine gG ?_|refine kD ?_|refine gY ?_|refine kJ ?_|refine gX ?_|refine kL ?_|refine kE ?_|refine kK ?_|refine kC ?_|refine kI ?_|refine kO ?_|refine kP ?_|refine kN ?_|refine pJ ?_|refine pG ?_|refine gB ?_|refine gA ?_|refine pM ?_|refine gJ ?_|refine gN ?_|refine gU ?_|refine gQ ?_|refine gO ?_|refine gV ?_|refine pN ?_)|((with_reducible refine And.intro ?_ ?_);(first|(rw [sizeLine_eq];exact of_decide_eq_true rfl)|omega))|((with_reducible first|refine kZ ?_ ?_|refine kQ ?_ ?_|refine kS ?_ ?_|refine kB ?_ ?_|refine kM ?_ ?_|refine pH ?_ ?_|refine pK ?_ ?_);exact rfl)|((with_reducible first|refine kR ?_ ?_ ?_|refine kT ?_ ?_ ?_|apply kG);exact rfl;exact rfl)|((with_reducible apply gZ);assumption;exact rfl;decide +kernel;exact rfl)|((with_reducible apply kA);assumption;exact rfl;decide +kernel;exact rfl;(first|exact .type _|exact .builtin _);exact rfl)|((with_reducible refine gL ?_ ?_);decide)|((with_reducible refine gK ?_ ?_ ?_);decide;exact PyProof.noPylong_small (by decide))|((with_reducible refine gM ?_ ?_);(first|exact IntMulOk.of_right (intBits_le_64 (by omega) (by omega))|exact IntMulOk.of_left (intBits_le_64 (by omega) (by omega))))|((with_reducible refine kF ?_ ?_ ?_);exact rfl;exact fun _ => rfl)|((with_reducible refine gW ?_ ?_);exact fun _ => rfl)|with_reducible refine pO ?_))
    rw [List.length_map, List.length_map, List.take_length]
    exact h σ' sub


theorem first_spec {W : Wd} {K : Frag} {C f : Addr} (Cl : ClsIs W K C ["n", "worths", "order", "marks"]) (M : MethIs W K C "first_free" f ["self"] (methBody pw 6 6) (methScope pw 6 6)) (hr : W.mg "range" = none) {lv : Nat} {n : Nat} {p : TrP} {ws od mk : List Int} {σ : AH} {Q : AV → AH → Prop}
    (hT : TrAt C p n ws od mk σ) (hw : ws.length = n + 1) (hn : n ≤ 1000)
    (h : ∀ σ', Sub σ σ' → Q (.int (ffree ws 1 n)) σ') :
    TCode W (lv + 1) (.stat (.ref f)) [.ref p.t] Q σ := by
  refine code_fn M.fn rfl ?_
  refine kW ?_
  refine ts_for_range rfl rfl ?_
  repeat (first|with_reducible refine kW ?_|(first|with_reducible (first|refine pB ?_|refine pF ?_|refine pA ?_|refine kX ?_|refine kY ?_|refine gH ?_|refine gG ?_|refine kD ?_|refine gY ?_|refine kJ ?_|refine gX ?_|refine kL ?_|refine kE ?_|refine kK ?_|refine kC ?_|refine kI ?_|refine kO ?_|refine kP ?_|refine kN ?_|refine pJ ?_|refine pG ?_|refine gB ?_|refine gA ?_|refine pM ?_|refine gJ ?_|refine gN ?_|refine gU ?_|refine gQ ?_|refine gO ?_|refine gV ?_|refine pN ?_)|((with_reducible refine And.intro ?_ ?_);(first|(rw [sizeLine_eq];exact of_decide_eq_true rfl)|omega))|((with_reducible first|refine kZ ?_ ?_|refine kQ ?_ ?_|refine kS ?_ ?_|refine kB ?_ ?_|refine kM ?_ ?_|refine pH ?_ ?_|refine pK ?_ ?_);exact rfl)|((with_reducible first|refine kR ?_ ?_ ?_|refine kT ?_ ?_ ?_|apply kG);exact rfl;exact rfl)|((with_reducible apply gZ);assumption;exact rfl;decide +kernel;exact rfl)|((with_reducible apply kA);assumption;exact rfl;decide +kernel;exact rfl;(first|exact .type _|exact .builtin _);exact rfl)|((with_reducible refine gL ?_ ?_);decide)|((with_reducible refine gK ?_ ?_ ?_);decide;exact PyProof.noPylong_small (by decide))|((with_reducible refine gM ?_ ?_);(first|exact IntMulOk.of_right (intBits_le_64 (by omega) (by omega))|exact IntMulOk.of_left (intBits_le_64 (by omega) (by omega))))|((with_reducible refine kF ?_ ?_ ?_);exact rfl;exact fun _ => rfl)|((with_reducible refine gW ?_ ?_);exact fun _ => rfl)|with_reducible refine pO ?_))
  refine Cl.get hT.t hT.d rfl rfl rfl ?_
  repeat (first|with_reducible refine kW ?_|(first|with_reducible (first|refine pB ?_|refine pF ?_|refine pA ?_|refine kX ?_|refine kY ?_|refine gH ?_|refine gG ?_|refine kD ?_|refine gY ?_|refine kJ ?_|refine gX ?_|refine kL ?_|refine kE ?_|refine kK ?_|refine kC ?_|refine kI ?_|refine kO ?_|refine kP ?_|refine kN ?_|refine pJ ?_|refine pG ?_|refine gB ?_|refine gA ?_|refine pM ?_|refine gJ ?_|refine gN ?_|refine gU ?_|refine gQ ?_|refine gO ?_|refine gV ?_|refine pN ?_)|((with_reducible refine And.intro ?_ ?_);(first|(rw [sizeLine_eq];exact of_decide_eq_true rfl)|omega))|((with_reducible first|refine kZ ?_ ?_|refine kQ ?_ ?_|refine kS ?_ ?_|refine kB ?_ ?_|refine kM ?_ ?_|refine pH ?_ ?_|refine pK ?_ ?_);exact rfl)|((with_reducible first|refine kR ?_ ?_ ?_|refine kT ?_ ?_ ?_|apply kG);exact rfl;exact rfl)|((with_reducible apply gZ);assumption;exact rfl;decide +kernel;exact rfl)|((with_reducible apply kA);assumption;exact rfl;decide +kernel;exact rfl;(first|exact .type _|exact .builtin _);exact rfl)|((with_reducible refine gL ?_ ?_);decide)|((with_reducible refine gK ?_ ?_ ?_);decide;exact PyProof.noPylong_small (by decide))|((with_reducible refine gM ?_ ?_);(first|exact IntMulOk.of_right (intBits_le_64 (by omega) (by omega))|exact IntMulOk.of_left (intBits_le_64 (by omega) (by omega))))|((with_reducible refine kF ?_ ?_ ?_);exact rfl;exact fun _ => rfl)|((with_reducible refine gW ?_ ?_);exact fun _ => rfl)|with_reducible refine pO ?_))
  refine tcall_range2 ?_
  refine ⟨_, 1, (n : Int) + 1, 1, n, fun i m' σ' => LE [("self", .ref p.t)] m' ∧ Sub σ σ' ∧ ffree ws (1 + i) (n - i) = ffree ws 1 n, rfl, by simp, range_up (by (first|lia|omega)), ⟨by (repeat (first | exact LE.nil | refine LE.cons (by exact rfl) ?_)), by (repeat (first | exact Sub.refl _ | assumption | refine Sub.trans ?_ (Sub.snoc _ _))), rfl⟩, ?_, ?_⟩
  · rintro i m' σ' hi ⟨le, sub, he⟩
    have hT' := hT.sub sub
    refine TA.forget le (ta_name rfl ?_)
    repeat (first|with_reducible refine kW ?_|(first|with_reducible (first|refine pB ?_|refine pF ?_|refine pA ?_|refine kX ?_|refine kY ?_|refine gH ?_|refine gG ?_|refine kD ?_|refine gY ?_|refine kJ ?_|refine gX ?_|refine kL ?_|refine kE ?_|refine kK ?_|refine kC ?_|refine kI ?_|refine kO ?_|refine kP ?_|refine kN ?_|refine pJ ?_|refine pG ?_|refine gB ?_|refine gA ?_|refine pM ?_|refine gJ ?_|refine gN ?_|refine gU ?_|refine gQ ?_|refine gO ?_|refine gV ?_|refine pN ?_)|((with_reducible refine And.intro ?_ ?_);(first|(rw [sizeLine_eq];exact of_decide_eq_true rfl)|omega))|((with_reducible first|refine kZ ?_ ?_|refine kQ ?_ ?_|refine kS ?_ ?_|refine kB ?_ ?_|refine kM ?_ ?_|refine pH ?_ ?_|refine pK ?_ ?_);exact rfl)|((with_reducible first|refine kR ?_ ?_ ?_|refine kT ?_ ?_ ?_|apply kG);exact rfl;exact rfl)|((with_reducible apply gZ);assumption;exact rfl;decide +kernel;exact rfl)|((with_reducible apply kA);assumption;exact rfl;decide +kernel;exact rfl;(first|exact .type _|exact .builtin _);exact rfl)|((with_reducible refine gL ?_ ?_);decide)|((with_reducible refine gK ?_ ?_ ?_);decide;exact PyProof.noPylong_small (by decide))|((with_reducible refine gM ?_ ?_);(first|exact IntMulOk.of_right (intBits_le_64 (by omega) (by omega))|exact IntMulOk.of_left (intBits_le_64 (by omega) (by omega))))|((with_reducible refine kF ?_ ?_ ?_);exact rfl;exact fun _ => rfl)|((with_reducible refine gW ?_ ?_);exact fun _ => rfl)|with_reducible refine pO ?_))
    refine Cl.get hT'.t hT'.d rfl rfl rfl ?_
    repeat (first|with_reducible refine kW ?_|(first|with_reducible (first|refine pB ?_|refine pF ?_|refine pA ?_|refine kX ?_|refine kY ?_|refine gH ?_|refine gG ?_|refine kD ?_|refine gY ?_|refine kJ ?_|refine gX ?_|refine kL ?_|refine kE ?_|refine kK ?_|refine kC ?_|refine kI ?_|refine kO ?_|refine kP ?_|refine kN ?_|refine pJ ?_|refine pG ?_|refine gB ?_|refine gA ?_|refine pM ?_|refine gJ ?_|refine gN ?_|refine gU ?_|refine gQ ?_|refine gO ?_|refine gV ?_|refine pN ?_)|((with_reducible refine And.intro ?_ ?_);(first|(rw [sizeLine_eq];exact of_decide_eq_true rfl)|omega))|((with_reducible first|refine kZ ?_ ?_|refine kQ ?_ ?_|refine kS ?_ ?_|refine kB ?_ ?_|refine kM ?_ ?_|refine pH ?_ ?_|refine pK ?_ ?_);exact rfl)|((with_reducible first|refine kR ?_ ?_ ?_|refine kT ?_ ?_ ?_|apply kG);exact rfl;exact rfl)|((with_reducible apply gZ);assumption;exact rfl;decide +kernel;exact rfl)|((with_reducible apply kA);assumption;exact rfl;decide +kernel;exact rfl;(first|exact .type _|exact .builtin _);exact rfl)|((with_reducible refine gL ?_ ?_);decide)|((with_reducible refine gK ?_ ?_ ?_);decide;exact PyProof.noPylong_small (by decide))|((with_reducible refine gM ?_ ?_);(first|exact IntMulOk.of_right (intBits_le_64 (by omega) (by omega))|exact IntMulOk.of_left (intBits_le_64 (by omega) (by omega))))|((with_reducible refine kF ?_ ?_ ?_);exact rfl;exact fun _ => rfl)|((with_reducible refine gW ?_ ?_);exact fun _ => rfl)|with_reducible refine pO ?_))
    refine tidx_nums rfl hT'.w (j := 1 + i) (by (first|lia|omega)) (by (first|lia|omega)) (by (first|lia|omega)) ?_
    rw [show n - i = (n - (i + 1)) + 1 by (first|lia|omega), ffree, List.getElem?_eq_getElem (by (first|lia|omega))] at he
    repeat (first|with_reducible refine kW ?_|(first|with_reducible (first|refine pB ?_|refine pF ?_|refine pA ?_|refine kX ?_|refine kY ?_|refine gH ?_|refine gG ?_|refine kD ?_|refine gY ?_|refine kJ ?_|refine gX ?_|refine kL ?_|refine kE ?_|refine kK ?_|refine kC ?_|refine kI ?_|refine kO ?_|refine kP ?_|refine kN ?_|refine pJ ?_|refine pG ?_|refine gB ?_|refine gA ?_|refine pM ?_|refine gJ ?_|refine gN ?_|refine gU ?_|refine gQ ?_|refine gO ?_|refine gV ?_|refine pN ?_)|((with_reducible refine And.intro ?_ ?_);(first|(rw [sizeLine_eq];exact of_decide_eq_true rfl)|omega))|((with_reducible first|refine kZ ?_ ?_|refine kQ ?_ ?_|refine kS ?_ ?_|refine kB ?_ ?_|refine kM ?_ ?_|refine pH ?_ ?_|refine pK ?_ ?_);exact rfl)|((with_reducible first|refine kR ?_ ?_ ?_|refine kT ?_ ?_ ?_|apply kG);exact rfl;exact rfl)|((with_reducible apply gZ);assumption;exact rfl;decide +kernel;exact rfl)|((with_reducible apply kA);assumption;exact rfl;decide +kernel;exact rfl;(first|exact .type _|exact .builtin _);exact rfl)|((with_reducible refine gL ?_ ?_);decide)|((with_reducible refine gK ?_ ?_ ?_);decide;exact PyProof.noPylong_small (by decide))|((with_reducible refine gM ?_ ?_);(first|exact IntMulOk.of_right (intBits_le_64 (by omega) (by omega))|exact IntMulOk.of_left (intBits_le_64 (by omega) (by omega))))|((with_reducible refine kF ?_ ?_ ?_);exact rfl;exact fun _ => rfl)|((with_reducible refine gW ?_ ?_);exact fun _ => rfl)|with_reducible refine pO ?_))
    split
    · rename_i hc
      have hc : ws[1 + i] = 0 := by simpa using hc
      rw [if_pos (by simpa using hc)] at he
      repeat (first|with_reducible refine kW ?_|(first|with_reducible (first|refine pB ?_|refine pF ?_|refine pA ?_|refine kX ?_|refine kY ?_|refine gH ?_|refine gG ?_|refine kD ?_|refine gY ?_|refine kJ ?_|refine gX ?_|refine kL ?_|refine kE ?_|refine kK ?_|refine kC ?_|refine kI ?_|refine kO ?_|refine kP ?_|refine kN ?_|refine pJ ?_|refine pG ?_|refine gB ?_|refine gA ?_|refine pM ?_|refine gJ ?_|refine gN ?_|refine gU ?_|refine gQ ?_|refine gO ?_|refine gV ?_|refine pN ?_)|((with_reducible refine And.intro ?_ ?_);(first|(rw [sizeLine_eq];exact of_decide_eq_true rfl)|omega))|((with_reducible first|refine kZ ?_ ?_|refine kQ ?_ ?_|refine kS ?_ ?_|refine kB ?_ ?_|refine kM ?_ ?_|refine pH ?_ ?_|refine pK ?_ ?_);exact rfl)|((with_reducible first|refine kR ?_ ?_ ?_|refine kT ?_ ?_ ?_|apply kG);exact rfl;exact rfl)|((with_reducible apply gZ);assumption;exact rfl;decide +kernel;exact rfl)|((with_reducible apply kA);assumption;exact rfl;decide +kernel;exact rfl;(first|exact .type _|exact .builtin _);exact rfl)|((with_reducible refine gL ?_ ?_);decide)|((with_reducible refine gK ?_ ?_ ?_);decide;exact PyProof.noPylong_small (by decide))|((with_reducible refine gM ?_ ?_);(first|exact IntMulOk.of_right (intBits_le_64 (by omega) (by omega))|exact IntMulOk.of_left (intBits_le_64 (by omega) (by omega))))|((with_reducible refine kF ?_ ?_ ?_);exact rfl;exact fun _ => rfl)|((with_reducible refine gW ?_ ?_);exact fun _ => rfl)|with_reducible refine pO ?_))
      rw [show (1 + (i : Int) * 1) = ((1 + i : Nat) : Int) by (first|lia|omega), he]
      exact h _ sub
    · rename_i hc
      have hc : ¬ ws[1 + i] = 0 := by simpa using hc
      rw [if_neg (by simpa using hc)] at he
      repeat (first|with_reducible refine kW ?_|(first|with_reducible (first|refine pB ?_|refine pF ?_|refine pA ?_|refine kX ?_|refine kY ?_|refine gH ?_|refine gG ?_|refine kD ?_|refine gY ?_|refine kJ ?_|refine gX ?_|refine kL ?_|refine kE ?_|refine kK ?_|refine kC ?_|refine kI ?_|refine kO ?_|refine kP ?_|refine kN ?_|refine pJ ?_|refine pG ?_|refine gB ?_|refine gA ?_|refine pM ?_|refine gJ ?_|refine gN ?_|refine gU ?_|refine gQ ?_|refine gO ?_|refine gV ?_|refine pN ?_)|((with_reducible refine And.intro ?_ ?_);(first|(rw [sizeLine_eq];exact of_decide_eq_true rfl)|omega))|((with_reducible first|refine kZ ?_ ?_|refine kQ ?_ ?_|refine kS ?_ ?_|refine kB ?_ ?_|refine kM ?_ ?_|refine pH ?_ ?_|refine pK ?_ ?_);exact rfl)|((with_reducible first|refine kR ?_ ?_ ?_|refine kT ?_ ?_ ?_|apply kG);exact rfl;exact rfl)|((with_reducible apply gZ);assumption;exact rfl;decide +kernel;exact rfl)|((with_reducible apply kA);assumption;exact rfl;decide +kernel;exact rfl;(first|exact .type _|exact .builtin _);exact rfl)|((with_reducible refine gL ?_ ?_);decide)|((with_reducible refine gK ?_ ?_ ?_);decide;exact PyProof.noPylong_small (by decide))|((with_reducible refine gM ?_ ?_);(first|exact IntMulOk.of_right (intBits_le_64 (by omega) (by omega))|exact IntMulOk.of_left (intBits_le_64 (by omega) (by omega))))|((with_reducible refine kF ?_ ?_ ?_);exact rfl;exact fun _ => rfl)|((with_reducible refine gW ?_ ?_);exact fun _ => rfl)|with_reducible refine pO ?_))
      exact ⟨by (repeat (first | exact LE.nil | refine LE.cons (by exact rfl) ?_)), sub, by rw [show 1 + (i + 1) = 1 + i + 1 by (first|lia|omega)]; exact he⟩
  · rintro m' σ' ⟨le, sub, he⟩
    refine TX.forget le ?_
    rw [Nat.sub_self, ffree] at he
    repeat (first|with_reducible refine kW ?_|(first|with_reducible (first|refine pB ?_|refine pF ?_|refine pA ?_|refine kX ?_|refine kY ?_|refine gH ?_|refine gG ?_|refine kD ?_|refine gY ?_|refine kJ ?_|refine gX ?_|refine kL ?_|refine kE ?_|refine kK ?_|refine kC ?_|refine kI ?_|refine kO ?_|refine kP ?_|refine kN ?_|refine pJ ?_|refine pG ?_|refine gB ?_|refine gA ?_|refine pM ?_|refine gJ ?_|refine gN ?_|refine gU ?_|refine gQ ?_|refine gO ?_|refine gV ?_|refine pN ?_)|((with_reducible refine And.intro ?_ ?_);(first|(rw [sizeLine_eq];exact of_decide_eq_true rfl)|omega))|((with_reducible first|refine kZ ?_ ?_|refine kQ ?_ ?_|refine kS ?_ ?_|refine kB ?_ ?_|refine kM ?_ ?_|refine pH ?_ ?_|refine pK ?_ ?_);exact rfl)|((with_reducible first|refine kR ?_ ?_ ?_|refine kT ?_ ?_ ?_|apply kG);exact rfl;exact rfl)|((with_reducible apply gZ);assumption;exact rfl;decide +kernel;exact rfl)|((with_reducible apply kA);assumption;exact rfl;decide +kernel;exact rfl;(first|exact .type _|exact .builtin _);exact rfl)|((with_reducible refine gL ?_ ?_);decide)|((with_reducible refine gK ?_ ?_ ?_);decide;exact PyProof.noPylong_small (by decide))|((with_reducible refine gM ?_ ?_);(first|exact IntMulOk.of_right (intBits_le_64 (by omega) (by omega))|exact IntMulOk.of_left (intBits_le_64 (by omega) (by omega))))|((with_reducible refine kF ?_ ?_ ?_);exact rfl;exact fun _ => rfl)|((with_reducible refine gW ?_ ?_);exact fun _ => rfl)|with_reducible refine pO ?_))
    rw [show (0 : Int) = ((0 : Nat) : Int) from rfl, he]
    exact h _ sub


theorem snap_spec {W : Wd} {K : Frag} {C f : Addr} (Cl : ClsIs W K C ["n", "worths", "order", "marks"]) (M : MethIs W K C "snapshot" f ["self"] (methBody pw 6 7) (methScope pw 6 7)) (hlist : W.mg "list" = none) {lv : Nat} {n : Nat} {p : TrP} {ws od mk : List Int} {σ : AH} {Q : AV → AH → Prop}
    (hT : TrAt C p n ws od mk σ) (hws : ws.length ≤ 100000) (hod : od.length ≤ 100000) (hmk : mk.length ≤ 100000)
    (h : ∀ σ', σ' = σ ++ [.list (ws.map .int)] ++ [.list (od.map .int)] ++ [.list (mk.map .int)] ++ [.tuple [.ref σ.length, .ref (σ.length + 1), .ref (σ.length + 2)]] → Q (.ref (σ.length + 3)) σ') :
    TCode W (lv + 1) (.stat (.ref f)) [.ref p.t] Q σ := by
  refine code_fn M.fn rfl ?_
  refine kW ?_
  repeat (first|with_reducible refine kW ?_|(first|with_reducible (first|refine pB ?_|refine pF ?_|refine pA ?_|refine kX ?_|refine kY ?_|refine gH ?_|refine gG ?_|refine kD ?_|refine gY ?_|refine kJ ?_|refine gX ?_|refine kL ?_|refine kE ?_|refine kK ?_|refine kC ?_|refine kI ?_|refine kO ?_|refine kP ?_|refine kN ?_|refine pJ ?_|refine pG ?_|refine gB ?_|refine gA ?_|refine pM ?_|refine gJ ?_|refine gN ?_|refine gU ?_|refine gQ ?_|refine gO ?_|refine gV ?_|refine pN ?_)|((with_reducible refine And.intro ?_ ?_);(first|(rw [sizeLine_eq];exact of_decide_eq_true rfl)|omega))|((with_reducible first|refine kZ ?_ ?_|refine kQ ?_ ?_|refine kS ?_ ?_|refine kB ?_ ?_|refine kM ?_ ?_|refine pH ?_ ?_|refine pK ?_ ?_);exact rfl)|((with_reducible first|refine kR ?_ ?_ ?_|refine kT ?_ ?_ ?_|apply kG);exact rfl;exact rfl)|((with_reducible apply gZ);assumption;exact rfl;decide +kernel;exact rfl)|((with_reducible apply kA);assumption;exact rfl;decide +kernel;exact rfl;(first|exact .type _|exact .builtin _);exact rfl)|((with_reducible refine gL ?_ ?_);decide)|((with_reducible refine gK ?_ ?_ ?_);decide;exact PyProof.noPylong_small (by decide))|((with_reducible refine gM ?_ ?_);(first|exact IntMulOk.of_right (intBits_le_64 (by omega) (by omega))|exact IntMulOk.of_left (intBits_le_64 (by omega) (by omega))))|((with_reducible refine kF ?_ ?_ ?_);exact rfl;exact fun _ => rfl)|((with_reducible refine gW ?_ ?_);exact fun _ => rfl)|with_reducible refine pO ?_))
  refine Cl.get hT.t hT.d rfl rfl rfl ?_
  repeat (first|with_reducible refine kW ?_|(first|with_reducible (first|refine pB ?_|refine pF ?_|refine pA ?_|refine kX ?_|refine kY ?_|refine gH ?_|refine gG ?_|refine kD ?_|refine gY ?_|refine kJ ?_|refine gX ?_|refine kL ?_|refine kE ?_|refine kK ?_|refine kC ?_|refine kI ?_|refine kO ?_|refine kP ?_|refine kN ?_|refine pJ ?_|refine pG ?_|refine gB ?_|refine gA ?_|refine pM ?_|refine gJ ?_|refine gN ?_|refine gU ?_|refine gQ ?_|refine gO ?_|refine gV ?_|refine pN ?_)|((with_reducible refine And.intro ?_ ?_);(first|(rw [sizeLine_eq];exact of_decide_eq_true rfl)|omega))|((with_reducible first|refine kZ ?_ ?_|refine kQ ?_ ?_|refine kS ?_ ?_|refine kB ?_ ?_|refine kM ?_ ?_|refine pH ?_ ?_|refine pK ?_ ?_);exact rfl)|((with_reducible first|refine kR ?_ ?_ ?_|refine kT ?_ ?_ ?_|apply kG);exact rfl;exact rfl)|((with_reducible apply gZ);assumption;exact rfl;decide +kernel;exact rfl)|((with_reducible apply kA);assumption;exact rfl;decide +kernel;exact rfl;(first|exact .type _|exact .builtin _);exact rfl)|((with_reducible refine gL ?_ ?_);decide)|((with_reducible refine gK ?_ ?_ ?_);decide;exact PyProof.noPylong_small (by decide))|((with_reducible refine gM ?_ ?_);(first|exact IntMulOk.of_right (intBits_le_64 (by omega) (by omega))|exact IntMulOk.of_left (intBits_le_64 (by omega) (by omega))))|((with_reducible refine kF ?_ ?_ ?_);exact rfl;exact fun _ => rfl)|((with_reducible refine gW ?_ ?_);exact fun _ => rfl)|with_reducible refine pO ?_))
  refine tcall_list hT.w (by rw [sizeLine_eq]; simp; (first|lia|omega)) ?_
  have hT1 := hT.sub (Sub.snoc σ [.list (ws.map .int)])
  repeat (first|with_reducible refine kW ?_|(first|with_reducible (first|refine pB ?_|refine pF ?_|refine pA ?_|refine kX ?_|refine kY ?_|refine gH ?_|refine gG ?_|refine kD ?_|refine gY ?_|refine kJ ?_|refine gX ?_|refine kL ?_|refine kE ?_|refine kK ?_|refine kC ?_|refine kI ?_|refine kO ?_|refine kP ?_|refine kN ?_|refine pJ ?_|refine pG ?_|refine gB ?_|refine gA ?_|refine pM ?_|refine gJ ?_|refine gN ?_|refine gU ?_|refine gQ ?_|refine gO ?_|refine gV ?_|refine pN ?_)|((with_reducible refine And.intro ?_ ?_);(first|(rw [sizeLine_eq];exact of_decide_eq_true rfl)|omega))|((with_reducible first|refine kZ ?_ ?_|refine kQ ?_ ?_|refine kS ?_ ?_|refine kB ?_ ?_|refine kM ?_ ?_|refine pH ?_ ?_|refine pK ?_ ?_);exact rfl)|((with_reducible first|refine kR ?_ ?_ ?_|refine kT ?_ ?_ ?_|apply kG);exact rfl;exact rfl)|((with_reducible apply gZ);assumption;exact rfl;decide +kernel;exact rfl)|((with_reducible apply kA);assumption;exact rfl;decide +kernel;exact rfl;(first|exact .type _|exact .builtin _);exact rfl)|((with_reducible refine gL ?_ ?_);decide)|((with_reducible refine gK ?_ ?_ ?_);decide;exact PyProof.noPylong_small (by decide))|((with_reducible refine gM ?_ ?_);(first|exact IntMulOk.of_right (intBits_le_64 (by omega) (by omega))|exact IntMulOk.of_left (intBits_le_64 (by omega) (by omega))))|((with_reducible refine kF ?_ ?_ ?_);exact rfl;exact fun _ => rfl)|((with_reducible refine gW ?_ ?_);exact fun _ => rfl)|with_reducible refine pO ?_))
  refine Cl.get hT1.t hT1.d rfl rfl rfl ?_
  repeat (first|with_reducible refine kW ?_|(first|with_reducible (first|refine pB ?_|refine pF ?_|refine pA ?_|refine kX ?_|refine kY ?_|refine gH ?_|refine gG ?_|refine kD ?_|refine gY ?_|refine kJ ?_|refine gX ?_|refine kL ?_|refine kE ?_|refine kK ?_|refine kC ?_|refine kI ?_|refine kO ?_|refine kP ?_|refine kN ?_|refine pJ ?_|refine pG ?_|refine gB ?_|refine gA ?_|refine pM ?_|refine gJ ?_|refine gN ?_|refine gU ?_|refine gQ ?_|refine gO ?_|refine gV ?_|refine pN ?_)|((with_reducible refine And.intro ?_ ?_);(first|(rw [sizeLine_eq];exact of_decide_eq_true rfl)|omega))|((with_reducible first|refine kZ ?_ ?_|refine kQ ?_ ?_|refine kS ?_ ?_|refine kB ?_ ?_|refine kM ?_ ?_|refine pH ?_ ?_|refine pK ?_ ?_);exact rfl)|((with_reducible first|refine kR ?_ ?_ ?_|refine kT ?_ ?_ ?_|apply kG);exact rfl;exact rfl)|((with_reducible apply gZ);assumption;exact rfl;decide +kernel;exact rfl)|((with_reducible apply kA);assumption;exact rfl;decide +kernel;exact rfl;(first|exact .type _|exact .builtin _);exact rfl)|((with_reducible refine gL ?_ ?_);decide)|((with_reducible refine gK ?_ ?_ ?_);decide;exact PyProof.noPylong_small (by decide))|((with_reducible refine gM ?_ ?_);(first|exact IntMulOk.of_right (intBits_le_64 (by omega) (by omega))|exact IntMulOk.of_left (intBits_le_64 (by omega) (by omega))))|((with_reducible refine kF ?_ ?_ ?_);exact rfl;exact fun _ => rfl)|((with_reducible refine gW ?_ ?_);exact fun _ => rfl)|with_reducible refine pO ?_))
  refine tcall_list hT1.o (by rw [sizeLine_eq]; simp; (first|lia|omega)) ?_
  have hT2 := hT1.sub (Sub.snoc _ [.list (od.map .int)])
  repeat (first|with_reducible refine kW ?_|(first|with_reducible (first|refine pB ?_|refine pF ?_|refine pA ?_|refine kX ?_|refine kY ?_|refine gH ?_|refine gG ?_|refine kD ?_|refine gY ?_|refine kJ ?_|refine gX ?_|refine kL ?_|refine kE ?_|refine kK ?_|refine kC ?_|refine kI ?_|refine kO ?_|refine kP ?_|refine kN ?_|refine pJ ?_|refine pG ?_|refine gB ?_|refine gA ?_|refine pM ?_|refine gJ ?_|refine gN ?_|refine gU ?_|refine gQ ?_|refine gO ?_|refine gV ?_|refine pN ?_)|((with_reducible refine And.intro ?_ ?_);(first|(rw [sizeLine_eq];exact of_decide_eq_true rfl)|omega))|((with_reducible first|refine kZ ?_ ?_|refine kQ ?_ ?_|refine kS ?_ ?_|refine kB ?_ ?_|refine kM ?_ ?_|refine pH ?_ ?_|refine pK ?_ ?_);exact rfl)|((with_reducible first|refine kR ?_ ?_ ?_|refine kT ?_ ?_ ?_|apply kG);exact rfl;exact rfl)|((with_reducible apply gZ);assumption;exact rfl;decide +kernel;exact rfl)|((with_reducible apply kA);assumption;exact rfl;decide +kernel;exact rfl;(first|exact .type _|exact .builtin _);exact rfl)|((with_reducible refine gL ?_ ?_);decide)|((with_reducible refine gK ?_ ?_ ?_);decide;exact PyProof.noPylong_small (by decide))|((with_reducible refine gM ?_ ?_);(first|exact IntMulOk.of_right (intBits_le_64 (by omega) (by omega))|exact IntMulOk.of_left (intBits_le_64 (by omega) (by omega))))|((with_reducible refine kF ?_ ?_ ?_);exact rfl;exact fun _ => rfl)|((with_reducible refine gW ?_ ?_);exact fun _ => rfl)|with_reducible refine pO ?_))
  refine Cl.get hT2.t hT2.d rfl rfl rfl ?_
  repeat (first|with_reducible refine kW ?_|(first|with_reducible (first|refine pB ?_|refine pF ?_|refine pA ?_|refine kX ?_|refine kY ?_|refine gH ?_|refine gG ?_|refine kD ?_|refine gY ?_|refine kJ ?_|refine gX ?_|refine kL ?_|refine kE ?_|refine kK ?_|refine kC ?_|refine kI ?_|refine kO ?_|refine kP ?_|refine kN ?_|refine pJ ?_|refine pG ?_|refine gB ?_|refine gA ?_|refine pM ?_|refine gJ ?_|refine gN ?_|refine gU ?_|refine gQ ?_|refine gO ?_|refine gV ?_|refine pN ?_)|((with_reducible refine And.intro ?_ ?_);(first|(rw [sizeLine_eq];exact of_decide_eq_true rfl)|omega))|((with_reducible first|refine kZ ?_ ?_|refine kQ ?_ ?_|refine kS ?_ ?_|refine kB ?_ ?_|refine kM ?_ ?_|refine pH ?_ ?_|refine pK ?_ ?_);exact rfl)|((with_reducible first|refine kR ?_ ?_ ?_|refine kT ?_ ?_ ?_|apply kG);exact rfl;exact rfl)|((with_reducible apply gZ);assumption;exact rfl;decide +kernel;exact rfl)|((with_reducible apply kA);assumption;exact rfl;decide +kernel;exact rfl;(first|exact .type _|exact .builtin _);exact rfl)|((with_reducible refine gL ?_ ?_);decide)|((with_reducible refine gK ?_ ?_ ?_);decide;exact PyProof.noPylong_small (by decide))|((with_reducible refine gM ?_ ?_);(first|exact IntMulOk.of_right (intBits_le_64 (by omega) (by omega))|exact IntMulOk.of_left (intBits_le_64 (by omega) (by omega))))|((with_reducible refine kF ?_ ?_ ?_);exact rfl;exact fun _ => rfl)|((with_reducible refine gW ?_ ?_);exact fun _ => rfl)|with_reducible refine pO ?_))
  refine tcall_list hT2.k (by rw [sizeLine_eq]; simp; (first|lia|omega)) ?_
  repeat (first|with_reducible refine kW ?_|(first|with_reducible (first|refine pB ?_|refine pF ?_|refine pA ?_|refine kX ?_|refine kY ?_|refine gH ?_|refine gG ?_|refine kD ?_|refine gY ?_|refine kJ ?_|refine gX ?_|refine kL ?_|refine kE ?_|refine kK ?_|refine kC ?_|refine kI ?_|refine kO ?_|refine kP ?_|refine kN ?_|refine pJ ?_|refine pG ?_|refine gB ?_|refine gA ?_|refine pM ?_|refine gJ ?_|refine gN ?_|refine gU ?_|refine gQ ?_|refine gO ?_|refine gV ?_|refine pN ?_)|((with_reducible refine And.intro ?_ ?_);(first|(rw [sizeLine_eq];exact of_decide_eq_true rfl)|omega))|((with_reducible first|refine kZ ?_ ?_|refine kQ ?_ ?_|refine kS ?_ ?_|refine kB ?_ ?_|refine kM ?_ ?_|refine pH ?_ ?_|refine pK ?_ ?_);exact rfl)|((with_reducible first|refine kR ?_ ?_ ?_|refine kT ?_ ?_ ?_|apply kG);exact rfl;exact rfl)|((with_reducible apply gZ);assumption;exact rfl;decide +kernel;exact rfl)|((with_reducible apply kA);assumption;exact rfl;decide +kernel;exact rfl;(first|exact .type _|exact .builtin _);exact rfl)|((with_reducible refine gL ?_ ?_);decide)|((with_reducible refine gK ?_ ?_ ?_);decide;exact PyProof.noPylong_small (by decide))|((with_reducible refine gM ?_ ?_);(first|exact IntMulOk.of_right (intBits_le_64 (by omega) (by omega))|exact IntMulOk.of_left (intBits_le_64 (by omega) (by omega))))|((with_reducible refine kF ?_ ?_ ?_);exact rfl;exact fun _ => rfl)|((with_reducible refine gW ?_ ?_);exact fun _ => rfl)|with_reducible refine pO ?_))
  have := h _ rfl
  simpa using this


theorem prop_spec {W : Wd} {K : Frag} {C f fs fw fa : Addr} (F : FnIs W f ["trail", "clauses"] (fnBody pw 7) (fnScope pw 7)) (Fs : FnIs W fs ["clause", "values"] (fnBody pw 3) (fnScope pw 3)) (Fw : FnIs W fw ["lit", "values"] (fnBody pw 2) (fnScope pw 2)) (gs : W.mg "clause_state" = some (.ref fs)) (gw : W.mg "literal_value" = some (.ref fw)) (hlen : W.mg "len" = none) (hra : W.mg "range" = none)
    (Cl : ClsIs W K C ["n", "worths", "order", "marks"]) (Ma : MethIs W K C "assign" fa ["self", "lit"] (methBody pw 6 2) (methScope pw 6 2)) {lv n lc : Nat} {p : TrP} {cs : List (List Int)} {ws od mk : List Int} {σ : AH} {Q : AV → AH → Prop}
    {is : List Nat} (hT : TrAt C p n ws od mk σ) (hc : RowsP σ lc is cs) (hcS : lc ∉ p.S) (hciS : ∀ i ∈ is, i ∉ p.S) (hO : TrOk n ws od) (hn : n ≤ 1000) (hok : okCls n cs) (hcl : ∀ c ∈ cs, c.length ≤ 100000)
    (h : ∀ σ', TrAt C p n (propM cs (n + 1) ws od).2.1 (propM cs (n + 1) ws od).2.2 mk σ' → Fx p.S σ σ' → Q (.bool (propM cs (n + 1) ws od).1) σ') :
    TCode W (lv + 3) (.stat (.ref f)) [.ref p.t, .ref lc] Q σ := by
  obtain ⟨hc1, hc2⟩ := hc
  generalize hP : propM cs (n + 1) ws od = P at h
  refine code_fn F rfl ?_
  refine kW ?_
  refine ts_for_range rfl rfl ?_
  repeat (first|with_reducible refine kW ?_|(first|with_reducible (first|refine pB ?_|refine pF ?_|refine pA ?_|refine kX ?_|refine kY ?_|refine gH ?_|refine gG ?_|refine kD ?_|refine gY ?_|refine kJ ?_|refine gX ?_|refine kL ?_|refine kE ?_|refine kK ?_|refine kC ?_|refine kI ?_|refine kO ?_|refine kP ?_|refine kN ?_|refine pJ ?_|refine pG ?_|refine gB ?_|refine gA ?_|refine pM ?_|refine gJ ?_|refine gN ?_|refine gU ?_|refine gQ ?_|refine gO ?_|refine gV ?_|refine pN ?_)|((with_reducible refine And.intro ?_ ?_);(first|(rw [sizeLine_eq];exact of_decide_eq_true rfl)|omega))|((with_reducible first|refine kZ ?_ ?_|refine kQ ?_ ?_|refine kS ?_ ?_|refine kB ?_ ?_|refine kM ?_ ?_|refine pH ?_ ?_|refine pK ?_ ?_);exact rfl)|((with_reducible first|refine kR ?_ ?_ ?_|refine kT ?_ ?_ ?_|apply kG);exact rfl;exact rfl)|((with_reducible apply gZ);assumption;exact rfl;decide +kernel;exact rfl)|((with_reducible apply kA);assumption;exact rfl;decide +kernel;exact rfl;(first|exact .type _|exact .builtin _);exact rfl)|((with_reducible refine gL ?_ ?_);decide)|((with_reducible refine gK ?_ ?_ ?_);decide;exact PyProof.noPylong_small (by decide))|((with_reducible refine gM ?_ ?_);(first|exact IntMulOk.of_right (intBits_le_64 (by omega) (by omega))|exact IntMulOk.of_left (intBits_le_64 (by omega) (by omega))))|((with_reducible refine kF ?_ ?_ ?_);exact rfl;exact fun _ => rfl)|((with_reducible refine gW ?_ ?_);exact fun _ => rfl)|with_reducible refine pO ?_))
  refine Cl.get hT.t hT.d rfl rfl rfl ?_
  repeat (first|with_reducible refine kW ?_|(first|with_reducible (first|refine pB ?_|refine pF ?_|refine pA ?_|refine kX ?_|refine kY ?_|refine gH ?_|refine gG ?_|refine kD ?_|refine gY ?_|refine kJ ?_|refine gX ?_|refine kL ?_|refine kE ?_|refine kK ?_|refine kC ?_|refine kI ?_|refine kO ?_|refine kP ?_|refine kN ?_|refine pJ ?_|refine pG ?_|refine gB ?_|refine gA ?_|refine pM ?_|refine gJ ?_|refine gN ?_|refine gU ?_|refine gQ ?_|refine gO ?_|refine gV ?_|refine pN ?_)|((with_reducible refine And.intro ?_ ?_);(first|(rw [sizeLine_eq];exact of_decide_eq_true rfl)|omega))|((with_reducible first|refine kZ ?_ ?_|refine kQ ?_ ?_|refine kS ?_ ?_|refine kB ?_ ?_|refine kM ?_ ?_|refine pH ?_ ?_|refine pK ?_ ?_);exact rfl)|((with_reducible first|refine kR ?_ ?_ ?_|refine kT ?_ ?_ ?_|apply kG);exact rfl;exact rfl)|((with_reducible apply gZ);assumption;exact rfl;decide +kernel;exact rfl)|((with_reducible apply kA);assumption;exact rfl;decide +kernel;exact rfl;(first|exact .type _|exact .builtin _);exact rfl)|((with_reducible refine gL ?_ ?_);decide)|((with_reducible refine gK ?_ ?_ ?_);decide;exact PyProof.noPylong_small (by decide))|((with_reducible refine gM ?_ ?_);(first|exact IntMulOk.of_right (intBits_le_64 (by omega) (by omega))|exact IntMulOk.of_left (intBits_le_64 (by omega) (by omega))))|((with_reducible refine kF ?_ ?_ ?_);exact rfl;exact fun _ => rfl)|((with_reducible refine gW ?_ ?_);exact fun _ => rfl)|with_reducible refine pO ?_))
  refine tcall_range1 ?_
  refine ⟨_, 0, (n : Int) + 1, 1, n + 1, fun i m' σ' => ∃ ws' od', LE [("trail", .ref p.t), ("clauses", .ref lc)] m' ∧ TrAt C p n ws' od' mk σ' ∧ Fx p.S σ σ' ∧ TrOk n ws' od' ∧ P = propM cs (n + 1 - i) ws' od', rfl, by simp, range_up (by (first|lia|omega)), ?_, ?_, ?_⟩
  · exact ⟨ws, od, by (repeat (first | exact LE.nil | refine LE.cons (by exact rfl) ?_)), hT.sub (by (repeat (first | exact Sub.refl _ | assumption | refine Sub.trans ?_ (Sub.snoc _ _)))), Fx.of (by (repeat (first | exact Sub.refl _ | assumption | refine Sub.trans ?_ (Sub.snoc _ _)))), hO, hP.symm⟩
  · rintro i m' σ' hi ⟨ws1, od1, le, hT1, hF1, hO1, heq⟩
    rw [show n + 1 - i = (n + 1 - (i + 1)) + 1 by (first|lia|omega), propM] at heq
    refine TA.forget le (ta_name rfl ?_)
    repeat (first|with_reducible refine kW ?_|(first|with_reducible (first|refine pB ?_|refine pF ?_|refine pA ?_|refine kX ?_|refine kY ?_|refine gH ?_|refine gG ?_|refine kD ?_|refine gY ?_|refine kJ ?_|refine gX ?_|refine kL ?_|refine kE ?_|refine kK ?_|refine kC ?_|refine kI ?_|refine kO ?_|refine kP ?_|refine kN ?_|refine pJ ?_|refine pG ?_|refine gB ?_|refine gA ?_|refine pM ?_|refine gJ ?_|refine gN ?_|refine gU ?_|refine gQ ?_|refine gO ?_|refine gV ?_|refine pN ?_)|((with_reducible refine And.intro ?_ ?_);(first|(rw [sizeLine_eq];exact of_decide_eq_true rfl)|omega))|((with_reducible first|refine kZ ?_ ?_|refine kQ ?_ ?_|refine kS ?_ ?_|refine kB ?_ ?_|refine kM ?_ ?_|refine pH ?_ ?_|refine pK ?_ ?_);exact rfl)|((with_reducible first|refine kR ?_ ?_ ?_|refine kT ?_ ?_ ?_|apply kG);exact rfl;exact rfl)|((with_reducible apply gZ);assumption;exact rfl;decide +kernel;exact rfl)|((with_reducible apply kA);assumption;exact rfl;decide +kernel;exact rfl;(first|exact .type _|exact .builtin _);exact rfl)|((with_reducible refine gL ?_ ?_);decide)|((with_reducible refine gK ?_ ?_ ?_);decide;exact PyProof.noPylong_small (by decide))|((with_reducible refine gM ?_ ?_);(first|exact IntMulOk.of_right (intBits_le_64 (by omega) (by omega))|exact IntMulOk.of_left (intBits_le_64 (by omega) (by omega))))|((with_reducible refine kF ?_ ?_ ?_);exact rfl;exact fun _ => rfl)|((with_reducible refine gW ?_ ?_);exact fun _ => rfl)|with_reducible refine pO ?_))
    refine ts_for_list rfl rfl ?_
    repeat (first|with_reducible refine kW ?_|(first|with_reducible (first|refine pB ?_|refine pF ?_|refine pA ?_|refine kX ?_|refine kY ?_|refine gH ?_|refine gG ?_|refine kD ?_|refine gY ?_|refine kJ ?_|refine gX ?_|refine kL ?_|refine kE ?_|refine kK ?_|refine kC ?_|refine kI ?_|refine kO ?_|refine kP ?_|refine kN ?_|refine pJ ?_|refine pG ?_|refine gB ?_|refine gA ?_|refine pM ?_|refine gJ ?_|refine gN ?_|refine gU ?_|refine gQ ?_|refine gO ?_|refine gV ?_|refine pN ?_)|((with_reducible refine And.intro ?_ ?_);(first|(rw [sizeLine_eq];exact of_decide_eq_true rfl)|omega))|((with_reducible first|refine kZ ?_ ?_|refine kQ ?_ ?_|refine kS ?_ ?_|refine kB ?_ ?_|refine kM ?_ ?_|refine pH ?_ ?_|refine pK ?_ ?_);exact rfl)|((with_reducible first|refine kR ?_ ?_ ?_|refine kT ?_ ?_ ?_|apply kG);exact rfl;exact rfl)|((with_reducible apply gZ);assumption;exact rfl;decide +kernel;exact rfl)|((with_reducible apply kA);assumption;exact rfl;decide +kernel;exact rfl;(first|exact .type _|exact .builtin _);exact rfl)|((with_reducible refine gL ?_ ?_);decide)|((with_reducible refine gK ?_ ?_ ?_);decide;exact PyProof.noPylong_small (by decide))|((with_reducible refine gM ?_ ?_);(first|exact IntMulOk.of_right (intBits_le_64 (by omega) (by omega))|exact IntMulOk.of_left (intBits_le_64 (by omega) (by omega))))|((with_reducible refine kF ?_ ?_ ?_);exact rfl;exact fun _ => rfl)|((with_reducible refine gW ?_ ?_);exact fun _ => rfl)|with_reducible refine pO ?_))
    refine ⟨_, _, fun j m' σ' => ∃ ws' od' mv, LE [("trail", .ref p.t), ("clauses", .ref lc), ("moved", .bool mv)] m' ∧ TrAt C p n ws' od' mk σ' ∧ Fx p.S σ σ' ∧ TrOk n ws' od' ∧ passM cs ws1 od1 false = passM (cs.drop j) ws' od' mv, rfl, ⟨ws1, od1, false, by (repeat (first | exact LE.nil | refine LE.cons (by exact rfl) ?_)), hT1, hF1, hO1, by simp⟩, fun j m' σ' _ ⟨_, _, _, _, _, q, _⟩ => q _ _ hcS hc1, ?_, ?_⟩
    · rintro j x m2 σ2 hx ⟨ws2, od2, mv, le2, hT2, hF2, hO2, heq2⟩
      rw [List.getElem?_map] at hx
      obtain ⟨ic, hic, rfl⟩ := Option.map_eq_some_iff.mp hx
      obtain ⟨c, hcj, -, hcr⟩ := hc2.geti hic
      have hjl : j < cs.length := (List.getElem?_eq_some_iff.mp hcj).1
      have hcc : c ∈ cs := List.mem_of_getElem? hcj
      have hcr2 := hF2 _ _ (hciS ic (List.mem_of_getElem? hic)) hcr
      have hdr : cs.drop j = c :: cs.drop (j + 1) := by
        rw [List.drop_eq_getElem_cons hjl]; congr 1; exact (List.getElem?_eq_some_iff.mp hcj).2
      rw [hdr, passM] at heq2
      refine TA.forget le2 (ta_name rfl ?_)
      repeat (first|with_reducible refine kW ?_|(first|with_reducible (first|refine pB ?_|refine pF ?_|refine pA ?_|refine kX ?_|refine kY ?_|refine gH ?_|refine gG ?_|refine kD ?_|refine gY ?_|refine kJ ?_|refine gX ?_|refine kL ?_|refine kE ?_|refine kK ?_|refine kC ?_|refine kI ?_|refine kO ?_|refine kP ?_|refine kN ?_|refine pJ ?_|refine pG ?_|refine gB ?_|refine gA ?_|refine pM ?_|refine gJ ?_|refine gN ?_|refine gU ?_|refine gQ ?_|refine gO ?_|refine gV ?_|refine pN ?_)|((with_reducible refine And.intro ?_ ?_);(first|(rw [sizeLine_eq];exact of_decide_eq_true rfl)|omega))|((with_reducible first|refine kZ ?_ ?_|refine kQ ?_ ?_|refine kS ?_ ?_|refine kB ?_ ?_|refine kM ?_ ?_|refine pH ?_ ?_|refine pK ?_ ?_);exact rfl)|((with_reducible first|refine kR ?_ ?_ ?_|refine kT ?_ ?_ ?_|apply kG);exact rfl;exact rfl)|((with_reducible apply gZ);assumption;exact rfl;decide +kernel;exact rfl)|((with_reducible apply kA);assumption;exact rfl;decide +kernel;exact rfl;(first|exact .type _|exact .builtin _);exact rfl)|((with_reducible refine gL ?_ ?_);decide)|((with_reducible refine gK ?_ ?_ ?_);decide;exact PyProof.noPylong_small (by decide))|((with_reducible refine gM ?_ ?_);(first|exact IntMulOk.of_right (intBits_le_64 (by omega) (by omega))|exact IntMulOk.of_left (intBits_le_64 (by omega) (by omega))))|((with_reducible refine kF ?_ ?_ ?_);exact rfl;exact fun _ => rfl)|((with_reducible refine gW ?_ ?_);exact fun _ => rfl)|with_reducible refine pO ?_))
      refine te_callG gs rfl Fs.keeps rfl ?_
      repeat (first|with_reducible refine kW ?_|(first|with_reducible (first|refine pB ?_|refine pF ?_|refine pA ?_|refine kX ?_|refine kY ?_|refine gH ?_|refine gG ?_|refine kD ?_|refine gY ?_|refine kJ ?_|refine gX ?_|refine kL ?_|refine kE ?_|refine kK ?_|refine kC ?_|refine kI ?_|refine kO ?_|refine kP ?_|refine kN ?_|refine pJ ?_|refine pG ?_|refine gB ?_|refine gA ?_|refine pM ?_|refine gJ ?_|refine gN ?_|refine gU ?_|refine gQ ?_|refine gO ?_|refine gV ?_|refine pN ?_)|((with_reducible refine And.intro ?_ ?_);(first|(rw [sizeLine_eq];exact of_decide_eq_true rfl)|omega))|((with_reducible first|refine kZ ?_ ?_|refine kQ ?_ ?_|refine kS ?_ ?_|refine kB ?_ ?_|refine kM ?_ ?_|refine pH ?_ ?_|refine pK ?_ ?_);exact rfl)|((with_reducible first|refine kR ?_ ?_ ?_|refine kT ?_ ?_ ?_|apply kG);exact rfl;exact rfl)|((with_reducible apply gZ);assumption;exact rfl;decide +kernel;exact rfl)|((with_reducible apply kA);assumption;exact rfl;decide +kernel;exact rfl;(first|exact .type _|exact .builtin _);exact rfl)|((with_reducible refine gL ?_ ?_);decide)|((with_reducible refine gK ?_ ?_ ?_);decide;exact PyProof.noPylong_small (by decide))|((with_reducible refine gM ?_ ?_);(first|exact IntMulOk.of_right (intBits_le_64 (by omega) (by omega))|exact IntMulOk.of_left (intBits_le_64 (by omega) (by omega))))|((with_reducible refine kF ?_ ?_ ?_);exact rfl;exact fun _ => rfl)|((with_reducible refine gW ?_ ?_);exact fun _ => rfl)|with_reducible refine pO ?_))
      refine Cl.get hT2.t hT2.d rfl rfl rfl ?_
      repeat (first|with_reducible refine kW ?_|(first|with_reducible (first|refine pB ?_|refine pF ?_|refine pA ?_|refine kX ?_|refine kY ?_|refine gH ?_|refine gG ?_|refine kD ?_|refine gY ?_|refine kJ ?_|refine gX ?_|refine kL ?_|refine kE ?_|refine kK ?_|refine kC ?_|refine kI ?_|refine kO ?_|refine kP ?_|refine kN ?_|refine pJ ?_|refine pG ?_|refine gB ?_|refine gA ?_|refine pM ?_|refine gJ ?_|refine gN ?_|refine gU ?_|refine gQ ?_|refine gO ?_|refine gV ?_|refine pN ?_)|((with_reducible refine And.intro ?_ ?_);(first|(rw [sizeLine_eq];exact of_decide_eq_true rfl)|omega))|((with_reducible first|refine kZ ?_ ?_|refine kQ ?_ ?_|refine kS ?_ ?_|refine kB ?_ ?_|refine kM ?_ ?_|refine pH ?_ ?_|refine pK ?_ ?_);exact rfl)|((with_reducible first|refine kR ?_ ?_ ?_|refine kT ?_ ?_ ?_|apply kG);exact rfl;exact rfl)|((with_reducible apply gZ);assumption;exact rfl;decide +kernel;exact rfl)|((with_reducible apply kA);assumption;exact rfl;decide +kernel;exact rfl;(first|exact .type _|exact .builtin _);exact rfl)|((with_reducible refine gL ?_ ?_);decide)|((with_reducible refine gK ?_ ?_ ?_);decide;exact PyProof.noPylong_small (by decide))|((with_reducible refine gM ?_ ?_);(first|exact IntMulOk.of_right (intBits_le_64 (by omega) (by omega))|exact IntMulOk.of_left (intBits_le_64 (by omega) (by omega))))|((with_reducible refine kF ?_ ?_ ?_);exact rfl;exact fun _ => rfl)|((with_reducible refine gW ?_ ?_);exact fun _ => rfl)|with_reducible refine pO ?_))
      refine (cs_spec Fs Fw gw hlen hcr2 hT2.w hO2.len hn (fun l hl => (hok c hcc l hl).1) (hcl c hcc) fun t σ3 sub3 ht3 => ?_).call
      have hT3 := hT2.sub sub3
      have hF3 := hF2.trans (Fx.of (S := p.S) sub3)
      refine ta_tuple rfl ht3 rfl ?_
      refine gG ?_
      refine ta_name rfl ?_
      refine gG ?_
      refine ta_name rfl ?_
      refine gH ?_
      cases hcs : cstate c ws2 with
      | fls =>
        rw [hcs] at heq2
        dsimp only at heq2
        rw [heq2] at heq
        dsimp only at heq
        repeat (first|with_reducible refine kW ?_|(first|with_reducible (first|refine pB ?_|refine pF ?_|refine pA ?_|refine kX ?_|refine kY ?_|refine gH ?_|refine gG ?_|refine kD ?_|refine gY ?_|refine kJ ?_|refine gX ?_|refine kL ?_|refine kE ?_|refine kK ?_|refine kC ?_|refine kI ?_|refine kO ?_|refine kP ?_|refine kN ?_|refine pJ ?_|refine pG ?_|refine gB ?_|refine gA ?_|refine pM ?_|refine gJ ?_|refine gN ?_|refine gU ?_|refine gQ ?_|refine gO ?_|refine gV ?_|refine pN ?_)|((with_reducible refine And.intro ?_ ?_);(first|(rw [sizeLine_eq];exact of_decide_eq_true rfl)|omega))|((with_reducible first|refine kZ ?_ ?_|refine kQ ?_ ?_|refine kS ?_ ?_|refine kB ?_ ?_|refine kM ?_ ?_|refine pH ?_ ?_|refine pK ?_ ?_);exact rfl)|((with_reducible first|refine kR ?_ ?_ ?_|refine kT ?_ ?_ ?_|apply kG);exact rfl;exact rfl)|((with_reducible apply gZ);assumption;exact rfl;decide +kernel;exact rfl)|((with_reducible apply kA);assumption;exact rfl;decide +kernel;exact rfl;(first|exact .type _|exact .builtin _);exact rfl)|((with_reducible refine gL ?_ ?_);decide)|((with_reducible refine gK ?_ ?_ ?_);decide;exact PyProof.noPylong_small (by decide))|((with_reducible refine gM ?_ ?_);(first|exact IntMulOk.of_right (intBits_le_64 (by omega) (by omega))|exact IntMulOk.of_left (intBits_le_64 (by omega) (by omega))))|((with_reducible refine kF ?_ ?_ ?_);exact rfl;exact fun _ => rfl)|((with_reducible refine gW ?_ ?_);exact fun _ => rfl)|with_reducible refine pO ?_))
        refine tcmp_eqS (cs_ok _) ok_false ?_
        rw [cs_false]
        simp only [csF, csU]
        repeat (first|with_reducible refine kW ?_|(first|with_reducible (first|refine pB ?_|refine pF ?_|refine pA ?_|refine kX ?_|refine kY ?_|refine gH ?_|refine gG ?_|refine kD ?_|refine gY ?_|refine kJ ?_|refine gX ?_|refine kL ?_|refine kE ?_|refine kK ?_|refine kC ?_|refine kI ?_|refine kO ?_|refine kP ?_|refine kN ?_|refine pJ ?_|refine pG ?_|refine gB ?_|refine gA ?_|refine pM ?_|refine gJ ?_|refine gN ?_|refine gU ?_|refine gQ ?_|refine gO ?_|refine gV ?_|refine pN ?_)|((with_reducible refine And.intro ?_ ?_);(first|(rw [sizeLine_eq];exact of_decide_eq_true rfl)|omega))|((with_reducible first|refine kZ ?_ ?_|refine kQ ?_ ?_|refine kS ?_ ?_|refine kB ?_ ?_|refine kM ?_ ?_|refine pH ?_ ?_|refine pK ?_ ?_);exact rfl)|((with_reducible first|refine kR ?_ ?_ ?_|refine kT ?_ ?_ ?_|apply kG);exact rfl;exact rfl)|((with_reducible apply gZ);assumption;exact rfl;decide +kernel;exact rfl)|((with_reducible apply kA);assumption;exact rfl;decide +kernel;exact rfl;(first|exact .type _|exact .builtin _);exact rfl)|((with_reducible refine gL ?_ ?_);decide)|((with_reducible refine gK ?_ ?_ ?_);decide;exact PyProof.noPylong_small (by decide))|((with_reducible refine gM ?_ ?_);(first|exact IntMulOk.of_right (intBits_le_64 (by omega) (by omega))|exact IntMulOk.of_left (intBits_le_64 (by omega) (by omega))))|((with_reducible refine kF ?_ ?_ ?_);exact rfl;exact fun _ => rfl)|((with_reducible refine gW ?_ ?_);exact fun _ => rfl)|with_reducible refine pO ?_))
        rw [if_pos rfl]
        rw [heq] at h
        repeat (first|with_reducible refine kW ?_|(first|with_reducible (first|refine pB ?_|refine pF ?_|refine pA ?_|refine kX ?_|refine kY ?_|refine gH ?_|refine gG ?_|refine kD ?_|refine gY ?_|refine kJ ?_|refine gX ?_|refine kL ?_|refine kE ?_|refine kK ?_|refine kC ?_|refine kI ?_|refine kO ?_|refine kP ?_|refine kN ?_|refine pJ ?_|refine pG ?_|refine gB ?_|refine gA ?_|refine pM ?_|refine gJ ?_|refine gN ?_|refine gU ?_|refine gQ ?_|refine gO ?_|refine gV ?_|refine pN ?_)|((with_reducible refine And.intro ?_ ?_);(first|(rw [sizeLine_eq];exact of_decide_eq_true rfl)|omega))|((with_reducible first|refine kZ ?_ ?_|refine kQ ?_ ?_|refine kS ?_ ?_|refine kB ?_ ?_|refine kM ?_ ?_|refine pH ?_ ?_|refine pK ?_ ?_);exact rfl)|((with_reducible first|refine kR ?_ ?_ ?_|refine kT ?_ ?_ ?_|apply kG);exact rfl;exact rfl)|((with_reducible apply gZ);assumption;exact rfl;decide +kernel;exact rfl)|((with_reducible apply kA);assumption;exact rfl;decide +kernel;exact rfl;(first|exact .type _|exact .builtin _);exact rfl)|((with_reducible refine gL ?_ ?_);decide)|((with_reducible refine gK ?_ ?_ ?_);decide;exact PyProof.noPylong_small (by decide))|((with_reducible refine gM ?_ ?_);(first|exact IntMulOk.of_right (intBits_le_64 (by omega) (by omega))|exact IntMulOk.of_left (intBits_le_64 (by omega) (by omega))))|((with_reducible refine kF ?_ ?_ ?_);exact rfl;exact fun _ => rfl)|((with_reducible refine gW ?_ ?_);exact fun _ => rfl)|with_reducible refine pO ?_))
        exact h _ hT3 hF3
      | unit l =>
        rw [hcs] at heq2
        dsimp only at heq2
        obtain ⟨hlc, hlz⟩ := cstate_unit hcs
        obtain ⟨hlR, hl0⟩ := hok c hcc l hlc
        have hO4 := hO2.snoc hlR hl0 (wv_zero hlR (by rw [← hO2.e]; exact hlz))
        have hol := hO2.ok.len
        repeat (first|with_reducible refine kW ?_|(first|with_reducible (first|refine pB ?_|refine pF ?_|refine pA ?_|refine kX ?_|refine kY ?_|refine gH ?_|refine gG ?_|refine kD ?_|refine gY ?_|refine kJ ?_|refine gX ?_|refine kL ?_|refine kE ?_|refine kK ?_|refine kC ?_|refine kI ?_|refine kO ?_|refine kP ?_|refine kN ?_|refine pJ ?_|refine pG ?_|refine gB ?_|refine gA ?_|refine pM ?_|refine gJ ?_|refine gN ?_|refine gU ?_|refine gQ ?_|refine gO ?_|refine gV ?_|refine pN ?_)|((with_reducible refine And.intro ?_ ?_);(first|(rw [sizeLine_eq];exact of_decide_eq_true rfl)|omega))|((with_reducible first|refine kZ ?_ ?_|refine kQ ?_ ?_|refine kS ?_ ?_|refine kB ?_ ?_|refine kM ?_ ?_|refine pH ?_ ?_|refine pK ?_ ?_);exact rfl)|((with_reducible first|refine kR ?_ ?_ ?_|refine kT ?_ ?_ ?_|apply kG);exact rfl;exact rfl)|((with_reducible apply gZ);assumption;exact rfl;decide +kernel;exact rfl)|((with_reducible apply kA);assumption;exact rfl;decide +kernel;exact rfl;(first|exact .type _|exact .builtin _);exact rfl)|((with_reducible refine gL ?_ ?_);decide)|((with_reducible refine gK ?_ ?_ ?_);decide;exact PyProof.noPylong_small (by decide))|((with_reducible refine gM ?_ ?_);(first|exact IntMulOk.of_right (intBits_le_64 (by omega) (by omega))|exact IntMulOk.of_left (intBits_le_64 (by omega) (by omega))))|((with_reducible refine kF ?_ ?_ ?_);exact rfl;exact fun _ => rfl)|((with_reducible refine gW ?_ ?_);exact fun _ => rfl)|with_reducible refine pO ?_))
        refine tcmp_eqS (cs_ok _) ok_false ?_
        rw [cs_false]
        simp only [csF, csU]
        repeat (first|with_reducible refine kW ?_|(first|with_reducible (first|refine pB ?_|refine pF ?_|refine pA ?_|refine kX ?_|refine kY ?_|refine gH ?_|refine gG ?_|refine kD ?_|refine gY ?_|refine kJ ?_|refine gX ?_|refine kL ?_|refine kE ?_|refine kK ?_|refine kC ?_|refine kI ?_|refine kO ?_|refine kP ?_|refine kN ?_|refine pJ ?_|refine pG ?_|refine gB ?_|refine gA ?_|refine pM ?_|refine gJ ?_|refine gN ?_|refine gU ?_|refine gQ ?_|refine gO ?_|refine gV ?_|refine pN ?_)|((with_reducible refine And.intro ?_ ?_);(first|(rw [sizeLine_eq];exact of_decide_eq_true rfl)|omega))|((with_reducible first|refine kZ ?_ ?_|refine kQ ?_ ?_|refine kS ?_ ?_|refine kB ?_ ?_|refine kM ?_ ?_|refine pH ?_ ?_|refine pK ?_ ?_);exact rfl)|((with_reducible first|refine kR ?_ ?_ ?_|refine kT ?_ ?_ ?_|apply kG);exact rfl;exact rfl)|((with_reducible apply gZ);assumption;exact rfl;decide +kernel;exact rfl)|((with_reducible apply kA);assumption;exact rfl;decide +kernel;exact rfl;(first|exact .type _|exact .builtin _);exact rfl)|((with_reducible refine gL ?_ ?_);decide)|((with_reducible refine gK ?_ ?_ ?_);decide;exact PyProof.noPylong_small (by decide))|((with_reducible refine gM ?_ ?_);(first|exact IntMulOk.of_right (intBits_le_64 (by omega) (by omega))|exact IntMulOk.of_left (intBits_le_64 (by omega) (by omega))))|((with_reducible refine kF ?_ ?_ ?_);exact rfl;exact fun _ => rfl)|((with_reducible refine gW ?_ ?_);exact fun _ => rfl)|with_reducible refine pO ?_))
        rw [if_neg (by decide)]
        repeat (first|with_reducible refine kW ?_|(first|with_reducible (first|refine pB ?_|refine pF ?_|refine pA ?_|refine kX ?_|refine kY ?_|refine gH ?_|refine gG ?_|refine kD ?_|refine gY ?_|refine kJ ?_|refine gX ?_|refine kL ?_|refine kE ?_|refine kK ?_|refine kC ?_|refine kI ?_|refine kO ?_|refine kP ?_|refine kN ?_|refine pJ ?_|refine pG ?_|refine gB ?_|refine gA ?_|refine pM ?_|refine gJ ?_|refine gN ?_|refine gU ?_|refine gQ ?_|refine gO ?_|refine gV ?_|refine pN ?_)|((with_reducible refine And.intro ?_ ?_);(first|(rw [sizeLine_eq];exact of_decide_eq_true rfl)|omega))|((with_reducible first|refine kZ ?_ ?_|refine kQ ?_ ?_|refine kS ?_ ?_|refine kB ?_ ?_|refine kM ?_ ?_|refine pH ?_ ?_|refine pK ?_ ?_);exact rfl)|((with_reducible first|refine kR ?_ ?_ ?_|refine kT ?_ ?_ ?_|apply kG);exact rfl;exact rfl)|((with_reducible apply gZ);assumption;exact rfl;decide +kernel;exact rfl)|((with_reducible apply kA);assumption;exact rfl;decide +kernel;exact rfl;(first|exact .type _|exact .builtin _);exact rfl)|((with_reducible refine gL ?_ ?_);decide)|((with_reducible refine gK ?_ ?_ ?_);decide;exact PyProof.noPylong_small (by decide))|((with_reducible refine gM ?_ ?_);(first|exact IntMulOk.of_right (intBits_le_64 (by omega) (by omega))|exact IntMulOk.of_left (intBits_le_64 (by omega) (by omega))))|((with_reducible refine kF ?_ ?_ ?_);exact rfl;exact fun _ => rfl)|((with_reducible refine gW ?_ ?_);exact fun _ => rfl)|with_reducible refine pO ?_))
        refine tcmp_eqS (cs_ok _) ok_unit ?_
        rw [cs_unit]
        simp only [csF, csU]
        repeat (first|with_reducible refine kW ?_|(first|with_reducible (first|refine pB ?_|refine pF ?_|refine pA ?_|refine kX ?_|refine kY ?_|refine gH ?_|refine gG ?_|refine kD ?_|refine gY ?_|refine kJ ?_|refine gX ?_|refine kL ?_|refine kE ?_|refine kK ?_|refine kC ?_|refine kI ?_|refine kO ?_|refine kP ?_|refine kN ?_|refine pJ ?_|refine pG ?_|refine gB ?_|refine gA ?_|refine pM ?_|refine gJ ?_|refine gN ?_|refine gU ?_|refine gQ ?_|refine gO ?_|refine gV ?_|refine pN ?_)|((with_reducible refine And.intro ?_ ?_);(first|(rw [sizeLine_eq];exact of_decide_eq_true rfl)|omega))|((with_reducible first|refine kZ ?_ ?_|refine kQ ?_ ?_|refine kS ?_ ?_|refine kB ?_ ?_|refine kM ?_ ?_|refine pH ?_ ?_|refine pK ?_ ?_);exact rfl)|((with_reducible first|refine kR ?_ ?_ ?_|refine kT ?_ ?_ ?_|apply kG);exact rfl;exact rfl)|((with_reducible apply gZ);assumption;exact rfl;decide +kernel;exact rfl)|((with_reducible apply kA);assumption;exact rfl;decide +kernel;exact rfl;(first|exact .type _|exact .builtin _);exact rfl)|((with_reducible refine gL ?_ ?_);decide)|((with_reducible refine gK ?_ ?_ ?_);decide;exact PyProof.noPylong_small (by decide))|((with_reducible refine gM ?_ ?_);(first|exact IntMulOk.of_right (intBits_le_64 (by omega) (by omega))|exact IntMulOk.of_left (intBits_le_64 (by omega) (by omega))))|((with_reducible refine kF ?_ ?_ ?_);exact rfl;exact fun _ => rfl)|((with_reducible refine gW ?_ ?_);exact fun _ => rfl)|with_reducible refine pO ?_))
        rw [if_pos rfl]
        repeat (first|with_reducible refine kW ?_|(first|with_reducible (first|refine pB ?_|refine pF ?_|refine pA ?_|refine kX ?_|refine kY ?_|refine gH ?_|refine gG ?_|refine kD ?_|refine gY ?_|refine kJ ?_|refine gX ?_|refine kL ?_|refine kE ?_|refine kK ?_|refine kC ?_|refine kI ?_|refine kO ?_|refine kP ?_|refine kN ?_|refine pJ ?_|refine pG ?_|refine gB ?_|refine gA ?_|refine pM ?_|refine gJ ?_|refine gN ?_|refine gU ?_|refine gQ ?_|refine gO ?_|refine gV ?_|refine pN ?_)|((with_reducible refine And.intro ?_ ?_);(first|(rw [sizeLine_eq];exact of_decide_eq_true rfl)|omega))|((with_reducible first|refine kZ ?_ ?_|refine kQ ?_ ?_|refine kS ?_ ?_|refine kB ?_ ?_|refine kM ?_ ?_|refine pH ?_ ?_|refine pK ?_ ?_);exact rfl)|((with_reducible first|refine kR ?_ ?_ ?_|refine kT ?_ ?_ ?_|apply kG);exact rfl;exact rfl)|((with_reducible apply gZ);assumption;exact rfl;decide +kernel;exact rfl)|((with_reducible apply kA);assumption;exact rfl;decide +kernel;exact rfl;(first|exact .type _|exact .builtin _);exact rfl)|((with_reducible refine gL ?_ ?_);decide)|((with_reducible refine gK ?_ ?_ ?_);decide;exact PyProof.noPylong_small (by decide))|((with_reducible refine gM ?_ ?_);(first|exact IntMulOk.of_right (intBits_le_64 (by omega) (by omega))|exact IntMulOk.of_left (intBits_le_64 (by omega) (by omega))))|((with_reducible refine kF ?_ ?_ ?_);exact rfl;exact fun _ => rfl)|((with_reducible refine gW ?_ ?_);exact fun _ => rfl)|with_reducible refine pO ?_))
        refine Cl.meth Ma hT3.t hT3.d rfl ?_
        repeat (first|with_reducible refine kW ?_|(first|with_reducible (first|refine pB ?_|refine pF ?_|refine pA ?_|refine kX ?_|refine kY ?_|refine gH ?_|refine gG ?_|refine kD ?_|refine gY ?_|refine kJ ?_|refine gX ?_|refine kL ?_|refine kE ?_|refine kK ?_|refine kC ?_|refine kI ?_|refine kO ?_|refine kP ?_|refine kN ?_|refine pJ ?_|refine pG ?_|refine gB ?_|refine gA ?_|refine pM ?_|refine gJ ?_|refine gN ?_|refine gU ?_|refine gQ ?_|refine gO ?_|refine gV ?_|refine pN ?_)|((with_reducible refine And.intro ?_ ?_);(first|(rw [sizeLine_eq];exact of_decide_eq_true rfl)|omega))|((with_reducible first|refine kZ ?_ ?_|refine kQ ?_ ?_|refine kS ?_ ?_|refine kB ?_ ?_|refine kM ?_ ?_|refine pH ?_ ?_|refine pK ?_ ?_);exact rfl)|((with_reducible first|refine kR ?_ ?_ ?_|refine kT ?_ ?_ ?_|apply kG);exact rfl;exact rfl)|((with_reducible apply gZ);assumption;exact rfl;decide +kernel;exact rfl)|((with_reducible apply kA);assumption;exact rfl;decide +kernel;exact rfl;(first|exact .type _|exact .builtin _);exact rfl)|((with_reducible refine gL ?_ ?_);decide)|((with_reducible refine gK ?_ ?_ ?_);decide;exact PyProof.noPylong_small (by decide))|((with_reducible refine gM ?_ ?_);(first|exact IntMulOk.of_right (intBits_le_64 (by omega) (by omega))|exact IntMulOk.of_left (intBits_le_64 (by omega) (by omega))))|((with_reducible refine kF ?_ ?_ ?_);exact rfl;exact fun _ => rfl)|((with_reducible refine gW ?_ ?_);exact fun _ => rfl)|with_reducible refine pO ?_))
        refine (assign_spec Cl Ma hT3 hO2.len hn (by (first|lia|omega)) hlR fun σ4 hT4 hF4 => ?_).call
        repeat (first|with_reducible refine kW ?_|(first|with_reducible (first|refine pB ?_|refine pF ?_|refine pA ?_|refine kX ?_|refine kY ?_|refine gH ?_|refine gG ?_|refine kD ?_|refine gY ?_|refine kJ ?_|refine gX ?_|refine kL ?_|refine kE ?_|refine kK ?_|refine kC ?_|refine kI ?_|refine kO ?_|refine kP ?_|refine kN ?_|refine pJ ?_|refine pG ?_|refine gB ?_|refine gA ?_|refine pM ?_|refine gJ ?_|refine gN ?_|refine gU ?_|refine gQ ?_|refine gO ?_|refine gV ?_|refine pN ?_)|((with_reducible refine And.intro ?_ ?_);(first|(rw [sizeLine_eq];exact of_decide_eq_true rfl)|omega))|((with_reducible first|refine kZ ?_ ?_|refine kQ ?_ ?_|refine kS ?_ ?_|refine kB ?_ ?_|refine kM ?_ ?_|refine pH ?_ ?_|refine pK ?_ ?_);exact rfl)|((with_reducible first|refine kR ?_ ?_ ?_|refine kT ?_ ?_ ?_|apply kG);exact rfl;exact rfl)|((with_reducible apply gZ);assumption;exact rfl;decide +kernel;exact rfl)|((with_reducible apply kA);assumption;exact rfl;decide +kernel;exact rfl;(first|exact .type _|exact .builtin _);exact rfl)|((with_reducible refine gL ?_ ?_);decide)|((with_reducible refine gK ?_ ?_ ?_);decide;exact PyProof.noPylong_small (by decide))|((with_reducible refine gM ?_ ?_);(first|exact IntMulOk.of_right (intBits_le_64 (by omega) (by omega))|exact IntMulOk.of_left (intBits_le_64 (by omega) (by omega))))|((with_reducible refine kF ?_ ?_ ?_);exact rfl;exact fun _ => rfl)|((with_reducible refine gW ?_ ?_);exact fun _ => rfl)|with_reducible refine pO ?_))
        exact ⟨_, _, true, by (repeat (first | exact LE.nil | refine LE.cons (by exact rfl) ?_)), hT4, hF3.trans hF4, hO4, heq2⟩
      | tru =>
        rw [hcs] at heq2
        dsimp only at heq2
        repeat (first|with_reducible refine kW ?_|(first|with_reducible (first|refine pB ?_|refine pF ?_|refine pA ?_|refine kX ?_|refine kY ?_|refine gH ?_|refine gG ?_|refine kD ?_|refine gY ?_|refine kJ ?_|refine gX ?_|refine kL ?_|refine kE ?_|refine kK ?_|refine kC ?_|refine kI ?_|refine kO ?_|refine kP ?_|refine kN ?_|refine pJ ?_|refine pG ?_|refine gB ?_|refine gA ?_|refine pM ?_|refine gJ ?_|refine gN ?_|refine gU ?_|refine gQ ?_|refine gO ?_|refine gV ?_|refine pN ?_)|((with_reducible refine And.intro ?_ ?_);(first|(rw [sizeLine_eq];exact of_decide_eq_true rfl)|omega))|((with_reducible first|refine kZ ?_ ?_|refine kQ ?_ ?_|refine kS ?_ ?_|refine kB ?_ ?_|refine kM ?_ ?_|refine pH ?_ ?_|refine pK ?_ ?_);exact rfl)|((with_reducible first|refine kR ?_ ?_ ?_|refine kT ?_ ?_ ?_|apply kG);exact rfl;exact rfl)|((with_reducible apply gZ);assumption;exact rfl;decide +kernel;exact rfl)|((with_reducible apply kA);assumption;exact rfl;decide +kernel;exact rfl;(first|exact .type _|exact .builtin _);exact rfl)|((with_reducible refine gL ?_ ?_);decide)|((with_reducible refine gK ?_ ?_ ?_);decide;exact PyProof.noPylong_small (by decide))|((with_reducible refine gM ?_ ?_);(first|exact IntMulOk.of_right (intBits_le_64 (by omega) (by omega))|exact IntMulOk.of_left (intBits_le_64 (by omega) (by omega))))|((with_reducible refine kF ?_ ?_ ?_);exact rfl;exact fun _ => rfl)|((with_reducible refine gW ?_ ?_);exact fun _ => rfl)|with_reducible refine pO ?_))
        refine tcmp_eqS (cs_ok _) ok_false ?_
        rw [cs_false]
        simp only [csF, csU]
        repeat (first|with_reducible refine kW ?_|(first|with_reducible (first|refine pB ?_|refine pF ?_|refine pA ?_|refine kX ?_|refine kY ?_|refine gH ?_|refine gG ?_|refine kD ?_|refine gY ?_|refine kJ ?_|refine gX ?_|refine kL ?_|refine kE ?_|refine kK ?_|refine kC ?_|refine kI ?_|refine kO ?_|refine kP ?_|refine kN ?_|refine pJ ?_|refine pG ?_|refine gB ?_|refine gA ?_|refine pM ?_|refine gJ ?_|refine gN ?_|refine gU ?_|refine gQ ?_|refine gO ?_|refine gV ?_|refine pN ?_)|((with_reducible refine And.intro ?_ ?_);(first|(rw [sizeLine_eq];exact of_decide_eq_true rfl)|omega))|((with_reducible first|refine kZ ?_ ?_|refine kQ ?_ ?_|refine kS ?_ ?_|refine kB ?_ ?_|refine kM ?_ ?_|refine pH ?_ ?_|refine pK ?_ ?_);exact rfl)|((with_reducible first|refine kR ?_ ?_ ?_|refine kT ?_ ?_ ?_|apply kG);exact rfl;exact rfl)|((with_reducible apply gZ);assumption;exact rfl;decide +kernel;exact rfl)|((with_reducible apply kA);assumption;exact rfl;decide +kernel;exact rfl;(first|exact .type _|exact .builtin _);exact rfl)|((with_reducible refine gL ?_ ?_);decide)|((with_reducible refine gK ?_ ?_ ?_);decide;exact PyProof.noPylong_small (by decide))|((with_reducible refine gM ?_ ?_);(first|exact IntMulOk.of_right (intBits_le_64 (by omega) (by omega))|exact IntMulOk.of_left (intBits_le_64 (by omega) (by omega))))|((with_reducible refine kF ?_ ?_ ?_);exact rfl;exact fun _ => rfl)|((with_reducible refine gW ?_ ?_);exact fun _ => rfl)|with_reducible refine pO ?_))
        rw [if_neg (by decide)]
        repeat (first|with_reducible refine kW ?_|(first|with_reducible (first|refine pB ?_|refine pF ?_|refine pA ?_|refine kX ?_|refine kY ?_|refine gH ?_|refine gG ?_|refine kD ?_|refine gY ?_|refine kJ ?_|refine gX ?_|refine kL ?_|refine kE ?_|refine kK ?_|refine kC ?_|refine kI ?_|refine kO ?_|refine kP ?_|refine kN ?_|refine pJ ?_|refine pG ?_|refine gB ?_|refine gA ?_|refine pM ?_|refine gJ ?_|refine gN ?_|refine gU ?_|refine gQ ?_|refine gO ?_|refine gV ?_|refine pN ?_)|((with_reducible refine And.intro ?_ ?_);(first|(rw [sizeLine_eq];exact of_decide_eq_true rfl)|omega))|((with_reducible first|refine kZ ?_ ?_|refine kQ ?_ ?_|refine kS ?_ ?_|refine kB ?_ ?_|refine kM ?_ ?_|refine pH ?_ ?_|refine pK ?_ ?_);exact rfl)|((with_reducible first|refine kR ?_ ?_ ?_|refine kT ?_ ?_ ?_|apply kG);exact rfl;exact rfl)|((with_reducible apply gZ);assumption;exact rfl;decide +kernel;exact rfl)|((with_reducible apply kA);assumption;exact rfl;decide +kernel;exact rfl;(first|exact .type _|exact .builtin _);exact rfl)|((with_reducible refine gL ?_ ?_);decide)|((with_reducible refine gK ?_ ?_ ?_);decide;exact PyProof.noPylong_small (by decide))|((with_reducible refine gM ?_ ?_);(first|exact IntMulOk.of_right (intBits_le_64 (by omega) (by omega))|exact IntMulOk.of_left (intBits_le_64 (by omega) (by omega))))|((with_reducible refine kF ?_ ?_ ?_);exact rfl;exact fun _ => rfl)|((with_reducible refine gW ?_ ?_);exact fun _ => rfl)|with_reducible refine pO ?_))
        refine tcmp_eqS (cs_ok _) ok_unit ?_
        rw [cs_unit]
        simp only [csF, csU]
        repeat (first|with_reducible refine kW ?_|(first|with_reducible (first|refine pB ?_|refine pF ?_|refine pA ?_|refine kX ?_|refine kY ?_|refine gH ?_|refine gG ?_|refine kD ?_|refine gY ?_|refine kJ ?_|refine gX ?_|refine kL ?_|refine kE ?_|refine kK ?_|refine kC ?_|refine kI ?_|refine kO ?_|refine kP ?_|refine kN ?_|refine pJ ?_|refine pG ?_|refine gB ?_|refine gA ?_|refine pM ?_|refine gJ ?_|refine gN ?_|refine gU ?_|refine gQ ?_|refine gO ?_|refine gV ?_|refine pN ?_)|((with_reducible refine And.intro ?_ ?_);(first|(rw [sizeLine_eq];exact of_decide_eq_true rfl)|omega))|((with_reducible first|refine kZ ?_ ?_|refine kQ ?_ ?_|refine kS ?_ ?_|refine kB ?_ ?_|refine kM ?_ ?_|refine pH ?_ ?_|refine pK ?_ ?_);exact rfl)|((with_reducible first|refine kR ?_ ?_ ?_|refine kT ?_ ?_ ?_|apply kG);exact rfl;exact rfl)|((with_reducible apply gZ);assumption;exact rfl;decide +kernel;exact rfl)|((with_reducible apply kA);assumption;exact rfl;decide +kernel;exact rfl;(first|exact .type _|exact .builtin _);exact rfl)|((with_reducible refine gL ?_ ?_);decide)|((with_reducible refine gK ?_ ?_ ?_);decide;exact PyProof.noPylong_small (by decide))|((with_reducible refine gM ?_ ?_);(first|exact IntMulOk.of_right (intBits_le_64 (by omega) (by omega))|exact IntMulOk.of_left (intBits_le_64 (by omega) (by omega))))|((with_reducible refine kF ?_ ?_ ?_);exact rfl;exact fun _ => rfl)|((with_reducible refine gW ?_ ?_);exact fun _ => rfl)|with_reducible refine pO ?_))
        rw [if_neg (by decide)]
        repeat (first|with_reducible refine kW ?_|(first|with_reducible (first|refine pB ?_|refine pF ?_|refine pA ?_|refine kX ?_|refine kY ?_|refine gH ?_|refine gG ?_|refine kD ?_|refine gY ?_|refine kJ ?_|refine gX ?_|refine kL ?_|refine kE ?_|refine kK ?_|refine kC ?_|refine kI ?_|refine kO ?_|refine kP ?_|refine kN ?_|refine pJ ?_|refine pG ?_|refine gB ?_|refine gA ?_|refine pM ?_|refine gJ ?_|refine gN ?_|refine gU ?_|refine gQ ?_|refine gO ?_|refine gV ?_|refine pN ?_)|((with_reducible refine And.intro ?_ ?_);(first|(rw [sizeLine_eq];exact of_decide_eq_true rfl)|omega))|((with_reducible first|refine kZ ?_ ?_|refine kQ ?_ ?_|refine kS ?_ ?_|refine kB ?_ ?_|refine kM ?_ ?_|refine pH ?_ ?_|refine pK ?_ ?_);exact rfl)|((with_reducible first|refine kR ?_ ?_ ?_|refine kT ?_ ?_ ?_|apply kG);exact rfl;exact rfl)|((with_reducible apply gZ);assumption;exact rfl;decide +kernel;exact rfl)|((with_reducible apply kA);assumption;exact rfl;decide +kernel;exact rfl;(first|exact .type _|exact .builtin _);exact rfl)|((with_reducible refine gL ?_ ?_);decide)|((with_reducible refine gK ?_ ?_ ?_);decide;exact PyProof.noPylong_small (by decide))|((with_reducible refine gM ?_ ?_);(first|exact IntMulOk.of_right (intBits_le_64 (by omega) (by omega))|exact IntMulOk.of_left (intBits_le_64 (by omega) (by omega))))|((with_reducible refine kF ?_ ?_ ?_);exact rfl;exact fun _ => rfl)|((with_reducible refine gW ?_ ?_);exact fun _ => rfl)|with_reducible refine pO ?_))
        exact ⟨_, _, mv, by (repeat (first | exact LE.nil | refine LE.cons (by exact rfl) ?_)), hT3, hF3, hO2, heq2⟩
      | opn =>
        rw [hcs] at heq2
        dsimp only at heq2
        repeat (first|with_reducible refine kW ?_|(first|with_reducible (first|refine pB ?_|refine pF ?_|refine pA ?_|refine kX ?_|refine kY ?_|refine gH ?_|refine gG ?_|refine kD ?_|refine gY ?_|refine kJ ?_|refine gX ?_|refine kL ?_|refine kE ?_|refine kK ?_|refine kC ?_|refine kI ?_|refine kO ?_|refine kP ?_|refine kN ?_|refine pJ ?_|refine pG ?_|refine gB ?_|refine gA ?_|refine pM ?_|refine gJ ?_|refine gN ?_|refine gU ?_|refine gQ ?_|refine gO ?_|refine gV ?_|refine pN ?_)|((with_reducible refine And.intro ?_ ?_);(first|(rw [sizeLine_eq];exact of_decide_eq_true rfl)|omega))|((with_reducible first|refine kZ ?_ ?_|refine kQ ?_ ?_|refine kS ?_ ?_|refine kB ?_ ?_|refine kM ?_ ?_|refine pH ?_ ?_|refine pK ?_ ?_);exact rfl)|((with_reducible first|refine kR ?_ ?_ ?_|refine kT ?_ ?_ ?_|apply kG);exact rfl;exact rfl)|((with_reducible apply gZ);assumption;exact rfl;decide +kernel;exact rfl)|((with_reducible apply kA);assumption;exact rfl;decide +kernel;exact rfl;(first|exact .type _|exact .builtin _);exact rfl)|((with_reducible refine gL ?_ ?_);decide)|((with_reducible refine gK ?_ ?_ ?_);decide;exact PyProof.noPylong_small (by decide))|((with_reducible refine gM ?_ ?_);(first|exact IntMulOk.of_right (intBits_le_64 (by omega) (by omega))|exact IntMulOk.of_left (intBits_le_64 (by omega) (by omega))))|((with_reducible refine kF ?_ ?_ ?_);exact rfl;exact fun _ => rfl)|((with_reducible refine gW ?_ ?_);exact fun _ => rfl)|with_reducible refine pO ?_))
        refine tcmp_eqS (cs_ok _) ok_false ?_
        rw [cs_false]
        simp only [csF, csU]
        repeat (first|with_reducible refine kW ?_|(first|with_reducible (first|refine pB ?_|refine pF ?_|refine pA ?_|refine kX ?_|refine kY ?_|refine gH ?_|refine gG ?_|refine kD ?_|refine gY ?_|refine kJ ?_|refine gX ?_|refine kL ?_|refine kE ?_|refine kK ?_|refine kC ?_|refine kI ?_|refine kO ?_|refine kP ?_|refine kN ?_|refine pJ ?_|refine pG ?_|refine gB ?_|refine gA ?_|refine pM ?_|refine gJ ?_|refine gN ?_|refine gU ?_|refine gQ ?_|refine gO ?_|refine gV ?_|refine pN ?_)|((with_reducible refine And.intro ?_ ?_);(first|(rw [sizeLine_eq];exact of_decide_eq_true rfl)|omega))|((with_reducible first|refine kZ ?_ ?_|refine kQ ?_ ?_|refine kS ?_ ?_|refine kB ?_ ?_|refine kM ?_ ?_|refine pH ?_ ?_|refine pK ?_ ?_);exact rfl)|((with_reducible first|refine kR ?_ ?_ ?_|refine kT ?_ ?_ ?_|apply kG);exact rfl;exact rfl)|((with_reducible apply gZ);assumption;exact rfl;decide +kernel;exact rfl)|((with_reducible apply kA);assumption;exact rfl;decide +kernel;exact rfl;(first|exact .type _|exact .builtin _);exact rfl)|((with_reducible refine gL ?_ ?_);decide)|((with_reducible refine gK ?_ ?_ ?_);decide;exact PyProof.noPylong_small (by decide))|((with_reducible refine gM ?_ ?_);(first|exact IntMulOk.of_right (intBits_le_64 (by omega) (by omega))|exact IntMulOk.of_left (intBits_le_64 (by omega) (by omega))))|((with_reducible refine kF ?_ ?_ ?_);exact rfl;exact fun _ => rfl)|((with_reducible refine gW ?_ ?_);exact fun _ => rfl)|with_reducible refine pO ?_))
        rw [if_neg (by decide)]
        repeat (first|with_reducible refine kW ?_|(first|with_reducible (first|refine pB ?_|refine pF ?_|refine pA ?_|refine kX ?_|refine kY ?_|refine gH ?_|refine gG ?_|refine kD ?_|refine gY ?_|refine kJ ?_|refine gX ?_|refine kL ?_|refine kE ?_|refine kK ?_|refine kC ?_|refine kI ?_|refine kO ?_|refine kP ?_|refine kN ?_|refine pJ ?_|refine pG ?_|refine gB ?_|refine gA ?_|refine pM ?_|refine gJ ?_|refine gN ?_|refine gU ?_|refine gQ ?_|refine gO ?_|refine gV ?_|refine pN ?_)|((with_reducible refine And.intro ?_ ?_);(first|(rw [sizeLine_eq];exact of_decide_eq_true rfl)|omega))|((with_reducible first|refine kZ ?_ ?_|refine kQ ?_ ?_|refine kS ?_ ?_|refine kB ?_ ?_|refine kM ?_ ?_|refine pH ?_ ?_|refine pK ?_ ?_);exact rfl)|((with_reducible first|refine kR ?_ ?_ ?_|refine kT ?_ ?_ ?_|apply kG);exact rfl;exact rfl)|((with_reducible apply gZ);assumption;exact rfl;decide +kernel;exact rfl)|((with_reducible apply kA);assumption;exact rfl;decide +kernel;exact rfl;(first|exact .type _|exact .builtin _);exact rfl)|((with_reducible refine gL ?_ ?_);decide)|((with_reducible refine gK ?_ ?_ ?_);decide;exact PyProof.noPylong_small (by decide))|((with_reducible refine gM ?_ ?_);(first|exact IntMulOk.of_right (intBits_le_64 (by omega) (by omega))|exact IntMulOk.of_left (intBits_le_64 (by omega) (by omega))))|((with_reducible refine kF ?_ ?_ ?_);exact rfl;exact fun _ => rfl)|((with_reducible refine gW ?_ ?_);exact fun _ => rfl)|with_reducible refine pO ?_))
        refine tcmp_eqS (cs_ok _) ok_unit ?_
        rw [cs_unit]
        simp only [csF, csU]
        repeat (first|with_reducible refine kW ?_|(first|with_reducible (first|refine pB ?_|refine pF ?_|refine pA ?_|refine kX ?_|refine kY ?_|refine gH ?_|refine gG ?_|refine kD ?_|refine gY ?_|refine kJ ?_|refine gX ?_|refine kL ?_|refine kE ?_|refine kK ?_|refine kC ?_|refine kI ?_|refine kO ?_|refine kP ?_|refine kN ?_|refine pJ ?_|refine pG ?_|refine gB ?_|refine gA ?_|refine pM ?_|refine gJ ?_|refine gN ?_|refine gU ?_|refine gQ ?_|refine gO ?_|refine gV ?_|refine pN ?_)|((with_reducible refine And.intro ?_ ?_);(first|(rw [sizeLine_eq];exact of_decide_eq_true rfl)|omega))|((with_reducible first|refine kZ ?_ ?_|refine kQ ?_ ?_|refine kS ?_ ?_|refine kB ?_ ?_|refine kM ?_ ?_|refine pH ?_ ?_|refine pK ?_ ?_);exact rfl)|((with_reducible first|refine kR ?_ ?_ ?_|refine kT ?_ ?_ ?_|apply kG);exact rfl;exact rfl)|((with_reducible apply gZ);assumption;exact rfl;decide +kernel;exact rfl)|((with_reducible apply kA);assumption;exact rfl;decide +kernel;exact rfl;(first|exact .type _|exact .builtin _);exact rfl)|((with_reducible refine gL ?_ ?_);decide)|((with_reducible refine gK ?_ ?_ ?_);decide;exact PyProof.noPylong_small (by decide))|((with_reducible refine gM ?_ ?_);(first|exact IntMulOk.of_right (intBits_le_64 (by omega) (by omega))|exact IntMulOk.of_left (intBits_le_64 (by omega) (by omega))))|((with_reducible refine kF ?_ ?_ ?_);exact rfl;exact fun _ => rfl)|((with_reducible refine gW ?_ ?_);exact fun _ => rfl)|with_reducible refine pO ?_))
        rw [if_neg (by decide)]
        repeat (first|with_reducible refine kW ?_|(first|with_reducible (first|refine pB ?_|refine pF ?_|refine pA ?_|refine kX ?_|refine kY ?_|refine gH ?_|refine gG ?_|refine kD ?_|refine gY ?_|refine kJ ?_|refine gX ?_|refine kL ?_|refine kE ?_|refine kK ?_|refine kC ?_|refine kI ?_|refine kO ?_|refine kP ?_|refine kN ?_|refine pJ ?_|refine pG ?_|refine gB ?_|refine gA ?_|refine pM ?_|refine gJ ?_|refine gN ?_|refine gU ?_|refine gQ ?_|refine gO ?_|refine gV ?_|refine pN ?_)|((with_reducible refine And.intro ?_ ?_);(first|(rw [sizeLine_eq];exact of_decide_eq_true rfl)|omega))|((with_reducible first|refine kZ ?_ ?_|refine kQ ?_ ?_|refine kS ?_ ?_|refine kB ?_ ?_|refine kM ?_ ?_|refine pH ?_ ?_|refine pK ?_ ?_);exact rfl)|((with_reducible first|refine kR ?_ ?_ ?_|refine kT ?_ ?_ ?_|apply kG);exact rfl;exact rfl)|((with_reducible apply gZ);assumption;exact rfl;decide +kernel;exact rfl)|((with_reducible apply kA);assumption;exact rfl;decide +kernel;exact rfl;(first|exact .type _|exact .builtin _);exact rfl)|((with_reducible refine gL ?_ ?_);decide)|((with_reducible refine gK ?_ ?_ ?_);decide;exact PyProof.noPylong_small (by decide))|((with_reducible refine gM ?_ ?_);(first|exact IntMulOk.of_right (intBits_le_64 (by omega) (by omega))|exact IntMulOk.of_left (intBits_le_64 (by omega) (by omega))))|((with_reducible refine kF ?_ ?_ ?_);exact rfl;exact fun _ => rfl)|((with_reducible refine gW ?_ ?_);exact fun _ => rfl)|with_reducible refine pO ?_))
        exact ⟨_, _, mv, by (repeat (first | exact LE.nil | refine LE.cons (by exact rfl) ?_)), hT3, hF3, hO2, heq2⟩
    · rintro m2 σ2 ⟨ws2, od2, mv, le2, hT2, hF2, hO2, heq2⟩
      rw [List.length_map, hc2.length, List.drop_length, passM] at heq2
      rw [heq2] at heq
      dsimp only at heq
      refine TX.forget le2 ?_
      repeat (first|with_reducible refine kW ?_|(first|with_reducible (first|refine pB ?_|refine pF ?_|refine pA ?_|refine kX ?_|refine kY ?_|refine gH ?_|refine gG ?_|refine kD ?_|refine gY ?_|refine kJ ?_|refine gX ?_|refine kL ?_|refine kE ?_|refine kK ?_|refine kC ?_|refine kI ?_|refine kO ?_|refine kP ?_|refine kN ?_|refine pJ ?_|refine pG ?_|refine gB ?_|refine gA ?_|refine pM ?_|refine gJ ?_|refine gN ?_|refine gU ?_|refine gQ ?_|refine gO ?_|refine gV ?_|refine pN ?_)|((with_reducible refine And.intro ?_ ?_);(first|(rw [sizeLine_eq];exact of_decide_eq_true rfl)|omega))|((with_reducible first|refine kZ ?_ ?_|refine kQ ?_ ?_|refine kS ?_ ?_|refine kB ?_ ?_|refine kM ?_ ?_|refine pH ?_ ?_|refine pK ?_ ?_);exact rfl)|((with_reducible first|refine kR ?_ ?_ ?_|refine kT ?_ ?_ ?_|apply kG);exact rfl;exact rfl)|((with_reducible apply gZ);assumption;exact rfl;decide +kernel;exact rfl)|((with_reducible apply kA);assumption;exact rfl;decide +kernel;exact rfl;(first|exact .type _|exact .builtin _);exact rfl)|((with_reducible refine gL ?_ ?_);decide)|((with_reducible refine gK ?_ ?_ ?_);decide;exact PyProof.noPylong_small (by decide))|((with_reducible refine gM ?_ ?_);(first|exact IntMulOk.of_right (intBits_le_64 (by omega) (by omega))|exact IntMulOk.of_left (intBits_le_64 (by omega) (by omega))))|((with_reducible refine kF ?_ ?_ ?_);exact rfl;exact fun _ => rfl)|((with_reducible refine gW ?_ ?_);exact fun _ => rfl)|with_reducible refine pO ?_))
      cases mv with
      | true =>
        rw [if_neg (by decide)]
        rw [if_pos rfl] at heq
        repeat (first|with_reducible refine kW ?_|(first|with_reducible (first|refine pB ?_|refine pF ?_|refine pA ?_|refine kX ?_|refine kY ?_|refine gH ?_|refine gG ?_|refine kD ?_|refine gY ?_|refine kJ ?_|refine gX ?_|refine kL ?_|refine kE ?_|refine kK ?_|refine kC ?_|refine kI ?_|refine kO ?_|refine kP ?_|refine kN ?_|refine pJ ?_|refine pG ?_|refine gB ?_|refine gA ?_|refine pM ?_|refine gJ ?_|refine gN ?_|refine gU ?_|refine gQ ?_|refine gO ?_|refine gV ?_|refine pN ?_)|((with_reducible refine And.intro ?_ ?_);(first|(rw [sizeLine_eq];exact of_decide_eq_true rfl)|omega))|((with_reducible first|refine kZ ?_ ?_|refine kQ ?_ ?_|refine kS ?_ ?_|refine kB ?_ ?_|refine kM ?_ ?_|refine pH ?_ ?_|refine pK ?_ ?_);exact rfl)|((with_reducible first|refine kR ?_ ?_ ?_|refine kT ?_ ?_ ?_|apply kG);exact rfl;exact rfl)|((with_reducible apply gZ);assumption;exact rfl;decide +kernel;exact rfl)|((with_reducible apply kA);assumption;exact rfl;decide +kernel;exact rfl;(first|exact .type _|exact .builtin _);exact rfl)|((with_reducible refine gL ?_ ?_);decide)|((with_reducible refine gK ?_ ?_ ?_);decide;exact PyProof.noPylong_small (by decide))|((with_reducible refine gM ?_ ?_);(first|exact IntMulOk.of_right (intBits_le_64 (by omega) (by omega))|exact IntMulOk.of_left (intBits_le_64 (by omega) (by omega))))|((with_reducible refine kF ?_ ?_ ?_);exact rfl;exact fun _ => rfl)|((with_reducible refine gW ?_ ?_);exact fun _ => rfl)|with_reducible refine pO ?_))
        exact ⟨_, _, by (repeat (first | exact LE.nil | refine LE.cons (by exact rfl) ?_)), hT2, hF2, hO2, heq⟩
      | false =>
        rw [if_pos (by decide)]
        rw [if_neg (by decide)] at heq
        rw [heq] at h
        repeat (first|with_reducible refine kW ?_|(first|with_reducible (first|refine pB ?_|refine pF ?_|refine pA ?_|refine kX ?_|refine kY ?_|refine gH ?_|refine gG ?_|refine kD ?_|refine gY ?_|refine kJ ?_|refine gX ?_|refine kL ?_|refine kE ?_|refine kK ?_|refine kC ?_|refine kI ?_|refine kO ?_|refine kP ?_|refine kN ?_|refine pJ ?_|refine pG ?_|refine gB ?_|refine gA ?_|refine pM ?_|refine gJ ?_|refine gN ?_|refine gU ?_|refine gQ ?_|refine gO ?_|refine gV ?_|refine pN ?_)|((with_reducible refine And.intro ?_ ?_);(first|(rw [sizeLine_eq];exact of_decide_eq_true rfl)|omega))|((with_reducible first|refine kZ ?_ ?_|refine kQ ?_ ?_|refine kS ?_ ?_|refine kB ?_ ?_|refine kM ?_ ?_|refine pH ?_ ?_|refine pK ?_ ?_);exact rfl)|((with_reducible first|refine kR ?_ ?_ ?_|refine kT ?_ ?_ ?_|apply kG);exact rfl;exact rfl)|((with_reducible apply gZ);assumption;exact rfl;decide +kernel;exact rfl)|((with_reducible apply kA);assumption;exact rfl;decide +kernel;exact rfl;(first|exact .type _|exact .builtin _);exact rfl)|((with_reducible refine gL ?_ ?_);decide)|((with_reducible refine gK ?_ ?_ ?_);decide;exact PyProof.noPylong_small (by decide))|((with_reducible refine gM ?_ ?_);(first|exact IntMulOk.of_right (intBits_le_64 (by omega) (by omega))|exact IntMulOk.of_left (intBits_le_64 (by omega) (by omega))))|((with_reducible refine kF ?_ ?_ ?_);exact rfl;exact fun _ => rfl)|((with_reducible refine gW ?_ ?_);exact fun _ => rfl)|with_reducible refine pO ?_))
        exact h _ hT2 hF2
  · rintro m2 σ2 ⟨ws2, od2, le2, hT2, hF2, hO2, heq2⟩
    rw [Nat.sub_self, propM] at heq2
    rw [heq2] at h
    refine TX.forget le2 ?_
    repeat (first|with_reducible refine kW ?_|(first|with_reducible (first|refine pB ?_|refine pF ?_|refine pA ?_|refine kX ?_|refine kY ?_|refine gH ?_|refine gG ?_|refine kD ?_|refine gY ?_|refine kJ ?_|refine gX ?_|refine kL ?_|refine kE ?_|refine kK ?_|refine kC ?_|refine kI ?_|refine kO ?_|refine kP ?_|refine kN ?_|refine pJ ?_|refine pG ?_|refine gB ?_|refine gA ?_|refine pM ?_|refine gJ ?_|refine gN ?_|refine gU ?_|refine gQ ?_|refine gO ?_|refine gV ?_|refine pN ?_)|((with_reducible refine And.intro ?_ ?_);(first|(rw [sizeLine_eq];exact of_decide_eq_true rfl)|omega))|((with_reducible first|refine kZ ?_ ?_|refine kQ ?_ ?_|refine kS ?_ ?_|refine kB ?_ ?_|refine kM ?_ ?_|refine pH ?_ ?_|refine pK ?_ ?_);exact rfl)|((with_reducible first|refine kR ?_ ?_ ?_|refine kT ?_ ?_ ?_|apply kG);exact rfl;exact rfl)|((with_reducible apply gZ);assumption;exact rfl;decide +kernel;exact rfl)|((with_reducible apply kA);assumption;exact rfl;decide +kernel;exact rfl;(first|exact .type _|exact .builtin _);exact rfl)|((with_reducible refine gL ?_ ?_);decide)|((with_reducible refine gK ?_ ?_ ?_);decide;exact PyProof.noPylong_small (by decide))|((with_reducible refine gM ?_ ?_);(first|exact IntMulOk.of_right (intBits_le_64 (by omega) (by omega))|exact IntMulOk.of_left (intBits_le_64 (by omega) (by omega))))|((with_reducible refine kF ?_ ?_ ?_);exact rfl;exact fun _ => rfl)|((with_reducible refine gW ?_ ?_);exact fun _ => rfl)|with_reducible refine pO ?_))
    exact h _ hT2 hF2


theorem sinit_spec {W : Wd} {K : Frag} {Cs Ct f ft : Addr} (Cl : ClsIs W K Cs ["n", "clauses", "trail", "proof", "conflicts"]) (M : MethIs W K Cs "__init__" f ["self", "clauses", "n"] (methBody pw 8 0) (methScope pw 8 0)) (ClT : ClsIs W K Ct ["n", "worths", "order", "marks"]) (MT : MethIs W K Ct "__init__" ft ["self", "n"] (methBody pw 6 0) (methScope pw 6 0))
    (gT : W.mg "Trail" = some (.ref Ct)) (hlist : W.mg "list" = none) {lv n s d lc : Nat} {is : List Nat} {cs : List (List Int)} {σ : AH} {Q : AV → AH → Prop} (hn : n ≤ 1000) (hs : σ[s]? = some (.inst Cs d)) (hd : σ[d]? = some (.dict [])) (hc : RowsP σ lc is cs) (hdc : d ≠ lc) (hdi : d ∉ is) (hz1 : cs.length ≤ 100000) (hz2 : ∀ c ∈ cs, c.length ≤ 100000)
    (h : ∀ q σ', q.s = s → q.d = d → SolAt Cs Ct q n cs ⟨W0 n, [], [], []⟩ 0 [] σ' → Fx [d] σ σ' → (∀ i ∈ q.p.S, σ.length ≤ i) → σ.length ≤ q.l → Q .none σ') :
    TCode W (lv + 3) (.stat (.ref f)) [.ref s, .ref lc, .int n] Q σ := by
  have hdl := lt_of_get hd
  refine code_fn M.fn rfl ?_
  refine kW ?_
  repeat (first|with_reducible refine kW ?_|(first|with_reducible (first|refine pB ?_|refine pF ?_|refine pA ?_|refine kX ?_|refine kY ?_|refine gH ?_|refine gG ?_|refine kD ?_|refine gY ?_|refine kJ ?_|refine gX ?_|refine kL ?_|refine kE ?_|refine kK ?_|refine kC ?_|refine kI ?_|refine kO ?_|refine kP ?_|refine kN ?_|refine pJ ?_|refine pG ?_|refine gB ?_|refine gA ?_|refine pM ?_|refine gJ ?_|refine gN ?_|refine gU ?_|refine gQ ?_|refine gO ?_|refine gV ?_|refine pN ?_)|((with_reducible refine And.intro ?_ ?_);(first|(rw [sizeLine_eq];exact of_decide_eq_true rfl)|omega))|((with_reducible first|refine kZ ?_ ?_|refine kQ ?_ ?_|refine kS ?_ ?_|refine kB ?_ ?_|refine kM ?_ ?_|refine pH ?_ ?_|refine pK ?_ ?_);exact rfl)|((with_reducible first|refine kR ?_ ?_ ?_|refine kT ?_ ?_ ?_|apply kG);exact rfl;exact rfl)|((with_reducible apply gZ);assumption;exact rfl;decide +kernel;exact rfl)|((with_reducible apply kA);assumption;exact rfl;decide +kernel;exact rfl;(first|exact .type _|exact .builtin _);exact rfl)|((with_reducible refine gL ?_ ?_);decide)|((with_reducible refine gK ?_ ?_ ?_);decide;exact PyProof.noPylong_small (by decide))|((with_reducible refine gM ?_ ?_);(first|exact IntMulOk.of_right (intBits_le_64 (by omega) (by omega))|exact IntMulOk.of_left (intBits_le_64 (by omega) (by omega))))|((with_reducible refine kF ?_ ?_ ?_);exact rfl;exact fun _ => rfl)|((with_reducible refine gW ?_ ?_);exact fun _ => rfl)|with_reducible refine pO ?_))
  refine Cl.set hs hd rfl (by simp) (fs' := [("n", .int n)]) rfl ?_
  have a1 : IA σ Cs s d [("n", .int n)] (σ.set d (.dict [("n", .int n)])) := IA.set ⟨hs, hd, Fx.refl _ _⟩ _
  have c1 : RowsP (σ.set d (.dict [("n", .int n)])) lc is cs := hc.fx (Fx.set (S := [d]) (by simp)) (by simp; (first|lia|omega)) (fun i hi => by simp; exact fun e => hdi (e ▸ hi))
  have l1 : (σ.set d (.dict [("n", .int n)])).length = σ.length := set_len _ _ _
  generalize σ.set d (.dict [("n", .int n)]) = σ1 at *
  refine kW ?_
  refine ts_assign_attrC ?_
  refine te_comp rfl rfl ?_
  repeat (first|with_reducible refine kW ?_|(first|with_reducible (first|refine pB ?_|refine pF ?_|refine pA ?_|refine kX ?_|refine kY ?_|refine gH ?_|refine gG ?_|refine kD ?_|refine gY ?_|refine kJ ?_|refine gX ?_|refine kL ?_|refine kE ?_|refine kK ?_|refine kC ?_|refine kI ?_|refine kO ?_|refine kP ?_|refine kN ?_|refine pJ ?_|refine pG ?_|refine gB ?_|refine gA ?_|refine pM ?_|refine gJ ?_|refine gN ?_|refine gU ?_|refine gQ ?_|refine gO ?_|refine gV ?_|refine pN ?_)|((with_reducible refine And.intro ?_ ?_);(first|(rw [sizeLine_eq];exact of_decide_eq_true rfl)|omega))|((with_reducible first|refine kZ ?_ ?_|refine kQ ?_ ?_|refine kS ?_ ?_|refine kB ?_ ?_|refine kM ?_ ?_|refine pH ?_ ?_|refine pK ?_ ?_);exact rfl)|((with_reducible first|refine kR ?_ ?_ ?_|refine kT ?_ ?_ ?_|apply kG);exact rfl;exact rfl)|((with_reducible apply gZ);assumption;exact rfl;decide +kernel;exact rfl)|((with_reducible apply kA);assumption;exact rfl;decide +kernel;exact rfl;(first|exact .type _|exact .builtin _);exact rfl)|((with_reducible refine gL ?_ ?_);decide)|((with_reducible refine gK ?_ ?_ ?_);decide;exact PyProof.noPylong_small (by decide))|((with_reducible refine gM ?_ ?_);(first|exact IntMulOk.of_right (intBits_le_64 (by omega) (by omega))|exact IntMulOk.of_left (intBits_le_64 (by omega) (by omega))))|((with_reducible refine kF ?_ ?_ ?_);exact rfl;exact fun _ => rfl)|((with_reducible refine gW ?_ ?_);exact fun _ => rfl)|with_reducible refine pO ?_))
  refine ⟨_, _, fun i acc σ' => ∃ js : List Nat, acc = js.map .ref ∧ Sub σ1 σ' ∧ RowsIn lc σ' js (cs.take i) ∧ ∀ j ∈ js, σ.length ≤ j, .inl ⟨_, _, rfl, rfl, fun _ _ => rfl, c1.g, fun i acc σ' _ ⟨js, _, j, _⟩ => j _ _ c1.g⟩, by rw [sizeLine_eq]; simp [c1.r.length]; (first|lia|omega), ⟨[], rfl, Sub.refl _, trivial, by simp⟩, ?_, ?_⟩
  · rintro i acc σ' hi ⟨js, rfl, sub, hin, hge⟩
    simp only [List.length_map] at hi
    obtain ⟨r, hr', -, hrow⟩ := c1.r.geti (j := i) (i := is[i]) (by simp)
    refine tifs_nil ?_
    rw [if_pos rfl, List.getElem?_map, List.getElem?_eq_getElem hi]
    repeat (first|with_reducible refine kW ?_|(first|with_reducible (first|refine pB ?_|refine pF ?_|refine pA ?_|refine kX ?_|refine kY ?_|refine gH ?_|refine gG ?_|refine kD ?_|refine gY ?_|refine kJ ?_|refine gX ?_|refine kL ?_|refine kE ?_|refine kK ?_|refine kC ?_|refine kI ?_|refine kO ?_|refine kP ?_|refine kN ?_|refine pJ ?_|refine pG ?_|refine gB ?_|refine gA ?_|refine pM ?_|refine gJ ?_|refine gN ?_|refine gU ?_|refine gQ ?_|refine gO ?_|refine gV ?_|refine pN ?_)|((with_reducible refine And.intro ?_ ?_);(first|(rw [sizeLine_eq];exact of_decide_eq_true rfl)|omega))|((with_reducible first|refine kZ ?_ ?_|refine kQ ?_ ?_|refine kS ?_ ?_|refine kB ?_ ?_|refine kM ?_ ?_|refine pH ?_ ?_|refine pK ?_ ?_);exact rfl)|((with_reducible first|refine kR ?_ ?_ ?_|refine kT ?_ ?_ ?_|apply kG);exact rfl;exact rfl)|((with_reducible apply gZ);assumption;exact rfl;decide +kernel;exact rfl)|((with_reducible apply kA);assumption;exact rfl;decide +kernel;exact rfl;(first|exact .type _|exact .builtin _);exact rfl)|((with_reducible refine gL ?_ ?_);decide)|((with_reducible refine gK ?_ ?_ ?_);decide;exact PyProof.noPylong_small (by decide))|((with_reducible refine gM ?_ ?_);(first|exact IntMulOk.of_right (intBits_le_64 (by omega) (by omega))|exact IntMulOk.of_left (intBits_le_64 (by omega) (by omega))))|((with_reducible refine kF ?_ ?_ ?_);exact rfl;exact fun _ => rfl)|((with_reducible refine gW ?_ ?_);exact fun _ => rfl)|with_reducible refine pO ?_))
    refine tcall_list (sub _ _ hrow) (by have := hz2 r (List.mem_of_getElem? hr'); rw [sizeLine_eq]; simp; (first|lia|omega)) ?_
    have hlt := lt_of_get (sub _ _ c1.g)
    have hsl := Sub.len sub
    refine ⟨js ++ [_], by rw [List.map_append]; rfl, by (repeat (first | exact Sub.refl _ | assumption | refine Sub.trans ?_ (Sub.snoc _ _))), ?_, ?_⟩
    · rw [List.take_add_one, hr']
      exact (hin.sub (Sub.snoc _ _).x).append (RowsIn.one (by (first|lia|omega)) (get_snoc _ _))
    · intro j hj
      rcases List.mem_append.mp hj with z | z
      · exact hge j z
      · rw [List.mem_singleton.mp z]; (first|lia|omega)
  · rintro acc σ2 ⟨js, rfl, sub2, hin, hge⟩
    rw [List.length_map, c1.r.length, List.take_length] at hin
    have hjl := hin.lt
    have hsl := Sub.len sub2
    have a2 := a1.sub (sub2.trans (Sub.snoc σ2 [.list (js.map .ref)]))
    have c2 : RowsP (σ2 ++ [.list (js.map .ref)]) σ2.length js cs := ⟨get_snoc _ _, (hin.new (Nat.le_refl _)).sub (Sub.snoc _ _).x⟩
    repeat (first|with_reducible refine kW ?_|(first|with_reducible (first|refine pB ?_|refine pF ?_|refine pA ?_|refine kX ?_|refine kY ?_|refine gH ?_|refine gG ?_|refine kD ?_|refine gY ?_|refine kJ ?_|refine gX ?_|refine kL ?_|refine kE ?_|refine kK ?_|refine kC ?_|refine kI ?_|refine kO ?_|refine kP ?_|refine kN ?_|refine pJ ?_|refine pG ?_|refine gB ?_|refine gA ?_|refine pM ?_|refine gJ ?_|refine gN ?_|refine gU ?_|refine gQ ?_|refine gO ?_|refine gV ?_|refine pN ?_)|((with_reducible refine And.intro ?_ ?_);(first|(rw [sizeLine_eq];exact of_decide_eq_true rfl)|omega))|((with_reducible first|refine kZ ?_ ?_|refine kQ ?_ ?_|refine kS ?_ ?_|refine kB ?_ ?_|refine kM ?_ ?_|refine pH ?_ ?_|refine pK ?_ ?_);exact rfl)|((with_reducible first|refine kR ?_ ?_ ?_|refine kT ?_ ?_ ?_|apply kG);exact rfl;exact rfl)|((with_reducible apply gZ);assumption;exact rfl;decide +kernel;exact rfl)|((with_reducible apply kA);assumption;exact rfl;decide +kernel;exact rfl;(first|exact .type _|exact .builtin _);exact rfl)|((with_reducible refine gL ?_ ?_);decide)|((with_reducible refine gK ?_ ?_ ?_);decide;exact PyProof.noPylong_small (by decide))|((with_reducible refine gM ?_ ?_);(first|exact IntMulOk.of_right (intBits_le_64 (by omega) (by omega))|exact IntMulOk.of_left (intBits_le_64 (by omega) (by omega))))|((with_reducible refine kF ?_ ?_ ?_);exact rfl;exact fun _ => rfl)|((with_reducible refine gW ?_ ?_);exact fun _ => rfl)|with_reducible refine pO ?_))
    refine Cl.set a2.s a2.d rfl (by simp) (fs' := [("n", .int n), ("clauses", .ref σ2.length)]) rfl ?_
    have a3 := a2.set [("n", .int n), ("clauses", .ref σ2.length)]
    have c3 : RowsP ((σ2 ++ [AO.list (js.map .ref)]).set d (.dict [("n", .int n), ("clauses", .ref σ2.length)])) σ2.length js cs := c2.fx (Fx.set (S := [d]) (by simp)) (by simp; (first|lia|omega)) (fun i hi => by have := hge i hi; simp; (first|lia|omega))
    have l3 : ((σ2 ++ [AO.list (js.map .ref)]).set d (.dict [("n", .int n), ("clauses", .ref σ2.length)])).length = σ2.length + 1 := by rw [set_len]; simp
    generalize (σ2 ++ [AO.list (js.map .ref)]).set d (.dict [("n", .int n), ("clauses", .ref σ2.length)]) = σ3 at *
    generalize σ2.length = c at *
    repeat (first|with_reducible refine kW ?_|(first|with_reducible (first|refine pB ?_|refine pF ?_|refine pA ?_|refine kX ?_|refine kY ?_|refine gH ?_|refine gG ?_|refine kD ?_|refine gY ?_|refine kJ ?_|refine gX ?_|refine kL ?_|refine kE ?_|refine kK ?_|refine kC ?_|refine kI ?_|refine kO ?_|refine kP ?_|refine kN ?_|refine pJ ?_|refine pG ?_|refine gB ?_|refine gA ?_|refine pM ?_|refine gJ ?_|refine gN ?_|refine gU ?_|refine gQ ?_|refine gO ?_|refine gV ?_|refine pN ?_)|((with_reducible refine And.intro ?_ ?_);(first|(rw [sizeLine_eq];exact of_decide_eq_true rfl)|omega))|((with_reducible first|refine kZ ?_ ?_|refine kQ ?_ ?_|refine kS ?_ ?_|refine kB ?_ ?_|refine kM ?_ ?_|refine pH ?_ ?_|refine pK ?_ ?_);exact rfl)|((with_reducible first|refine kR ?_ ?_ ?_|refine kT ?_ ?_ ?_|apply kG);exact rfl;exact rfl)|((with_reducible apply gZ);assumption;exact rfl;decide +kernel;exact rfl)|((with_reducible apply kA);assumption;exact rfl;decide +kernel;exact rfl;(first|exact .type _|exact .builtin _);exact rfl)|((with_reducible refine gL ?_ ?_);decide)|((with_reducible refine gK ?_ ?_ ?_);decide;exact PyProof.noPylong_small (by decide))|((with_reducible refine gM ?_ ?_);(first|exact IntMulOk.of_right (intBits_le_64 (by omega) (by omega))|exact IntMulOk.of_left (intBits_le_64 (by omega) (by omega))))|((with_reducible refine kF ?_ ?_ ?_);exact rfl;exact fun _ => rfl)|((with_reducible refine gW ?_ ?_);exact fun _ => rfl)|with_reducible refine pO ?_))
    refine te_callG gT rfl ClT.keeps rfl ?_
    repeat (first|with_reducible refine kW ?_|(first|with_reducible (first|refine pB ?_|refine pF ?_|refine pA ?_|refine kX ?_|refine kY ?_|refine gH ?_|refine gG ?_|refine kD ?_|refine gY ?_|refine kJ ?_|refine gX ?_|refine kL ?_|refine kE ?_|refine kK ?_|refine kC ?_|refine kI ?_|refine kO ?_|refine kP ?_|refine kN ?_|refine pJ ?_|refine pG ?_|refine gB ?_|refine gA ?_|refine pM ?_|refine gJ ?_|refine gN ?_|refine gU ?_|refine gQ ?_|refine gO ?_|refine gV ?_|refine pN ?_)|((with_reducible refine And.intro ?_ ?_);(first|(rw [sizeLine_eq];exact of_decide_eq_true rfl)|omega))|((with_reducible first|refine kZ ?_ ?_|refine kQ ?_ ?_|refine kS ?_ ?_|refine kB ?_ ?_|refine kM ?_ ?_|refine pH ?_ ?_|refine pK ?_ ?_);exact rfl)|((with_reducible first|refine kR ?_ ?_ ?_|refine kT ?_ ?_ ?_|apply kG);exact rfl;exact rfl)|((with_reducible apply gZ);assumption;exact rfl;decide +kernel;exact rfl)|((with_reducible apply kA);assumption;exact rfl;decide +kernel;exact rfl;(first|exact .type _|exact .builtin _);exact rfl)|((with_reducible refine gL ?_ ?_);decide)|((with_reducible refine gK ?_ ?_ ?_);decide;exact PyProof.noPylong_small (by decide))|((with_reducible refine gM ?_ ?_);(first|exact IntMulOk.of_right (intBits_le_64 (by omega) (by omega))|exact IntMulOk.of_left (intBits_le_64 (by omega) (by omega))))|((with_reducible refine kF ?_ ?_ ?_);exact rfl;exact fun _ => rfl)|((with_reducible refine gW ?_ ?_);exact fun _ => rfl)|with_reducible refine pO ?_))
    refine mk_spec ClT MT hn fun p σ4 hT4 sub4 p1 p2 p3 p4 p5 => ?_
    have a4 := a3.sub sub4
    repeat (first|with_reducible refine kW ?_|(first|with_reducible (first|refine pB ?_|refine pF ?_|refine pA ?_|refine kX ?_|refine kY ?_|refine gH ?_|refine gG ?_|refine kD ?_|refine gY ?_|refine kJ ?_|refine gX ?_|refine kL ?_|refine kE ?_|refine kK ?_|refine kC ?_|refine kI ?_|refine kO ?_|refine kP ?_|refine kN ?_|refine pJ ?_|refine pG ?_|refine gB ?_|refine gA ?_|refine pM ?_|refine gJ ?_|refine gN ?_|refine gU ?_|refine gQ ?_|refine gO ?_|refine gV ?_|refine pN ?_)|((with_reducible refine And.intro ?_ ?_);(first|(rw [sizeLine_eq];exact of_decide_eq_true rfl)|omega))|((with_reducible first|refine kZ ?_ ?_|refine kQ ?_ ?_|refine kS ?_ ?_|refine kB ?_ ?_|refine kM ?_ ?_|refine pH ?_ ?_|refine pK ?_ ?_);exact rfl)|((with_reducible first|refine kR ?_ ?_ ?_|refine kT ?_ ?_ ?_|apply kG);exact rfl;exact rfl)|((with_reducible apply gZ);assumption;exact rfl;decide +kernel;exact rfl)|((with_reducible apply kA);assumption;exact rfl;decide +kernel;exact rfl;(first|exact .type _|exact .builtin _);exact rfl)|((with_reducible refine gL ?_ ?_);decide)|((with_reducible refine gK ?_ ?_ ?_);decide;exact PyProof.noPylong_small (by decide))|((with_reducible refine gM ?_ ?_);(first|exact IntMulOk.of_right (intBits_le_64 (by omega) (by omega))|exact IntMulOk.of_left (intBits_le_64 (by omega) (by omega))))|((with_reducible refine kF ?_ ?_ ?_);exact rfl;exact fun _ => rfl)|((with_reducible refine gW ?_ ?_);exact fun _ => rfl)|with_reducible refine pO ?_))
    refine Cl.set a4.s a4.d rfl (by simp) (fs' := [("n", .int n), ("clauses", .ref c), ("trail", .ref p.t)]) rfl ?_
    have a5 := a4.set [("n", .int n), ("clauses", .ref c), ("trail", .ref p.t)]
    have dd : ∀ {σ : AH} {ws od mk : List Int} {o : AO}, TrAt Ct p n ws od mk σ → TrAt Ct p n ws od mk (σ.set d o) := fun h => by
      refine h.fx (Fx.set (S := [d]) (by simp)) ?_ ?_ ?_ ?_ ?_ <;> simp only [List.mem_cons, List.not_mem_nil, or_false] <;> (first|lia|omega)
    have cc : ∀ {σ : AH} {o : AO}, RowsP σ c js cs → RowsP (σ.set d o) c js cs := fun h => h.fx (Fx.set (S := [d]) (by simp)) (by simp; (first|lia|omega)) (fun i hi => by have := hge i hi; simp; (first|lia|omega))
    have t5 := dd (o := .dict [("n", .int n), ("clauses", .ref c), ("trail", .ref p.t)]) hT4
    have c5 := cc (o := .dict [("n", .int n), ("clauses", .ref c), ("trail", .ref p.t)]) (c3.sub sub4)
    generalize σ4.set d (.dict [("n", .int n), ("clauses", .ref c), ("trail", .ref p.t)]) = σ5 at *
    repeat (first|with_reducible refine kW ?_|(first|with_reducible (first|refine pB ?_|refine pF ?_|refine pA ?_|refine kX ?_|refine kY ?_|refine gH ?_|refine gG ?_|refine kD ?_|refine gY ?_|refine kJ ?_|refine gX ?_|refine kL ?_|refine kE ?_|refine kK ?_|refine kC ?_|refine kI ?_|refine kO ?_|refine kP ?_|refine kN ?_|refine pJ ?_|refine pG ?_|refine gB ?_|refine gA ?_|refine pM ?_|refine gJ ?_|refine gN ?_|refine gU ?_|refine gQ ?_|refine gO ?_|refine gV ?_|refine pN ?_)|((with_reducible refine And.intro ?_ ?_);(first|(rw [sizeLine_eq];exact of_decide_eq_true rfl)|omega))|((with_reducible first|refine kZ ?_ ?_|refine kQ ?_ ?_|refine kS ?_ ?_|refine kB ?_ ?_|refine kM ?_ ?_|refine pH ?_ ?_|refine pK ?_ ?_);exact rfl)|((with_reducible first|refine kR ?_ ?_ ?_|refine kT ?_ ?_ ?_|apply kG);exact rfl;exact rfl)|((with_reducible apply gZ);assumption;exact rfl;decide +kernel;exact rfl)|((with_reducible apply kA);assumption;exact rfl;decide +kernel;exact rfl;(first|exact .type _|exact .builtin _);exact rfl)|((with_reducible refine gL ?_ ?_);decide)|((with_reducible refine gK ?_ ?_ ?_);decide;exact PyProof.noPylong_small (by decide))|((with_reducible refine gM ?_ ?_);(first|exact IntMulOk.of_right (intBits_le_64 (by omega) (by omega))|exact IntMulOk.of_left (intBits_le_64 (by omega) (by omega))))|((with_reducible refine kF ?_ ?_ ?_);exact rfl;exact fun _ => rfl)|((with_reducible refine gW ?_ ?_);exact fun _ => rfl)|with_reducible refine pO ?_))
    have a6 := a5.sub (Sub.snoc σ5 [.list []])
    refine Cl.set a6.s a6.d rfl (by simp) (fs' := [("n", .int n), ("clauses", .ref c), ("trail", .ref p.t), ("proof", .ref σ5.length)]) rfl ?_
    have a7 := a6.set [("n", .int n), ("clauses", .ref c), ("trail", .ref p.t), ("proof", .ref σ5.length)]
    have t7 := dd (o := .dict [("n", .int n), ("clauses", .ref c), ("trail", .ref p.t), ("proof", .ref σ5.length)]) (t5.sub (Sub.snoc σ5 [.list []]))
    have c7 := cc (o := .dict [("n", .int n), ("clauses", .ref c), ("trail", .ref p.t), ("proof", .ref σ5.length)]) (c5.sub (Sub.snoc σ5 [.list []]))
    have f7 : ((σ5 ++ [AO.list []]).set d (.dict [("n", .int n), ("clauses", .ref c), ("trail", .ref p.t), ("proof", .ref σ5.length)]))[σ5.length]? = some (.list []) := get_ne (by have := lt_of_get t5.w; (first|lia|omega)) (get_snoc _ _)
    have b1 := lt_of_get t5.t
    have b2 := lt_of_get t5.d
    have b3 := lt_of_get t5.w
    have b4 := lt_of_get t5.o
    have b5 := lt_of_get t5.k
    generalize (σ5 ++ [AO.list []]).set d (.dict [("n", .int n), ("clauses", .ref c), ("trail", .ref p.t), ("proof", .ref σ5.length)]) = σ7 at *
    generalize σ5.length = lp at *
    repeat (first|with_reducible refine kW ?_|(first|with_reducible (first|refine pB ?_|refine pF ?_|refine pA ?_|refine kX ?_|refine kY ?_|refine gH ?_|refine gG ?_|refine kD ?_|refine gY ?_|refine kJ ?_|refine gX ?_|refine kL ?_|refine kE ?_|refine kK ?_|refine kC ?_|refine kI ?_|refine kO ?_|refine kP ?_|refine kN ?_|refine pJ ?_|refine pG ?_|refine gB ?_|refine gA ?_|refine pM ?_|refine gJ ?_|refine gN ?_|refine gU ?_|refine gQ ?_|refine gO ?_|refine gV ?_|refine pN ?_)|((with_reducible refine And.intro ?_ ?_);(first|(rw [sizeLine_eq];exact of_decide_eq_true rfl)|omega))|((with_reducible first|refine kZ ?_ ?_|refine kQ ?_ ?_|refine kS ?_ ?_|refine kB ?_ ?_|refine kM ?_ ?_|refine pH ?_ ?_|refine pK ?_ ?_);exact rfl)|((with_reducible first|refine kR ?_ ?_ ?_|refine kT ?_ ?_ ?_|apply kG);exact rfl;exact rfl)|((with_reducible apply gZ);assumption;exact rfl;decide +kernel;exact rfl)|((with_reducible apply kA);assumption;exact rfl;decide +kernel;exact rfl;(first|exact .type _|exact .builtin _);exact rfl)|((with_reducible refine gL ?_ ?_);decide)|((with_reducible refine gK ?_ ?_ ?_);decide;exact PyProof.noPylong_small (by decide))|((with_reducible refine gM ?_ ?_);(first|exact IntMulOk.of_right (intBits_le_64 (by omega) (by omega))|exact IntMulOk.of_left (intBits_le_64 (by omega) (by omega))))|((with_reducible refine kF ?_ ?_ ?_);exact rfl;exact fun _ => rfl)|((with_reducible refine gW ?_ ?_);exact fun _ => rfl)|with_reducible refine pO ?_))
    refine Cl.set a7.s a7.d rfl (by simp) (fs' := [("n", .int n), ("clauses", .ref c), ("trail", .ref p.t), ("proof", .ref lp), ("conflicts", .int 0)]) rfl ?_
    have a8 := a7.set [("n", .int n), ("clauses", .ref c), ("trail", .ref p.t), ("proof", .ref lp), ("conflicts", .int 0)]
    repeat (first|with_reducible refine kW ?_|(first|with_reducible (first|refine pB ?_|refine pF ?_|refine pA ?_|refine kX ?_|refine kY ?_|refine gH ?_|refine gG ?_|refine kD ?_|refine gY ?_|refine kJ ?_|refine gX ?_|refine kL ?_|refine kE ?_|refine kK ?_|refine kC ?_|refine kI ?_|refine kO ?_|refine kP ?_|refine kN ?_|refine pJ ?_|refine pG ?_|refine gB ?_|refine gA ?_|refine pM ?_|refine gJ ?_|refine gN ?_|refine gU ?_|refine gQ ?_|refine gO ?_|refine gV ?_|refine pN ?_)|((with_reducible refine And.intro ?_ ?_);(first|(rw [sizeLine_eq];exact of_decide_eq_true rfl)|omega))|((with_reducible first|refine kZ ?_ ?_|refine kQ ?_ ?_|refine kS ?_ ?_|refine kB ?_ ?_|refine kM ?_ ?_|refine pH ?_ ?_|refine pK ?_ ?_);exact rfl)|((with_reducible first|refine kR ?_ ?_ ?_|refine kT ?_ ?_ ?_|apply kG);exact rfl;exact rfl)|((with_reducible apply gZ);assumption;exact rfl;decide +kernel;exact rfl)|((with_reducible apply kA);assumption;exact rfl;decide +kernel;exact rfl;(first|exact .type _|exact .builtin _);exact rfl)|((with_reducible refine gL ?_ ?_);decide)|((with_reducible refine gK ?_ ?_ ?_);decide;exact PyProof.noPylong_small (by decide))|((with_reducible refine gM ?_ ?_);(first|exact IntMulOk.of_right (intBits_le_64 (by omega) (by omega))|exact IntMulOk.of_left (intBits_le_64 (by omega) (by omega))))|((with_reducible refine kF ?_ ?_ ?_);exact rfl;exact fun _ => rfl)|((with_reducible refine gW ?_ ?_);exact fun _ => rfl)|with_reducible refine pO ?_))
    refine h ⟨s, d, c, lp, p, js⟩ _ rfl rfl ⟨a8.s, a8.d, dd t7, cc c7, ⟨get_ne (by show lp ≠ d; (first|lia|omega)) f7, trivial⟩, ⟨by show d < c; (first|lia|omega), fun i hi => ⟨by have := hge i hi; show d < i; (first|lia|omega), hjl i hi⟩⟩, ⟨by show c < p.t; (first|lia|omega), by show c < p.d; (first|lia|omega), by show c < p.w; (first|lia|omega), by show c < p.o; (first|lia|omega), by show c < p.k; (first|lia|omega)⟩, ⟨b1, b2, b3, b4, b5⟩, by simp⟩ a8.x ?_ (by show σ.length ≤ lp; (first|lia|omega))
    intro i hi
    simp only [List.mem_cons, List.not_mem_nil, or_false] at hi
    rcases hi with rfl | rfl | rfl <;> (first|lia|omega)
theorem smk_spec {W : Wd} {K : Frag} {Cs Ct f ft : Addr} (Cl : ClsIs W K Cs ["n", "clauses", "trail", "proof", "conflicts"]) (M : MethIs W K Cs "__init__" f ["self", "clauses", "n"] (methBody pw 8 0) (methScope pw 8 0)) (ClT : ClsIs W K Ct ["n", "worths", "order", "marks"]) (MT : MethIs W K Ct "__init__" ft ["self", "n"] (methBody pw 6 0) (methScope pw 6 0))
    (gT : W.mg "Trail" = some (.ref Ct)) (hlist : W.mg "list" = none) {lv n lc : Nat} {is : List Nat} {cs : List (List Int)} {σ : AH} {Q : AV → AH → Prop} (hn : n ≤ 1000) (hc : RowsP σ lc is cs) (hz1 : cs.length ≤ 100000) (hz2 : ∀ c ∈ cs, c.length ≤ 100000)
    (h : ∀ q σ', SolAt Cs Ct q n cs ⟨W0 n, [], [], []⟩ 0 [] σ' → Sub σ σ' → (∀ i ∈ q.S, σ.length ≤ i) → Q (.ref q.s) σ') :
    TCall W (lv + 4) (.stat (.ref Cs)) [.ref lc, .int n] Q σ := by
  have hcl := lt_of_get hc.g
  have hil := hc.r.lt
  refine Cl.make M (sinit_spec Cl M ClT MT gT hlist hn (d := σ.length) (by simp) (by simp) (hc.sub (Sub.snoc _ _)) (by (first|lia|omega)) (fun z => by have := hil _ z; (first|lia|omega)) hz1 hz2 fun q σ' e1 e2 hS hF g1 g2 => ⟨rfl, ?_⟩)
  have e3 : Sub σ σ' := fun i o e => hF i o (by have := lt_of_get e; simp; (first|lia|omega)) (Sub.snoc _ _ _ _ e)
  rw [← e1]
  refine h q σ' hS e3 fun i hi => ?_
  simp only [List.length_append] at g1 g2
  simp only [List.mem_cons, List.not_mem_nil, or_false] at hi
  rcases hi with rfl | rfl | rfl | rfl | rfl
  · have := g1 q.p.w (by simp); (first|lia|omega)
  · have := g1 q.p.o (by simp); (first|lia|omega)
  · have := g1 q.p.k (by simp); (first|lia|omega)
  · (first|lia|omega)
  · (first|lia|omega)


theorem learn_spec {W : Wd} {K : Frag} {Cs Ct f fd : Addr} (Cl : ClsIs W K Cs ["n", "clauses", "trail", "proof", "conflicts"]) (M : MethIs W K Cs "learn" f ["self"] (methBody pw 8 1) (methScope pw 8 1)) (ClT : ClsIs W K Ct ["n", "worths", "order", "marks"]) (MD : MethIs W K Ct "decisions" fd ["self"] (methBody pw 6 5) (methScope pw 6 5))
    {lv n : Nat} {q : SolP} {cs : List (List Int)} {st : St} {k : Int} {li : List Nat} {σ : AH} {Q : AV → AH → Prop} (hS : SolAt Cs Ct q n cs st k li σ) (hod : st.od.length ≤ 100000) (hms : st.ms.length ≤ 100000) (hlt : ∀ k ∈ st.ms, k < st.od.length) (hpf : st.pf.length ≤ 1000000)
    (h : ∀ σ' k' li', SolAt Cs Ct q n cs { st with pf := st.pf ++ [(decs st.od st.ms).map fun d => -d] } k' li' σ' → Fx q.S σ σ' → Q .none σ') :
    TCode W (lv + 2) (.stat (.ref f)) [.ref q.s] Q σ := by
  refine code_fn M.fn rfl ?_
  refine kW ?_
  repeat (first|with_reducible refine kW ?_|(first|with_reducible (first|refine pB ?_|refine pF ?_|refine pA ?_|refine kX ?_|refine kY ?_|refine gH ?_|refine gG ?_|refine kD ?_|refine gY ?_|refine kJ ?_|refine gX ?_|refine kL ?_|refine kE ?_|refine kK ?_|refine kC ?_|refine kI ?_|refine kO ?_|refine kP ?_|refine kN ?_|refine pJ ?_|refine pG ?_|refine gB ?_|refine gA ?_|refine pM ?_|refine gJ ?_|refine gN ?_|refine gU ?_|refine gQ ?_|refine gO ?_|refine gV ?_|refine pN ?_)|((with_reducible refine And.intro ?_ ?_);(first|(rw [sizeLine_eq];exact of_decide_eq_true rfl)|omega))|((with_reducible first|refine kZ ?_ ?_|refine kQ ?_ ?_|refine kS ?_ ?_|refine kB ?_ ?_|refine kM ?_ ?_|refine pH ?_ ?_|refine pK ?_ ?_);exact rfl)|((with_reducible first|refine kR ?_ ?_ ?_|refine kT ?_ ?_ ?_|apply kG);exact rfl;exact rfl)|((with_reducible apply gZ);assumption;exact rfl;decide +kernel;exact rfl)|((with_reducible apply kA);assumption;exact rfl;decide +kernel;exact rfl;(first|exact .type _|exact .builtin _);exact rfl)|((with_reducible refine gL ?_ ?_);decide)|((with_reducible refine gK ?_ ?_ ?_);decide;exact PyProof.noPylong_small (by decide))|((with_reducible refine gM ?_ ?_);(first|exact IntMulOk.of_right (intBits_le_64 (by omega) (by omega))|exact IntMulOk.of_left (intBits_le_64 (by omega) (by omega))))|((with_reducible refine kF ?_ ?_ ?_);exact rfl;exact fun _ => rfl)|((with_reducible refine gW ?_ ?_);exact fun _ => rfl)|with_reducible refine pO ?_))
  refine Cl.get hS.s hS.d rfl rfl rfl ?_
  refine tmeth_append hS.f.g ?_
  repeat (first|with_reducible refine kW ?_|(first|with_reducible (first|refine pB ?_|refine pF ?_|refine pA ?_|refine kX ?_|refine kY ?_|refine gH ?_|refine gG ?_|refine kD ?_|refine gY ?_|refine kJ ?_|refine gX ?_|refine kL ?_|refine kE ?_|refine kK ?_|refine kC ?_|refine kI ?_|refine kO ?_|refine kP ?_|refine kN ?_|refine pJ ?_|refine pG ?_|refine gB ?_|refine gA ?_|refine pM ?_|refine gJ ?_|refine gN ?_|refine gU ?_|refine gQ ?_|refine gO ?_|refine gV ?_|refine pN ?_)|((with_reducible refine And.intro ?_ ?_);(first|(rw [sizeLine_eq];exact of_decide_eq_true rfl)|omega))|((with_reducible first|refine kZ ?_ ?_|refine kQ ?_ ?_|refine kS ?_ ?_|refine kB ?_ ?_|refine kM ?_ ?_|refine pH ?_ ?_|refine pK ?_ ?_);exact rfl)|((with_reducible first|refine kR ?_ ?_ ?_|refine kT ?_ ?_ ?_|apply kG);exact rfl;exact rfl)|((with_reducible apply gZ);assumption;exact rfl;decide +kernel;exact rfl)|((with_reducible apply kA);assumption;exact rfl;decide +kernel;exact rfl;(first|exact .type _|exact .builtin _);exact rfl)|((with_reducible refine gL ?_ ?_);decide)|((with_reducible refine gK ?_ ?_ ?_);decide;exact PyProof.noPylong_small (by decide))|((with_reducible refine gM ?_ ?_);(first|exact IntMulOk.of_right (intBits_le_64 (by omega) (by omega))|exact IntMulOk.of_left (intBits_le_64 (by omega) (by omega))))|((with_reducible refine kF ?_ ?_ ?_);exact rfl;exact fun _ => rfl)|((with_reducible refine gW ?_ ?_);exact fun _ => rfl)|with_reducible refine pO ?_))
  refine te_comp rfl rfl ?_
  repeat (first|with_reducible refine kW ?_|(first|with_reducible (first|refine pB ?_|refine pF ?_|refine pA ?_|refine kX ?_|refine kY ?_|refine gH ?_|refine gG ?_|refine kD ?_|refine gY ?_|refine kJ ?_|refine gX ?_|refine kL ?_|refine kE ?_|refine kK ?_|refine kC ?_|refine kI ?_|refine kO ?_|refine kP ?_|refine kN ?_|refine pJ ?_|refine pG ?_|refine gB ?_|refine gA ?_|refine pM ?_|refine gJ ?_|refine gN ?_|refine gU ?_|refine gQ ?_|refine gO ?_|refine gV ?_|refine pN ?_)|((with_reducible refine And.intro ?_ ?_);(first|(rw [sizeLine_eq];exact of_decide_eq_true rfl)|omega))|((with_reducible first|refine kZ ?_ ?_|refine kQ ?_ ?_|refine kS ?_ ?_|refine kB ?_ ?_|refine kM ?_ ?_|refine pH ?_ ?_|refine pK ?_ ?_);exact rfl)|((with_reducible first|refine kR ?_ ?_ ?_|refine kT ?_ ?_ ?_|apply kG);exact rfl;exact rfl)|((with_reducible apply gZ);assumption;exact rfl;decide +kernel;exact rfl)|((with_reducible apply kA);assumption;exact rfl;decide +kernel;exact rfl;(first|exact .type _|exact .builtin _);exact rfl)|((with_reducible refine gL ?_ ?_);decide)|((with_reducible refine gK ?_ ?_ ?_);decide;exact PyProof.noPylong_small (by decide))|((with_reducible refine gM ?_ ?_);(first|exact IntMulOk.of_right (intBits_le_64 (by omega) (by omega))|exact IntMulOk.of_left (intBits_le_64 (by omega) (by omega))))|((with_reducible refine kF ?_ ?_ ?_);exact rfl;exact fun _ => rfl)|((with_reducible refine gW ?_ ?_);exact fun _ => rfl)|with_reducible refine pO ?_))
  refine Cl.get hS.s hS.d rfl rfl rfl ?_
  refine ClT.meth MD hS.t.t hS.t.d rfl ?_
  repeat (first|with_reducible refine kW ?_|(first|with_reducible (first|refine pB ?_|refine pF ?_|refine pA ?_|refine kX ?_|refine kY ?_|refine gH ?_|refine gG ?_|refine kD ?_|refine gY ?_|refine kJ ?_|refine gX ?_|refine kL ?_|refine kE ?_|refine kK ?_|refine kC ?_|refine kI ?_|refine kO ?_|refine kP ?_|refine kN ?_|refine pJ ?_|refine pG ?_|refine gB ?_|refine gA ?_|refine pM ?_|refine gJ ?_|refine gN ?_|refine gU ?_|refine gQ ?_|refine gO ?_|refine gV ?_|refine pN ?_)|((with_reducible refine And.intro ?_ ?_);(first|(rw [sizeLine_eq];exact of_decide_eq_true rfl)|omega))|((with_reducible first|refine kZ ?_ ?_|refine kQ ?_ ?_|refine kS ?_ ?_|refine kB ?_ ?_|refine kM ?_ ?_|refine pH ?_ ?_|refine pK ?_ ?_);exact rfl)|((with_reducible first|refine kR ?_ ?_ ?_|refine kT ?_ ?_ ?_|apply kG);exact rfl;exact rfl)|((with_reducible apply gZ);assumption;exact rfl;decide +kernel;exact rfl)|((with_reducible apply kA);assumption;exact rfl;decide +kernel;exact rfl;(first|exact .type _|exact .builtin _);exact rfl)|((with_reducible refine gL ?_ ?_);decide)|((with_reducible refine gK ?_ ?_ ?_);decide;exact PyProof.noPylong_small (by decide))|((with_reducible refine gM ?_ ?_);(first|exact IntMulOk.of_right (intBits_le_64 (by omega) (by omega))|exact IntMulOk.of_left (intBits_le_64 (by omega) (by omega))))|((with_reducible refine kF ?_ ?_ ?_);exact rfl;exact fun _ => rfl)|((with_reducible refine gW ?_ ?_);exact fun _ => rfl)|with_reducible refine pO ?_))
  refine (decisions_spec ClT MD hS.t hod hms hlt fun σ1 sub1 => ?_).call
  have hdl : (decs st.od st.ms).length = st.ms.length := by simp [decs]
  have e0 : (st.ms.map fun k => (st.od[k]?).getD 0) = decs st.od st.ms := rfl
  rw [e0]
  generalize decs st.od st.ms = ds at *
  have hg1 : (σ1 ++ [.list (ds.map .int)])[σ1.length]? = some (.list (ds.map .int)) := get_snoc _ _
  have sub1 := sub1.trans (Sub.snoc σ1 [.list (ds.map .int)])
  generalize σ1.length = l1 at *
  generalize σ1 ++ [.list (ds.map .int)] = σ2 at *
  refine ⟨_, _, fun i acc σ' => acc = ((ds.take i).map fun d => -d).map .int ∧ σ' = σ2, .inl ⟨_, _, rfl, rfl, fun _ _ => rfl, hg1, fun i acc σ' _ j => by rw [j.2]; exact hg1⟩, by rw [sizeLine_eq]; simp; (first|lia|omega), ⟨by simp, rfl⟩, ?_, ?_⟩
  · rintro i acc σ' hi ⟨rfl, e⟩
    have e := e.symm
    subst e
    simp only [List.length_map] at hi
    refine tifs_nil ?_
    rw [if_pos rfl, List.getElem?_map, List.getElem?_eq_getElem hi, Option.map_some, Option.getD_some]
    repeat (first|with_reducible refine kW ?_|(first|with_reducible (first|refine pB ?_|refine pF ?_|refine pA ?_|refine kX ?_|refine kY ?_|refine gH ?_|refine gG ?_|refine kD ?_|refine gY ?_|refine kJ ?_|refine gX ?_|refine kL ?_|refine kE ?_|refine kK ?_|refine kC ?_|refine kI ?_|refine kO ?_|refine kP ?_|refine kN ?_|refine pJ ?_|refine pG ?_|refine gB ?_|refine gA ?_|refine pM ?_|refine gJ ?_|refine gN ?_|refine gU ?_|refine gQ ?_|refine gO ?_|refine gV ?_|refine pN ?_)|((with_reducible refine And.intro ?_ ?_);(first|(rw [sizeLine_eq];exact of_decide_eq_true rfl)|omega))|((with_reducible first|refine kZ ?_ ?_|refine kQ ?_ ?_|refine kS ?_ ?_|refine kB ?_ ?_|refine kM ?_ ?_|refine pH ?_ ?_|refine pK ?_ ?_);exact rfl)|((with_reducible first|refine kR ?_ ?_ ?_|refine kT ?_ ?_ ?_|apply kG);exact rfl;exact rfl)|((with_reducible apply gZ);assumption;exact rfl;decide +kernel;exact rfl)|((with_reducible apply kA);assumption;exact rfl;decide +kernel;exact rfl;(first|exact .type _|exact .builtin _);exact rfl)|((with_reducible refine gL ?_ ?_);decide)|((with_reducible refine gK ?_ ?_ ?_);decide;exact PyProof.noPylong_small (by decide))|((with_reducible refine gM ?_ ?_);(first|exact IntMulOk.of_right (intBits_le_64 (by omega) (by omega))|exact IntMulOk.of_left (intBits_le_64 (by omega) (by omega))))|((with_reducible refine kF ?_ ?_ ?_);exact rfl;exact fun _ => rfl)|((with_reducible refine gW ?_ ?_);exact fun _ => rfl)|with_reducible refine pO ?_))
    refine ⟨?_, rfl⟩
    rw [List.take_add_one, List.getElem?_eq_getElem hi]
    simp only [Option.toList_some, List.map_append, List.map_cons, List.map_nil]
  · rintro acc σ' ⟨rfl, e⟩
    have e := e.symm
    subst e
    rw [List.length_map, List.take_length]
    have hS2 := hS.sub (sub1.trans (Sub.snoc σ2 [.list ((ds.map fun d => -d).map .int)]))
    have hlq : q.l < σ2.length := lt_of_get (sub1 _ _ hS.f.g)
    have hll : li.length = st.pf.length := hS.f.r.length
    repeat (first|with_reducible refine kW ?_|(first|with_reducible (first|refine pB ?_|refine pF ?_|refine pA ?_|refine kX ?_|refine kY ?_|refine gH ?_|refine gG ?_|refine kD ?_|refine gY ?_|refine kJ ?_|refine gX ?_|refine kL ?_|refine kE ?_|refine kK ?_|refine kC ?_|refine kI ?_|refine kO ?_|refine kP ?_|refine kN ?_|refine pJ ?_|refine pG ?_|refine gB ?_|refine gA ?_|refine pM ?_|refine gJ ?_|refine gN ?_|refine gU ?_|refine gQ ?_|refine gO ?_|refine gV ?_|refine pN ?_)|((with_reducible refine And.intro ?_ ?_);(first|(rw [sizeLine_eq];exact of_decide_eq_true rfl)|omega))|((with_reducible first|refine kZ ?_ ?_|refine kQ ?_ ?_|refine kS ?_ ?_|refine kB ?_ ?_|refine kM ?_ ?_|refine pH ?_ ?_|refine pK ?_ ?_);exact rfl)|((with_reducible first|refine kR ?_ ?_ ?_|refine kT ?_ ?_ ?_|apply kG);exact rfl;exact rfl)|((with_reducible apply gZ);assumption;exact rfl;decide +kernel;exact rfl)|((with_reducible apply kA);assumption;exact rfl;decide +kernel;exact rfl;(first|exact .type _|exact .builtin _);exact rfl)|((with_reducible refine gL ?_ ?_);decide)|((with_reducible refine gK ?_ ?_ ?_);decide;exact PyProof.noPylong_small (by decide))|((with_reducible refine gM ?_ ?_);(first|exact IntMulOk.of_right (intBits_le_64 (by omega) (by omega))|exact IntMulOk.of_left (intBits_le_64 (by omega) (by omega))))|((with_reducible refine kF ?_ ?_ ?_);exact rfl;exact fun _ => rfl)|((with_reducible refine gW ?_ ?_);exact fun _ => rfl)|with_reducible refine pO ?_))
    refine tcall_append hS2.f.g (by rw [sizeLine_eq]; simp; (first|lia|omega)) ?_
    have hS3 := hS2.push hlq (get_snoc σ2 (.list ((ds.map fun d => -d).map .int)))
    have hF3 : Fx q.S σ ((σ2 ++ [AO.list ((ds.map fun d => -d).map AV.int)]).set q.l (AO.list (li.map AV.ref ++ [AV.ref σ2.length]))) := (Fx.of (sub1.trans (Sub.snoc _ _))).trans (Fx.set (by simp))
    generalize (σ2 ++ [AO.list ((ds.map fun d => -d).map AV.int)]).set q.l (AO.list (li.map AV.ref ++ [AV.ref σ2.length])) = σ3 at *
    repeat (first|with_reducible refine kW ?_|(first|with_reducible (first|refine pB ?_|refine pF ?_|refine pA ?_|refine kX ?_|refine kY ?_|refine gH ?_|refine gG ?_|refine kD ?_|refine gY ?_|refine kJ ?_|refine gX ?_|refine kL ?_|refine kE ?_|refine kK ?_|refine kC ?_|refine kI ?_|refine kO ?_|refine kP ?_|refine kN ?_|refine pJ ?_|refine pG ?_|refine gB ?_|refine gA ?_|refine pM ?_|refine gJ ?_|refine gN ?_|refine gU ?_|refine gQ ?_|refine gO ?_|refine gV ?_|refine pN ?_)|((with_reducible refine And.intro ?_ ?_);(first|(rw [sizeLine_eq];exact of_decide_eq_true rfl)|omega))|((with_reducible first|refine kZ ?_ ?_|refine kQ ?_ ?_|refine kS ?_ ?_|refine kB ?_ ?_|refine kM ?_ ?_|refine pH ?_ ?_|refine pK ?_ ?_);exact rfl)|((with_reducible first|refine kR ?_ ?_ ?_|refine kT ?_ ?_ ?_|apply kG);exact rfl;exact rfl)|((with_reducible apply gZ);assumption;exact rfl;decide +kernel;exact rfl)|((with_reducible apply kA);assumption;exact rfl;decide +kernel;exact rfl;(first|exact .type _|exact .builtin _);exact rfl)|((with_reducible refine gL ?_ ?_);decide)|((with_reducible refine gK ?_ ?_ ?_);decide;exact PyProof.noPylong_small (by decide))|((with_reducible refine gM ?_ ?_);(first|exact IntMulOk.of_right (intBits_le_64 (by omega) (by omega))|exact IntMulOk.of_left (intBits_le_64 (by omega) (by omega))))|((with_reducible refine kF ?_ ?_ ?_);exact rfl;exact fun _ => rfl)|((with_reducible refine gW ?_ ?_);exact fun _ => rfl)|with_reducible refine pO ?_))
    refine ts_aug_attr ?_
    repeat (first|with_reducible refine kW ?_|(first|with_reducible (first|refine pB ?_|refine pF ?_|refine pA ?_|refine kX ?_|refine kY ?_|refine gH ?_|refine gG ?_|refine kD ?_|refine gY ?_|refine kJ ?_|refine gX ?_|refine kL ?_|refine kE ?_|refine kK ?_|refine kC ?_|refine kI ?_|refine kO ?_|refine kP ?_|refine kN ?_|refine pJ ?_|refine pG ?_|refine gB ?_|refine gA ?_|refine pM ?_|refine gJ ?_|refine gN ?_|refine gU ?_|refine gQ ?_|refine gO ?_|refine gV ?_|refine pN ?_)|((with_reducible refine And.intro ?_ ?_);(first|(rw [sizeLine_eq];exact of_decide_eq_true rfl)|omega))|((with_reducible first|refine kZ ?_ ?_|refine kQ ?_ ?_|refine kS ?_ ?_|refine kB ?_ ?_|refine kM ?_ ?_|refine pH ?_ ?_|refine pK ?_ ?_);exact rfl)|((with_reducible first|refine kR ?_ ?_ ?_|refine kT ?_ ?_ ?_|apply kG);exact rfl;exact rfl)|((with_reducible apply gZ);assumption;exact rfl;decide +kernel;exact rfl)|((with_reducible apply kA);assumption;exact rfl;decide +kernel;exact rfl;(first|exact .type _|exact .builtin _);exact rfl)|((with_reducible refine gL ?_ ?_);decide)|((with_reducible refine gK ?_ ?_ ?_);decide;exact PyProof.noPylong_small (by decide))|((with_reducible refine gM ?_ ?_);(first|exact IntMulOk.of_right (intBits_le_64 (by omega) (by omega))|exact IntMulOk.of_left (intBits_le_64 (by omega) (by omega))))|((with_reducible refine kF ?_ ?_ ?_);exact rfl;exact fun _ => rfl)|((with_reducible refine gW ?_ ?_);exact fun _ => rfl)|with_reducible refine pO ?_))
    refine Cl.get hS3.s hS3.d rfl rfl rfl ?_
    repeat (first|with_reducible refine kW ?_|(first|with_reducible (first|refine pB ?_|refine pF ?_|refine pA ?_|refine kX ?_|refine kY ?_|refine gH ?_|refine gG ?_|refine kD ?_|refine gY ?_|refine kJ ?_|refine gX ?_|refine kL ?_|refine kE ?_|refine kK ?_|refine kC ?_|refine kI ?_|refine kO ?_|refine kP ?_|refine kN ?_|refine pJ ?_|refine pG ?_|refine gB ?_|refine gA ?_|refine pM ?_|refine gJ ?_|refine gN ?_|refine gU ?_|refine gQ ?_|refine gO ?_|refine gV ?_|refine pN ?_)|((with_reducible refine And.intro ?_ ?_);(first|(rw [sizeLine_eq];exact of_decide_eq_true rfl)|omega))|((with_reducible first|refine kZ ?_ ?_|refine kQ ?_ ?_|refine kS ?_ ?_|refine kB ?_ ?_|refine kM ?_ ?_|refine pH ?_ ?_|refine pK ?_ ?_);exact rfl)|((with_reducible first|refine kR ?_ ?_ ?_|refine kT ?_ ?_ ?_|apply kG);exact rfl;exact rfl)|((with_reducible apply gZ);assumption;exact rfl;decide +kernel;exact rfl)|((with_reducible apply kA);assumption;exact rfl;decide +kernel;exact rfl;(first|exact .type _|exact .builtin _);exact rfl)|((with_reducible refine gL ?_ ?_);decide)|((with_reducible refine gK ?_ ?_ ?_);decide;exact PyProof.noPylong_small (by decide))|((with_reducible refine gM ?_ ?_);(first|exact IntMulOk.of_right (intBits_le_64 (by omega) (by omega))|exact IntMulOk.of_left (intBits_le_64 (by omega) (by omega))))|((with_reducible refine kF ?_ ?_ ?_);exact rfl;exact fun _ => rfl)|((with_reducible refine gW ?_ ?_);exact fun _ => rfl)|with_reducible refine pO ?_))
    refine tinp_addI ?_
    refine Cl.set hS3.s hS3.d rfl (by simp) (fs' := solFs n q (k + 1)) rfl ?_
    repeat (first|with_reducible refine kW ?_|(first|with_reducible (first|refine pB ?_|refine pF ?_|refine pA ?_|refine kX ?_|refine kY ?_|refine gH ?_|refine gG ?_|refine kD ?_|refine gY ?_|refine kJ ?_|refine gX ?_|refine kL ?_|refine kE ?_|refine kK ?_|refine kC ?_|refine kI ?_|refine kO ?_|refine kP ?_|refine kN ?_|refine pJ ?_|refine pG ?_|refine gB ?_|refine gA ?_|refine pM ?_|refine gJ ?_|refine gN ?_|refine gU ?_|refine gQ ?_|refine gO ?_|refine gV ?_|refine pN ?_)|((with_reducible refine And.intro ?_ ?_);(first|(rw [sizeLine_eq];exact of_decide_eq_true rfl)|omega))|((with_reducible first|refine kZ ?_ ?_|refine kQ ?_ ?_|refine kS ?_ ?_|refine kB ?_ ?_|refine kM ?_ ?_|refine pH ?_ ?_|refine pK ?_ ?_);exact rfl)|((with_reducible first|refine kR ?_ ?_ ?_|refine kT ?_ ?_ ?_|apply kG);exact rfl;exact rfl)|((with_reducible apply gZ);assumption;exact rfl;decide +kernel;exact rfl)|((with_reducible apply kA);assumption;exact rfl;decide +kernel;exact rfl;(first|exact .type _|exact .builtin _);exact rfl)|((with_reducible refine gL ?_ ?_);decide)|((with_reducible refine gK ?_ ?_ ?_);decide;exact PyProof.noPylong_small (by decide))|((with_reducible refine gM ?_ ?_);(first|exact IntMulOk.of_right (intBits_le_64 (by omega) (by omega))|exact IntMulOk.of_left (intBits_le_64 (by omega) (by omega))))|((with_reducible refine kF ?_ ?_ ?_);exact rfl;exact fun _ => rfl)|((with_reducible refine gW ?_ ?_);exact fun _ => rfl)|with_reducible refine pO ?_))
    exact h _ (k + 1) _ hS3.cnt (hF3.trans (Fx.set (by simp)))


theorem back_spec {W : Wd} {K : Frag} {Cs Ct f fl fd fu fa : Addr} (Cl : ClsIs W K Cs ["n", "clauses", "trail", "proof", "conflicts"]) (M : MethIs W K Cs "backtrack" f ["self"] (methBody pw 8 2) (methScope pw 8 2)) (ML : MethIs W K Cs "learn" fl ["self"] (methBody pw 8 1) (methScope pw 8 1)) (ClT : ClsIs W K Ct ["n", "worths", "order", "marks"]) (MD : MethIs W K Ct "decisions" fd ["self"] (methBody pw 6 5) (methScope pw 6 5)) (MU : MethIs W K Ct "undo_last_decision" fu ["self"] (methBody pw 6 4) (methScope pw 6 4)) (MA : MethIs W K Ct "assign" fa ["self", "lit"] (methBody pw 6 2) (methScope pw 6 2)) (hlen : W.mg "len" = none) (habs : W.mg "abs" = none)
    {lv n : Nat} {q : SolP} {cs : List (List Int)} {st : St} {k : Int} {li : List Nat} {σ : AH} {Q : AV → AH → Prop} (hS : SolAt Cs Ct q n cs st k li σ) (hO : StOk n st) (hn : n ≤ 1000) (hpf : st.pf.length ≤ 1000000)
    (h0 : st.ms.getLast? = none → ∀ σ' k' li', SolAt Cs Ct q n cs { st with pf := st.pf ++ [(decs st.od st.ms).map fun d => -d] } k' li' σ' → Fx q.S σ σ' → Q (.bool false) σ')
    (h1 : ∀ j, st.ms.getLast? = some j → ∀ σ' k' li', SolAt Cs Ct q n cs ⟨wset (wipe st.ws (st.od.drop j)) (-((st.od[j]?).getD 0)), st.od.take j ++ [-((st.od[j]?).getD 0)], st.ms.dropLast, st.pf ++ [(decs st.od st.ms).map fun d => -d]⟩ k' li' σ' → Fx q.S σ σ' → Q (.bool true) σ') :
    TCode W (lv + 3) (.stat (.ref f)) [.ref q.s] Q σ := by
  have hol := hO.t.ok.len
  have hml := pw_bound _ _ hO.inc hO.lt
  refine code_fn M.fn rfl ?_
  refine kW ?_
  repeat (first|with_reducible refine kW ?_|(first|with_reducible (first|refine pB ?_|refine pF ?_|refine pA ?_|refine kX ?_|refine kY ?_|refine gH ?_|refine gG ?_|refine kD ?_|refine gY ?_|refine kJ ?_|refine gX ?_|refine kL ?_|refine kE ?_|refine kK ?_|refine kC ?_|refine kI ?_|refine kO ?_|refine kP ?_|refine kN ?_|refine pJ ?_|refine pG ?_|refine gB ?_|refine gA ?_|refine pM ?_|refine gJ ?_|refine gN ?_|refine gU ?_|refine gQ ?_|refine gO ?_|refine gV ?_|refine pN ?_)|((with_reducible refine And.intro ?_ ?_);(first|(rw [sizeLine_eq];exact of_decide_eq_true rfl)|omega))|((with_reducible first|refine kZ ?_ ?_|refine kQ ?_ ?_|refine kS ?_ ?_|refine kB ?_ ?_|refine kM ?_ ?_|refine pH ?_ ?_|refine pK ?_ ?_);exact rfl)|((with_reducible first|refine kR ?_ ?_ ?_|refine kT ?_ ?_ ?_|apply kG);exact rfl;exact rfl)|((with_reducible apply gZ);assumption;exact rfl;decide +kernel;exact rfl)|((with_reducible apply kA);assumption;exact rfl;decide +kernel;exact rfl;(first|exact .type _|exact .builtin _);exact rfl)|((with_reducible refine gL ?_ ?_);decide)|((with_reducible refine gK ?_ ?_ ?_);decide;exact PyProof.noPylong_small (by decide))|((with_reducible refine gM ?_ ?_);(first|exact IntMulOk.of_right (intBits_le_64 (by omega) (by omega))|exact IntMulOk.of_left (intBits_le_64 (by omega) (by omega))))|((with_reducible refine kF ?_ ?_ ?_);exact rfl;exact fun _ => rfl)|((with_reducible refine gW ?_ ?_);exact fun _ => rfl)|with_reducible refine pO ?_))
  refine Cl.meth ML hS.s hS.d rfl ?_
  repeat (first|with_reducible refine kW ?_|(first|with_reducible (first|refine pB ?_|refine pF ?_|refine pA ?_|refine kX ?_|refine kY ?_|refine gH ?_|refine gG ?_|refine kD ?_|refine gY ?_|refine kJ ?_|refine gX ?_|refine kL ?_|refine kE ?_|refine kK ?_|refine kC ?_|refine kI ?_|refine kO ?_|refine kP ?_|refine kN ?_|refine pJ ?_|refine pG ?_|refine gB ?_|refine gA ?_|refine pM ?_|refine gJ ?_|refine gN ?_|refine gU ?_|refine gQ ?_|refine gO ?_|refine gV ?_|refine pN ?_)|((with_reducible refine And.intro ?_ ?_);(first|(rw [sizeLine_eq];exact of_decide_eq_true rfl)|omega))|((with_reducible first|refine kZ ?_ ?_|refine kQ ?_ ?_|refine kS ?_ ?_|refine kB ?_ ?_|refine kM ?_ ?_|refine pH ?_ ?_|refine pK ?_ ?_);exact rfl)|((with_reducible first|refine kR ?_ ?_ ?_|refine kT ?_ ?_ ?_|apply kG);exact rfl;exact rfl)|((with_reducible apply gZ);assumption;exact rfl;decide +kernel;exact rfl)|((with_reducible apply kA);assumption;exact rfl;decide +kernel;exact rfl;(first|exact .type _|exact .builtin _);exact rfl)|((with_reducible refine gL ?_ ?_);decide)|((with_reducible refine gK ?_ ?_ ?_);decide;exact PyProof.noPylong_small (by decide))|((with_reducible refine gM ?_ ?_);(first|exact IntMulOk.of_right (intBits_le_64 (by omega) (by omega))|exact IntMulOk.of_left (intBits_le_64 (by omega) (by omega))))|((with_reducible refine kF ?_ ?_ ?_);exact rfl;exact fun _ => rfl)|((with_reducible refine gW ?_ ?_);exact fun _ => rfl)|with_reducible refine pO ?_))
  refine (learn_spec Cl ML ClT MD hS (by (first|lia|omega)) (by (first|lia|omega)) hO.lt hpf fun σ1 k1 li1 hS1 hF1 => ?_).call
  repeat (first|with_reducible refine kW ?_|(first|with_reducible (first|refine pB ?_|refine pF ?_|refine pA ?_|refine kX ?_|refine kY ?_|refine gH ?_|refine gG ?_|refine kD ?_|refine gY ?_|refine kJ ?_|refine gX ?_|refine kL ?_|refine kE ?_|refine kK ?_|refine kC ?_|refine kI ?_|refine kO ?_|refine kP ?_|refine kN ?_|refine pJ ?_|refine pG ?_|refine gB ?_|refine gA ?_|refine pM ?_|refine gJ ?_|refine gN ?_|refine gU ?_|refine gQ ?_|refine gO ?_|refine gV ?_|refine pN ?_)|((with_reducible refine And.intro ?_ ?_);(first|(rw [sizeLine_eq];exact of_decide_eq_true rfl)|omega))|((with_reducible first|refine kZ ?_ ?_|refine kQ ?_ ?_|refine kS ?_ ?_|refine kB ?_ ?_|refine kM ?_ ?_|refine pH ?_ ?_|refine pK ?_ ?_);exact rfl)|((with_reducible first|refine kR ?_ ?_ ?_|refine kT ?_ ?_ ?_|apply kG);exact rfl;exact rfl)|((with_reducible apply gZ);assumption;exact rfl;decide +kernel;exact rfl)|((with_reducible apply kA);assumption;exact rfl;decide +kernel;exact rfl;(first|exact .type _|exact .builtin _);exact rfl)|((with_reducible refine gL ?_ ?_);decide)|((with_reducible refine gK ?_ ?_ ?_);decide;exact PyProof.noPylong_small (by decide))|((with_reducible refine gM ?_ ?_);(first|exact IntMulOk.of_right (intBits_le_64 (by omega) (by omega))|exact IntMulOk.of_left (intBits_le_64 (by omega) (by omega))))|((with_reducible refine kF ?_ ?_ ?_);exact rfl;exact fun _ => rfl)|((with_reducible refine gW ?_ ?_);exact fun _ => rfl)|with_reducible refine pO ?_))
  refine Cl.get hS1.s hS1.d rfl rfl rfl ?_
  repeat (first|with_reducible refine kW ?_|(first|with_reducible (first|refine pB ?_|refine pF ?_|refine pA ?_|refine kX ?_|refine kY ?_|refine gH ?_|refine gG ?_|refine kD ?_|refine gY ?_|refine kJ ?_|refine gX ?_|refine kL ?_|refine kE ?_|refine kK ?_|refine kC ?_|refine kI ?_|refine kO ?_|refine kP ?_|refine kN ?_|refine pJ ?_|refine pG ?_|refine gB ?_|refine gA ?_|refine pM ?_|refine gJ ?_|refine gN ?_|refine gU ?_|refine gQ ?_|refine gO ?_|refine gV ?_|refine pN ?_)|((with_reducible refine And.intro ?_ ?_);(first|(rw [sizeLine_eq];exact of_decide_eq_true rfl)|omega))|((with_reducible first|refine kZ ?_ ?_|refine kQ ?_ ?_|refine kS ?_ ?_|refine kB ?_ ?_|refine kM ?_ ?_|refine pH ?_ ?_|refine pK ?_ ?_);exact rfl)|((with_reducible first|refine kR ?_ ?_ ?_|refine kT ?_ ?_ ?_|apply kG);exact rfl;exact rfl)|((with_reducible apply gZ);assumption;exact rfl;decide +kernel;exact rfl)|((with_reducible apply kA);assumption;exact rfl;decide +kernel;exact rfl;(first|exact .type _|exact .builtin _);exact rfl)|((with_reducible refine gL ?_ ?_);decide)|((with_reducible refine gK ?_ ?_ ?_);decide;exact PyProof.noPylong_small (by decide))|((with_reducible refine gM ?_ ?_);(first|exact IntMulOk.of_right (intBits_le_64 (by omega) (by omega))|exact IntMulOk.of_left (intBits_le_64 (by omega) (by omega))))|((with_reducible refine kF ?_ ?_ ?_);exact rfl;exact fun _ => rfl)|((with_reducible refine gW ?_ ?_);exact fun _ => rfl)|with_reducible refine pO ?_))
  refine ClT.get hS1.t.t hS1.t.d rfl rfl rfl ?_
  repeat (first|with_reducible refine kW ?_|(first|with_reducible (first|refine pB ?_|refine pF ?_|refine pA ?_|refine kX ?_|refine kY ?_|refine gH ?_|refine gG ?_|refine kD ?_|refine gY ?_|refine kJ ?_|refine gX ?_|refine kL ?_|refine kE ?_|refine kK ?_|refine kC ?_|refine kI ?_|refine kO ?_|refine kP ?_|refine kN ?_|refine pJ ?_|refine pG ?_|refine gB ?_|refine gA ?_|refine pM ?_|refine gJ ?_|refine gN ?_|refine gU ?_|refine gQ ?_|refine gO ?_|refine gV ?_|refine pN ?_)|((with_reducible refine And.intro ?_ ?_);(first|(rw [sizeLine_eq];exact of_decide_eq_true rfl)|omega))|((with_reducible first|refine kZ ?_ ?_|refine kQ ?_ ?_|refine kS ?_ ?_|refine kB ?_ ?_|refine kM ?_ ?_|refine pH ?_ ?_|refine pK ?_ ?_);exact rfl)|((with_reducible first|refine kR ?_ ?_ ?_|refine kT ?_ ?_ ?_|apply kG);exact rfl;exact rfl)|((with_reducible apply gZ);assumption;exact rfl;decide +kernel;exact rfl)|((with_reducible apply kA);assumption;exact rfl;decide +kernel;exact rfl;(first|exact .type _|exact .builtin _);exact rfl)|((with_reducible refine gL ?_ ?_);decide)|((with_reducible refine gK ?_ ?_ ?_);decide;exact PyProof.noPylong_small (by decide))|((with_reducible refine gM ?_ ?_);(first|exact IntMulOk.of_right (intBits_le_64 (by omega) (by omega))|exact IntMulOk.of_left (intBits_le_64 (by omega) (by omega))))|((with_reducible refine kF ?_ ?_ ?_);exact rfl;exact fun _ => rfl)|((with_reducible refine gW ?_ ?_);exact fun _ => rfl)|with_reducible refine pO ?_))
  refine tcall_len hS1.t.k (by simp [mkl]; (first|lia|omega)) ?_
  have el : ((mkl st.ms).map AV.int).length = st.ms.length := by simp [mkl]
  cases hg : st.ms.getLast? with
  | none =>
    have hms : st.ms = [] := List.getLast?_eq_none_iff.mp hg
    have el : ((List.map AV.int (mkl st.ms)).length : Int) = 0 := by rw [hms]; rfl
    repeat (first|with_reducible refine kW ?_|(first|with_reducible (first|refine pB ?_|refine pF ?_|refine pA ?_|refine kX ?_|refine kY ?_|refine gH ?_|refine gG ?_|refine kD ?_|refine gY ?_|refine kJ ?_|refine gX ?_|refine kL ?_|refine kE ?_|refine kK ?_|refine kC ?_|refine kI ?_|refine kO ?_|refine kP ?_|refine kN ?_|refine pJ ?_|refine pG ?_|refine gB ?_|refine gA ?_|refine pM ?_|refine gJ ?_|refine gN ?_|refine gU ?_|refine gQ ?_|refine gO ?_|refine gV ?_|refine pN ?_)|((with_reducible refine And.intro ?_ ?_);(first|(rw [sizeLine_eq];exact of_decide_eq_true rfl)|omega))|((with_reducible first|refine kZ ?_ ?_|refine kQ ?_ ?_|refine kS ?_ ?_|refine kB ?_ ?_|refine kM ?_ ?_|refine pH ?_ ?_|refine pK ?_ ?_);exact rfl)|((with_reducible first|refine kR ?_ ?_ ?_|refine kT ?_ ?_ ?_|apply kG);exact rfl;exact rfl)|((with_reducible apply gZ);assumption;exact rfl;decide +kernel;exact rfl)|((with_reducible apply kA);assumption;exact rfl;decide +kernel;exact rfl;(first|exact .type _|exact .builtin _);exact rfl)|((with_reducible refine gL ?_ ?_);decide)|((with_reducible refine gK ?_ ?_ ?_);decide;exact PyProof.noPylong_small (by decide))|((with_reducible refine gM ?_ ?_);(first|exact IntMulOk.of_right (intBits_le_64 (by omega) (by omega))|exact IntMulOk.of_left (intBits_le_64 (by omega) (by omega))))|((with_reducible refine kF ?_ ?_ ?_);exact rfl;exact fun _ => rfl)|((with_reducible refine gW ?_ ?_);exact fun _ => rfl)|with_reducible refine pO ?_))
    rw [if_pos (by simp [hms, mkl])]
    repeat (first|with_reducible refine kW ?_|(first|with_reducible (first|refine pB ?_|refine pF ?_|refine pA ?_|refine kX ?_|refine kY ?_|refine gH ?_|refine gG ?_|refine kD ?_|refine gY ?_|refine kJ ?_|refine gX ?_|refine kL ?_|refine kE ?_|refine kK ?_|refine kC ?_|refine kI ?_|refine kO ?_|refine kP ?_|refine kN ?_|refine pJ ?_|refine pG ?_|refine gB ?_|refine gA ?_|refine pM ?_|refine gJ ?_|refine gN ?_|refine gU ?_|refine gQ ?_|refine gO ?_|refine gV ?_|refine pN ?_)|((with_reducible refine And.intro ?_ ?_);(first|(rw [sizeLine_eq];exact of_decide_eq_true rfl)|omega))|((with_reducible first|refine kZ ?_ ?_|refine kQ ?_ ?_|refine kS ?_ ?_|refine kB ?_ ?_|refine kM ?_ ?_|refine pH ?_ ?_|refine pK ?_ ?_);exact rfl)|((with_reducible first|refine kR ?_ ?_ ?_|refine kT ?_ ?_ ?_|apply kG);exact rfl;exact rfl)|((with_reducible apply gZ);assumption;exact rfl;decide +kernel;exact rfl)|((with_reducible apply kA);assumption;exact rfl;decide +kernel;exact rfl;(first|exact .type _|exact .builtin _);exact rfl)|((with_reducible refine gL ?_ ?_);decide)|((with_reducible refine gK ?_ ?_ ?_);decide;exact PyProof.noPylong_small (by decide))|((with_reducible refine gM ?_ ?_);(first|exact IntMulOk.of_right (intBits_le_64 (by omega) (by omega))|exact IntMulOk.of_left (intBits_le_64 (by omega) (by omega))))|((with_reducible refine kF ?_ ?_ ?_);exact rfl;exact fun _ => rfl)|((with_reducible refine gW ?_ ?_);exact fun _ => rfl)|with_reducible refine pO ?_))
    exact h0 hg _ _ _ hS1 hF1
  | some j =>
    obtain ⟨mk', hmk⟩ := List.getLast?_eq_some_iff.mp hg
    have hj := hO.lt j (by rw [hmk]; simp)
    have hin := hO.t.ok
    have hjR := hin.r _ (List.getElem_mem hj)
    have hT1 : TrAt Ct q.p n st.ws st.od (mkl mk' ++ [(j : Int)]) σ1 := by
      have := hS1.t
      dsimp only at this
      rw [hmk, mkl_snoc] at this
      exact this
    have hml2 : mk'.length + 1 = st.ms.length := by rw [hmk]; simp
    repeat (first|with_reducible refine kW ?_|(first|with_reducible (first|refine pB ?_|refine pF ?_|refine pA ?_|refine kX ?_|refine kY ?_|refine gH ?_|refine gG ?_|refine kD ?_|refine gY ?_|refine kJ ?_|refine gX ?_|refine kL ?_|refine kE ?_|refine kK ?_|refine kC ?_|refine kI ?_|refine kO ?_|refine kP ?_|refine kN ?_|refine pJ ?_|refine pG ?_|refine gB ?_|refine gA ?_|refine pM ?_|refine gJ ?_|refine gN ?_|refine gU ?_|refine gQ ?_|refine gO ?_|refine gV ?_|refine pN ?_)|((with_reducible refine And.intro ?_ ?_);(first|(rw [sizeLine_eq];exact of_decide_eq_true rfl)|omega))|((with_reducible first|refine kZ ?_ ?_|refine kQ ?_ ?_|refine kS ?_ ?_|refine kB ?_ ?_|refine kM ?_ ?_|refine pH ?_ ?_|refine pK ?_ ?_);exact rfl)|((with_reducible first|refine kR ?_ ?_ ?_|refine kT ?_ ?_ ?_|apply kG);exact rfl;exact rfl)|((with_reducible apply gZ);assumption;exact rfl;decide +kernel;exact rfl)|((with_reducible apply kA);assumption;exact rfl;decide +kernel;exact rfl;(first|exact .type _|exact .builtin _);exact rfl)|((with_reducible refine gL ?_ ?_);decide)|((with_reducible refine gK ?_ ?_ ?_);decide;exact PyProof.noPylong_small (by decide))|((with_reducible refine gM ?_ ?_);(first|exact IntMulOk.of_right (intBits_le_64 (by omega) (by omega))|exact IntMulOk.of_left (intBits_le_64 (by omega) (by omega))))|((with_reducible refine kF ?_ ?_ ?_);exact rfl;exact fun _ => rfl)|((with_reducible refine gW ?_ ?_);exact fun _ => rfl)|with_reducible refine pO ?_))
    rw [if_neg (by simp [hmk, mkl]; (first|lia|omega))]
    repeat (first|with_reducible refine kW ?_|(first|with_reducible (first|refine pB ?_|refine pF ?_|refine pA ?_|refine kX ?_|refine kY ?_|refine gH ?_|refine gG ?_|refine kD ?_|refine gY ?_|refine kJ ?_|refine gX ?_|refine kL ?_|refine kE ?_|refine kK ?_|refine kC ?_|refine kI ?_|refine kO ?_|refine kP ?_|refine kN ?_|refine pJ ?_|refine pG ?_|refine gB ?_|refine gA ?_|refine pM ?_|refine gJ ?_|refine gN ?_|refine gU ?_|refine gQ ?_|refine gO ?_|refine gV ?_|refine pN ?_)|((with_reducible refine And.intro ?_ ?_);(first|(rw [sizeLine_eq];exact of_decide_eq_true rfl)|omega))|((with_reducible first|refine kZ ?_ ?_|refine kQ ?_ ?_|refine kS ?_ ?_|refine kB ?_ ?_|refine kM ?_ ?_|refine pH ?_ ?_|refine pK ?_ ?_);exact rfl)|((with_reducible first|refine kR ?_ ?_ ?_|refine kT ?_ ?_ ?_|apply kG);exact rfl;exact rfl)|((with_reducible apply gZ);assumption;exact rfl;decide +kernel;exact rfl)|((with_reducible apply kA);assumption;exact rfl;decide +kernel;exact rfl;(first|exact .type _|exact .builtin _);exact rfl)|((with_reducible refine gL ?_ ?_);decide)|((with_reducible refine gK ?_ ?_ ?_);decide;exact PyProof.noPylong_small (by decide))|((with_reducible refine gM ?_ ?_);(first|exact IntMulOk.of_right (intBits_le_64 (by omega) (by omega))|exact IntMulOk.of_left (intBits_le_64 (by omega) (by omega))))|((with_reducible refine kF ?_ ?_ ?_);exact rfl;exact fun _ => rfl)|((with_reducible refine gW ?_ ?_);exact fun _ => rfl)|with_reducible refine pO ?_))
    refine Cl.get hS1.s hS1.d rfl rfl rfl ?_
    refine ClT.meth MU hT1.t hT1.d rfl ?_
    repeat (first|with_reducible refine kW ?_|(first|with_reducible (first|refine pB ?_|refine pF ?_|refine pA ?_|refine kX ?_|refine kY ?_|refine gH ?_|refine gG ?_|refine kD ?_|refine gY ?_|refine kJ ?_|refine gX ?_|refine kL ?_|refine kE ?_|refine kK ?_|refine kC ?_|refine kI ?_|refine kO ?_|refine kP ?_|refine kN ?_|refine pJ ?_|refine pG ?_|refine gB ?_|refine gA ?_|refine pM ?_|refine gJ ?_|refine gN ?_|refine gU ?_|refine gQ ?_|refine gO ?_|refine gV ?_|refine pN ?_)|((with_reducible refine And.intro ?_ ?_);(first|(rw [sizeLine_eq];exact of_decide_eq_true rfl)|omega))|((with_reducible first|refine kZ ?_ ?_|refine kQ ?_ ?_|refine kS ?_ ?_|refine kB ?_ ?_|refine kM ?_ ?_|refine pH ?_ ?_|refine pK ?_ ?_);exact rfl)|((with_reducible first|refine kR ?_ ?_ ?_|refine kT ?_ ?_ ?_|apply kG);exact rfl;exact rfl)|((with_reducible apply gZ);assumption;exact rfl;decide +kernel;exact rfl)|((with_reducible apply kA);assumption;exact rfl;decide +kernel;exact rfl;(first|exact .type _|exact .builtin _);exact rfl)|((with_reducible refine gL ?_ ?_);decide)|((with_reducible refine gK ?_ ?_ ?_);decide;exact PyProof.noPylong_small (by decide))|((with_reducible refine gM ?_ ?_);(first|exact IntMulOk.of_right (intBits_le_64 (by omega) (by omega))|exact IntMulOk.of_left (intBits_le_64 (by omega) (by omega))))|((with_reducible refine kF ?_ ?_ ?_);exact rfl;exact fun _ => rfl)|((with_reducible refine gW ?_ ?_);exact fun _ => rfl)|with_reducible refine pO ?_))
    refine (undo_spec ClT MU habs hT1 hO.t.len hn (by (first|lia|omega)) (by simp [mkl]; (first|lia|omega)) hj hin.r fun σ2 hT2 hF2 => ?_).call
    have hS2 : SolAt Cs Ct q n cs ⟨wipe st.ws (st.od.drop j), st.od.take j, mk', st.pf ++ [(decs st.od st.ms).map fun d => -d]⟩ k1 li1 σ2 := hS1.tr hF2 hT2 rfl
    repeat (first|with_reducible refine kW ?_|(first|with_reducible (first|refine pB ?_|refine pF ?_|refine pA ?_|refine kX ?_|refine kY ?_|refine gH ?_|refine gG ?_|refine kD ?_|refine gY ?_|refine kJ ?_|refine gX ?_|refine kL ?_|refine kE ?_|refine kK ?_|refine kC ?_|refine kI ?_|refine kO ?_|refine kP ?_|refine kN ?_|refine pJ ?_|refine pG ?_|refine gB ?_|refine gA ?_|refine pM ?_|refine gJ ?_|refine gN ?_|refine gU ?_|refine gQ ?_|refine gO ?_|refine gV ?_|refine pN ?_)|((with_reducible refine And.intro ?_ ?_);(first|(rw [sizeLine_eq];exact of_decide_eq_true rfl)|omega))|((with_reducible first|refine kZ ?_ ?_|refine kQ ?_ ?_|refine kS ?_ ?_|refine kB ?_ ?_|refine kM ?_ ?_|refine pH ?_ ?_|refine pK ?_ ?_);exact rfl)|((with_reducible first|refine kR ?_ ?_ ?_|refine kT ?_ ?_ ?_|apply kG);exact rfl;exact rfl)|((with_reducible apply gZ);assumption;exact rfl;decide +kernel;exact rfl)|((with_reducible apply kA);assumption;exact rfl;decide +kernel;exact rfl;(first|exact .type _|exact .builtin _);exact rfl)|((with_reducible refine gL ?_ ?_);decide)|((with_reducible refine gK ?_ ?_ ?_);decide;exact PyProof.noPylong_small (by decide))|((with_reducible refine gM ?_ ?_);(first|exact IntMulOk.of_right (intBits_le_64 (by omega) (by omega))|exact IntMulOk.of_left (intBits_le_64 (by omega) (by omega))))|((with_reducible refine kF ?_ ?_ ?_);exact rfl;exact fun _ => rfl)|((with_reducible refine gW ?_ ?_);exact fun _ => rfl)|with_reducible refine pO ?_))
    refine Cl.get hS2.s hS2.d rfl rfl rfl ?_
    refine ClT.meth MA hT2.t hT2.d rfl ?_
    repeat (first|with_reducible refine kW ?_|(first|with_reducible (first|refine pB ?_|refine pF ?_|refine pA ?_|refine kX ?_|refine kY ?_|refine gH ?_|refine gG ?_|refine kD ?_|refine gY ?_|refine kJ ?_|refine gX ?_|refine kL ?_|refine kE ?_|refine kK ?_|refine kC ?_|refine kI ?_|refine kO ?_|refine kP ?_|refine kN ?_|refine pJ ?_|refine pG ?_|refine gB ?_|refine gA ?_|refine pM ?_|refine gJ ?_|refine gN ?_|refine gU ?_|refine gQ ?_|refine gO ?_|refine gV ?_|refine pN ?_)|((with_reducible refine And.intro ?_ ?_);(first|(rw [sizeLine_eq];exact of_decide_eq_true rfl)|omega))|((with_reducible first|refine kZ ?_ ?_|refine kQ ?_ ?_|refine kS ?_ ?_|refine kB ?_ ?_|refine kM ?_ ?_|refine pH ?_ ?_|refine pK ?_ ?_);exact rfl)|((with_reducible first|refine kR ?_ ?_ ?_|refine kT ?_ ?_ ?_|apply kG);exact rfl;exact rfl)|((with_reducible apply gZ);assumption;exact rfl;decide +kernel;exact rfl)|((with_reducible apply kA);assumption;exact rfl;decide +kernel;exact rfl;(first|exact .type _|exact .builtin _);exact rfl)|((with_reducible refine gL ?_ ?_);decide)|((with_reducible refine gK ?_ ?_ ?_);decide;exact PyProof.noPylong_small (by decide))|((with_reducible refine gM ?_ ?_);(first|exact IntMulOk.of_right (intBits_le_64 (by omega) (by omega))|exact IntMulOk.of_left (intBits_le_64 (by omega) (by omega))))|((with_reducible refine kF ?_ ?_ ?_);exact rfl;exact fun _ => rfl)|((with_reducible refine gW ?_ ?_);exact fun _ => rfl)|with_reducible refine pO ?_))
    refine (assign_spec ClT MA hT2 (by rw [wipe_len]; exact hO.t.len) hn (by simp; (first|lia|omega)) (by unfold inR at *; (first|lia|omega)) fun σ3 hT3 hF3 => ?_).call
    repeat (first|with_reducible refine kW ?_|(first|with_reducible (first|refine pB ?_|refine pF ?_|refine pA ?_|refine kX ?_|refine kY ?_|refine gH ?_|refine gG ?_|refine kD ?_|refine gY ?_|refine kJ ?_|refine gX ?_|refine kL ?_|refine kE ?_|refine kK ?_|refine kC ?_|refine kI ?_|refine kO ?_|refine kP ?_|refine kN ?_|refine pJ ?_|refine pG ?_|refine gB ?_|refine gA ?_|refine pM ?_|refine gJ ?_|refine gN ?_|refine gU ?_|refine gQ ?_|refine gO ?_|refine gV ?_|refine pN ?_)|((with_reducible refine And.intro ?_ ?_);(first|(rw [sizeLine_eq];exact of_decide_eq_true rfl)|omega))|((with_reducible first|refine kZ ?_ ?_|refine kQ ?_ ?_|refine kS ?_ ?_|refine kB ?_ ?_|refine kM ?_ ?_|refine pH ?_ ?_|refine pK ?_ ?_);exact rfl)|((with_reducible first|refine kR ?_ ?_ ?_|refine kT ?_ ?_ ?_|apply kG);exact rfl;exact rfl)|((with_reducible apply gZ);assumption;exact rfl;decide +kernel;exact rfl)|((with_reducible apply kA);assumption;exact rfl;decide +kernel;exact rfl;(first|exact .type _|exact .builtin _);exact rfl)|((with_reducible refine gL ?_ ?_);decide)|((with_reducible refine gK ?_ ?_ ?_);decide;exact PyProof.noPylong_small (by decide))|((with_reducible refine gM ?_ ?_);(first|exact IntMulOk.of_right (intBits_le_64 (by omega) (by omega))|exact IntMulOk.of_left (intBits_le_64 (by omega) (by omega))))|((with_reducible refine kF ?_ ?_ ?_);exact rfl;exact fun _ => rfl)|((with_reducible refine gW ?_ ?_);exact fun _ => rfl)|with_reducible refine pO ?_))
    have e1 : (st.od[j]?).getD 0 = st.od[j] := by rw [List.getElem?_eq_getElem hj]; rfl
    have e2 : st.ms.dropLast = mk' := by rw [hmk, List.dropLast_concat]
    refine h1 j hg σ3 k1 li1 ?_ ((hF1.trans (hF2.up (SolAt.pS q))).trans (hF3.up (SolAt.pS q)))
    rw [e1, e2]
    exact hS2.tr hF3 hT3 rfl


structure SolM (W : Wd) (K : Frag) (Cs Ct : Addr) (a0 a1 a2 a3 a4 a5 a6 a7 a8 a9 a10 a11 a12 a13 : Addr) : Prop where
  c : ClsIs W K Cs ["n", "clauses", "trail", "proof", "conflicts"]
  init : MethIs W K Cs "__init__" a0 ["self", "clauses", "n"] (methBody pw 8 0) (methScope pw 8 0)
  learn : MethIs W K Cs "learn" a1 ["self"] (methBody pw 8 1) (methScope pw 8 1)
  back : MethIs W K Cs "backtrack" a2 ["self"] (methBody pw 8 2) (methScope pw 8 2)
  solve : MethIs W K Cs "solve" a3 ["self", "fuel"] (methBody pw 8 3) (methScope pw 8 3)
  t : ClsIs W K Ct ["n", "worths", "order", "marks"]
  tinit : MethIs W K Ct "__init__" a4 ["self", "n"] (methBody pw 6 0) (methScope pw 6 0)
  assign : MethIs W K Ct "assign" a5 ["self", "lit"] (methBody pw 6 2) (methScope pw 6 2)
  decide : MethIs W K Ct "decide" a6 ["self", "lit"] (methBody pw 6 3) (methScope pw 6 3)
  undo : MethIs W K Ct "undo_last_decision" a7 ["self"] (methBody pw 6 4) (methScope pw 6 4)
  decisions : MethIs W K Ct "decisions" a8 ["self"] (methBody pw 6 5) (methScope pw 6 5)
  first : MethIs W K Ct "first_free" a9 ["self"] (methBody pw 6 6) (methScope pw 6 6)
  snap : MethIs W K Ct "snapshot" a10 ["self"] (methBody pw 6 7) (methScope pw 6 7)
  prop : FnIs W a11 ["trail", "clauses"] (fnBody pw 7) (fnScope pw 7)
  cst : FnIs W a12 ["clause", "values"] (fnBody pw 3) (fnScope pw 3)
  lval : FnIs W a13 ["lit", "values"] (fnBody pw 2) (fnScope pw 2)
  gp : W.mg "propagate" = some (.ref a11)
  gs : W.mg "clause_state" = some (.ref a12)
  gw : W.mg "literal_value" = some (.ref a13)
  gT : W.mg "Trail" = some (.ref Ct)
  gS : W.mg "Solver" = some (.ref Cs)
  hlen : W.mg "len" = none
  hrange : W.mg "range" = none
  habs : W.mg "abs" = none
  hlist : W.mg "list" = none
theorem solve_spec {W : Wd} {K : Frag} {Cs Ct : Addr} {a0 a1 a2 a3 a4 a5 a6 a7 a8 a9 a10 a11 a12 a13 : Addr} (S : SolM W K Cs Ct a0 a1 a2 a3 a4 a5 a6 a7 a8 a9 a10 a11 a12 a13) {lv n fuel : Nat} {q : SolP} {cs : List (List Int)} {st : St} {k : Int} {li : List Nat} {σ : AH} {Q : AV → AH → Prop} (hS : SolAt Cs Ct q n cs st k li σ) (hO : StOk n st) (hn : n ≤ 18) (hok : okCls n cs) (hcl : ∀ c ∈ cs, c.length ≤ 100000) (hpot : st.pf.length + 2 * vol n st ≤ 2 ^ (n + 1) + st.ms.length)
    (h : ∀ σ' k' li', SolAt Cs Ct q n cs (solveM n cs fuel st).2 k' li' σ' → Fx q.S σ σ' → Q (.str (solveM n cs fuel st).1) σ') :
    TCode W (lv + 5) (.stat (.ref a3)) [.ref q.s, .int fuel] Q σ := by
  have hrange := S.hrange
  generalize hP : solveM n cs fuel st = P at h
  refine code_fn S.solve.fn rfl ?_
  refine kW ?_
  refine ts_for_range rfl rfl ?_
  repeat (first|with_reducible refine kW ?_|(first|with_reducible (first|refine pB ?_|refine pF ?_|refine pA ?_|refine kX ?_|refine kY ?_|refine gH ?_|refine gG ?_|refine kD ?_|refine gY ?_|refine kJ ?_|refine gX ?_|refine kL ?_|refine kE ?_|refine kK ?_|refine kC ?_|refine kI ?_|refine kO ?_|refine kP ?_|refine kN ?_|refine pJ ?_|refine pG ?_|refine gB ?_|refine gA ?_|refine pM ?_|refine gJ ?_|refine gN ?_|refine gU ?_|refine gQ ?_|refine gO ?_|refine gV ?_|refine pN ?_)|((with_reducible refine And.intro ?_ ?_);(first|(rw [sizeLine_eq];exact of_decide_eq_true rfl)|omega))|((with_reducible first|refine kZ ?_ ?_|refine kQ ?_ ?_|refine kS ?_ ?_|refine kB ?_ ?_|refine kM ?_ ?_|refine pH ?_ ?_|refine pK ?_ ?_);exact rfl)|((with_reducible first|refine kR ?_ ?_ ?_|refine kT ?_ ?_ ?_|apply kG);exact rfl;exact rfl)|((with_reducible apply gZ);assumption;exact rfl;decide +kernel;exact rfl)|((with_reducible apply kA);assumption;exact rfl;decide +kernel;exact rfl;(first|exact .type _|exact .builtin _);exact rfl)|((with_reducible refine gL ?_ ?_);decide)|((with_reducible refine gK ?_ ?_ ?_);decide;exact PyProof.noPylong_small (by decide))|((with_reducible refine gM ?_ ?_);(first|exact IntMulOk.of_right (intBits_le_64 (by omega) (by omega))|exact IntMulOk.of_left (intBits_le_64 (by omega) (by omega))))|((with_reducible refine kF ?_ ?_ ?_);exact rfl;exact fun _ => rfl)|((with_reducible refine gW ?_ ?_);exact fun _ => rfl)|with_reducible refine pO ?_))
  refine tcall_range1 ?_
  refine ⟨_, 0, (fuel : Int), 1, fuel, fun i m' σ' => ∃ st' k' li', LE [("self", .ref q.s)] m' ∧ SolAt Cs Ct q n cs st' k' li' σ' ∧ Fx q.S σ σ' ∧ StOk n st' ∧ st'.pf.length + 2 * vol n st' ≤ 2 ^ (n + 1) + st'.ms.length ∧ P = solveM n cs (fuel - i) st', rfl, by simp, range_up (by (first|lia|omega)), ?_, ?_, ?_⟩
  · exact ⟨st, k, li, by (repeat (first | exact LE.nil | refine LE.cons (by exact rfl) ?_)), hS.sub (by (repeat (first | exact Sub.refl _ | assumption | refine Sub.trans ?_ (Sub.snoc _ _)))), Fx.of (by (repeat (first | exact Sub.refl _ | assumption | refine Sub.trans ?_ (Sub.snoc _ _)))), hO, hpot, hP.symm⟩
  · rintro i m' σ1 hi ⟨st1, k1, li1, le, hS1, hF1, hO1, hp1, heq⟩
    have hvg := vol_ge n st1
    have hb18 : 2 ^ (n + 1) ≤ 2 ^ 19 := Nat.pow_le_pow_right (by decide) (by (first|lia|omega))
    rw [show fuel - i = (fuel - (i + 1)) + 1 by (first|lia|omega), solveM] at heq
    have hturn : ∀ {s' : St}, turnM n cs st1 = .go s' → StOk n s' ∧ s'.pf.length + 2 * vol n s' ≤ 2 ^ (n + 1) + s'.ms.length := fun e => by
      have := turn_pot hok hO1 e
      exact ⟨turn_ok hok hO1 e, by (first|lia|omega)⟩
    have hpk := prop_ok hok (n + 1) hO1.t
    refine TA.forget le (ta_name rfl ?_)
    repeat (first|with_reducible refine kW ?_|(first|with_reducible (first|refine pB ?_|refine pF ?_|refine pA ?_|refine kX ?_|refine kY ?_|refine gH ?_|refine gG ?_|refine kD ?_|refine gY ?_|refine kJ ?_|refine gX ?_|refine kL ?_|refine kE ?_|refine kK ?_|refine kC ?_|refine kI ?_|refine kO ?_|refine kP ?_|refine kN ?_|refine pJ ?_|refine pG ?_|refine gB ?_|refine gA ?_|refine pM ?_|refine gJ ?_|refine gN ?_|refine gU ?_|refine gQ ?_|refine gO ?_|refine gV ?_|refine pN ?_)|((with_reducible refine And.intro ?_ ?_);(first|(rw [sizeLine_eq];exact of_decide_eq_true rfl)|omega))|((with_reducible first|refine kZ ?_ ?_|refine kQ ?_ ?_|refine kS ?_ ?_|refine kB ?_ ?_|refine kM ?_ ?_|refine pH ?_ ?_|refine pK ?_ ?_);exact rfl)|((with_reducible first|refine kR ?_ ?_ ?_|refine kT ?_ ?_ ?_|apply kG);exact rfl;exact rfl)|((with_reducible apply gZ);assumption;exact rfl;decide +kernel;exact rfl)|((with_reducible apply kA);assumption;exact rfl;decide +kernel;exact rfl;(first|exact .type _|exact .builtin _);exact rfl)|((with_reducible refine gL ?_ ?_);decide)|((with_reducible refine gK ?_ ?_ ?_);decide;exact PyProof.noPylong_small (by decide))|((with_reducible refine gM ?_ ?_);(first|exact IntMulOk.of_right (intBits_le_64 (by omega) (by omega))|exact IntMulOk.of_left (intBits_le_64 (by omega) (by omega))))|((with_reducible refine kF ?_ ?_ ?_);exact rfl;exact fun _ => rfl)|((with_reducible refine gW ?_ ?_);exact fun _ => rfl)|with_reducible refine pO ?_))
    refine te_callG S.gp rfl S.prop.keeps rfl ?_
    repeat (first|with_reducible refine kW ?_|(first|with_reducible (first|refine pB ?_|refine pF ?_|refine pA ?_|refine kX ?_|refine kY ?_|refine gH ?_|refine gG ?_|refine kD ?_|refine gY ?_|refine kJ ?_|refine gX ?_|refine kL ?_|refine kE ?_|refine kK ?_|refine kC ?_|refine kI ?_|refine kO ?_|refine kP ?_|refine kN ?_|refine pJ ?_|refine pG ?_|refine gB ?_|refine gA ?_|refine pM ?_|refine gJ ?_|refine gN ?_|refine gU ?_|refine gQ ?_|refine gO ?_|refine gV ?_|refine pN ?_)|((with_reducible refine And.intro ?_ ?_);(first|(rw [sizeLine_eq];exact of_decide_eq_true rfl)|omega))|((with_reducible first|refine kZ ?_ ?_|refine kQ ?_ ?_|refine kS ?_ ?_|refine kB ?_ ?_|refine kM ?_ ?_|refine pH ?_ ?_|refine pK ?_ ?_);exact rfl)|((with_reducible first|refine kR ?_ ?_ ?_|refine kT ?_ ?_ ?_|apply kG);exact rfl;exact rfl)|((with_reducible apply gZ);assumption;exact rfl;decide +kernel;exact rfl)|((with_reducible apply kA);assumption;exact rfl;decide +kernel;exact rfl;(first|exact .type _|exact .builtin _);exact rfl)|((with_reducible refine gL ?_ ?_);decide)|((with_reducible refine gK ?_ ?_ ?_);decide;exact PyProof.noPylong_small (by decide))|((with_reducible refine gM ?_ ?_);(first|exact IntMulOk.of_right (intBits_le_64 (by omega) (by omega))|exact IntMulOk.of_left (intBits_le_64 (by omega) (by omega))))|((with_reducible refine kF ?_ ?_ ?_);exact rfl;exact fun _ => rfl)|((with_reducible refine gW ?_ ?_);exact fun _ => rfl)|with_reducible refine pO ?_))
    refine S.c.get hS1.s hS1.d rfl rfl rfl ?_
    repeat (first|with_reducible refine kW ?_|(first|with_reducible (first|refine pB ?_|refine pF ?_|refine pA ?_|refine kX ?_|refine kY ?_|refine gH ?_|refine gG ?_|refine kD ?_|refine gY ?_|refine kJ ?_|refine gX ?_|refine kL ?_|refine kE ?_|refine kK ?_|refine kC ?_|refine kI ?_|refine kO ?_|refine kP ?_|refine kN ?_|refine pJ ?_|refine pG ?_|refine gB ?_|refine gA ?_|refine pM ?_|refine gJ ?_|refine gN ?_|refine gU ?_|refine gQ ?_|refine gO ?_|refine gV ?_|refine pN ?_)|((with_reducible refine And.intro ?_ ?_);(first|(rw [sizeLine_eq];exact of_decide_eq_true rfl)|omega))|((with_reducible first|refine kZ ?_ ?_|refine kQ ?_ ?_|refine kS ?_ ?_|refine kB ?_ ?_|refine kM ?_ ?_|refine pH ?_ ?_|refine pK ?_ ?_);exact rfl)|((with_reducible first|refine kR ?_ ?_ ?_|refine kT ?_ ?_ ?_|apply kG);exact rfl;exact rfl)|((with_reducible apply gZ);assumption;exact rfl;decide +kernel;exact rfl)|((with_reducible apply kA);assumption;exact rfl;decide +kernel;exact rfl;(first|exact .type _|exact .builtin _);exact rfl)|((with_reducible refine gL ?_ ?_);decide)|((with_reducible refine gK ?_ ?_ ?_);decide;exact PyProof.noPylong_small (by decide))|((with_reducible refine gM ?_ ?_);(first|exact IntMulOk.of_right (intBits_le_64 (by omega) (by omega))|exact IntMulOk.of_left (intBits_le_64 (by omega) (by omega))))|((with_reducible refine kF ?_ ?_ ?_);exact rfl;exact fun _ => rfl)|((with_reducible refine gW ?_ ?_);exact fun _ => rfl)|with_reducible refine pO ?_))
    refine S.c.get hS1.s hS1.d rfl rfl rfl ?_
    repeat (first|with_reducible refine kW ?_|(first|with_reducible (first|refine pB ?_|refine pF ?_|refine pA ?_|refine kX ?_|refine kY ?_|refine gH ?_|refine gG ?_|refine kD ?_|refine gY ?_|refine kJ ?_|refine gX ?_|refine kL ?_|refine kE ?_|refine kK ?_|refine kC ?_|refine kI ?_|refine kO ?_|refine kP ?_|refine kN ?_|refine pJ ?_|refine pG ?_|refine gB ?_|refine gA ?_|refine pM ?_|refine gJ ?_|refine gN ?_|refine gU ?_|refine gQ ?_|refine gO ?_|refine gV ?_|refine pN ?_)|((with_reducible refine And.intro ?_ ?_);(first|(rw [sizeLine_eq];exact of_decide_eq_true rfl)|omega))|((with_reducible first|refine kZ ?_ ?_|refine kQ ?_ ?_|refine kS ?_ ?_|refine kB ?_ ?_|refine kM ?_ ?_|refine pH ?_ ?_|refine pK ?_ ?_);exact rfl)|((with_reducible first|refine kR ?_ ?_ ?_|refine kT ?_ ?_ ?_|apply kG);exact rfl;exact rfl)|((with_reducible apply gZ);assumption;exact rfl;decide +kernel;exact rfl)|((with_reducible apply kA);assumption;exact rfl;decide +kernel;exact rfl;(first|exact .type _|exact .builtin _);exact rfl)|((with_reducible refine gL ?_ ?_);decide)|((with_reducible refine gK ?_ ?_ ?_);decide;exact PyProof.noPylong_small (by decide))|((with_reducible refine gM ?_ ?_);(first|exact IntMulOk.of_right (intBits_le_64 (by omega) (by omega))|exact IntMulOk.of_left (intBits_le_64 (by omega) (by omega))))|((with_reducible refine kF ?_ ?_ ?_);exact rfl;exact fun _ => rfl)|((with_reducible refine gW ?_ ?_);exact fun _ => rfl)|with_reducible refine pO ?_))
    refine (prop_spec S.prop S.cst S.lval S.gs S.gw S.hlen hrange S.t S.assign hS1.t hS1.c hS1.cS hS1.ciS hO1.t (by (first|lia|omega)) hok hcl fun σ2 hT2 hF2 => ?_).call
    have hturnE : turnM n cs st1 = turnM n cs st1 := rfl
    conv at hturnE => rhs; unfold turnM
    generalize hPP : propM cs (n + 1) st1.ws st1.od = PP at *
    obtain ⟨ok, ws2, od2⟩ := PP
    dsimp only at hT2 hpk
    have hS2 : SolAt Cs Ct q n cs ⟨ws2, od2, st1.ms, st1.pf⟩ k1 li1 σ2 := hS1.tr hF2 hT2 rfl
    obtain ⟨ex, hex⟩ := hpk.2
    have hO2 : StOk n ⟨ws2, od2, st1.ms, st1.pf⟩ := ⟨hpk.1, fun j hj => by have := hO1.lt j hj; show j < od2.length; rw [hex]; simp; (first|lia|omega), hO1.inc⟩
    have hF12 := hF1.trans (hF2.up (SolAt.pS q))
    cases ok with
    | false =>
      dsimp only at hturnE
      repeat (first|with_reducible refine kW ?_|(first|with_reducible (first|refine pB ?_|refine pF ?_|refine pA ?_|refine kX ?_|refine kY ?_|refine gH ?_|refine gG ?_|refine kD ?_|refine gY ?_|refine kJ ?_|refine gX ?_|refine kL ?_|refine kE ?_|refine kK ?_|refine kC ?_|refine kI ?_|refine kO ?_|refine kP ?_|refine kN ?_|refine pJ ?_|refine pG ?_|refine gB ?_|refine gA ?_|refine pM ?_|refine gJ ?_|refine gN ?_|refine gU ?_|refine gQ ?_|refine gO ?_|refine gV ?_|refine pN ?_)|((with_reducible refine And.intro ?_ ?_);(first|(rw [sizeLine_eq];exact of_decide_eq_true rfl)|omega))|((with_reducible first|refine kZ ?_ ?_|refine kQ ?_ ?_|refine kS ?_ ?_|refine kB ?_ ?_|refine kM ?_ ?_|refine pH ?_ ?_|refine pK ?_ ?_);exact rfl)|((with_reducible first|refine kR ?_ ?_ ?_|refine kT ?_ ?_ ?_|apply kG);exact rfl;exact rfl)|((with_reducible apply gZ);assumption;exact rfl;decide +kernel;exact rfl)|((with_reducible apply kA);assumption;exact rfl;decide +kernel;exact rfl;(first|exact .type _|exact .builtin _);exact rfl)|((with_reducible refine gL ?_ ?_);decide)|((with_reducible refine gK ?_ ?_ ?_);decide;exact PyProof.noPylong_small (by decide))|((with_reducible refine gM ?_ ?_);(first|exact IntMulOk.of_right (intBits_le_64 (by omega) (by omega))|exact IntMulOk.of_left (intBits_le_64 (by omega) (by omega))))|((with_reducible refine kF ?_ ?_ ?_);exact rfl;exact fun _ => rfl)|((with_reducible refine gW ?_ ?_);exact fun _ => rfl)|with_reducible refine pO ?_))
      rw [if_pos (by simp)]
      repeat (first|with_reducible refine kW ?_|(first|with_reducible (first|refine pB ?_|refine pF ?_|refine pA ?_|refine kX ?_|refine kY ?_|refine gH ?_|refine gG ?_|refine kD ?_|refine gY ?_|refine kJ ?_|refine gX ?_|refine kL ?_|refine kE ?_|refine kK ?_|refine kC ?_|refine kI ?_|refine kO ?_|refine kP ?_|refine kN ?_|refine pJ ?_|refine pG ?_|refine gB ?_|refine gA ?_|refine pM ?_|refine gJ ?_|refine gN ?_|refine gU ?_|refine gQ ?_|refine gO ?_|refine gV ?_|refine pN ?_)|((with_reducible refine And.intro ?_ ?_);(first|(rw [sizeLine_eq];exact of_decide_eq_true rfl)|omega))|((with_reducible first|refine kZ ?_ ?_|refine kQ ?_ ?_|refine kS ?_ ?_|refine kB ?_ ?_|refine kM ?_ ?_|refine pH ?_ ?_|refine pK ?_ ?_);exact rfl)|((with_reducible first|refine kR ?_ ?_ ?_|refine kT ?_ ?_ ?_|apply kG);exact rfl;exact rfl)|((with_reducible apply gZ);assumption;exact rfl;decide +kernel;exact rfl)|((with_reducible apply kA);assumption;exact rfl;decide +kernel;exact rfl;(first|exact .type _|exact .builtin _);exact rfl)|((with_reducible refine gL ?_ ?_);decide)|((with_reducible refine gK ?_ ?_ ?_);decide;exact PyProof.noPylong_small (by decide))|((with_reducible refine gM ?_ ?_);(first|exact IntMulOk.of_right (intBits_le_64 (by omega) (by omega))|exact IntMulOk.of_left (intBits_le_64 (by omega) (by omega))))|((with_reducible refine kF ?_ ?_ ?_);exact rfl;exact fun _ => rfl)|((with_reducible refine gW ?_ ?_);exact fun _ => rfl)|with_reducible refine pO ?_))
      refine S.c.meth S.back hS2.s hS2.d rfl ?_
      repeat (first|with_reducible refine kW ?_|(first|with_reducible (first|refine pB ?_|refine pF ?_|refine pA ?_|refine kX ?_|refine kY ?_|refine gH ?_|refine gG ?_|refine kD ?_|refine gY ?_|refine kJ ?_|refine gX ?_|refine kL ?_|refine kE ?_|refine kK ?_|refine kC ?_|refine kI ?_|refine kO ?_|refine kP ?_|refine kN ?_|refine pJ ?_|refine pG ?_|refine gB ?_|refine gA ?_|refine pM ?_|refine gJ ?_|refine gN ?_|refine gU ?_|refine gQ ?_|refine gO ?_|refine gV ?_|refine pN ?_)|((with_reducible refine And.intro ?_ ?_);(first|(rw [sizeLine_eq];exact of_decide_eq_true rfl)|omega))|((with_reducible first|refine kZ ?_ ?_|refine kQ ?_ ?_|refine kS ?_ ?_|refine kB ?_ ?_|refine kM ?_ ?_|refine pH ?_ ?_|refine pK ?_ ?_);exact rfl)|((with_reducible first|refine kR ?_ ?_ ?_|refine kT ?_ ?_ ?_|apply kG);exact rfl;exact rfl)|((with_reducible apply gZ);assumption;exact rfl;decide +kernel;exact rfl)|((with_reducible apply kA);assumption;exact rfl;decide +kernel;exact rfl;(first|exact .type _|exact .builtin _);exact rfl)|((with_reducible refine gL ?_ ?_);decide)|((with_reducible refine gK ?_ ?_ ?_);decide;exact PyProof.noPylong_small (by decide))|((with_reducible refine gM ?_ ?_);(first|exact IntMulOk.of_right (intBits_le_64 (by omega) (by omega))|exact IntMulOk.of_left (intBits_le_64 (by omega) (by omega))))|((with_reducible refine kF ?_ ?_ ?_);exact rfl;exact fun _ => rfl)|((with_reducible refine gW ?_ ?_);exact fun _ => rfl)|with_reducible refine pO ?_))
      refine (back_spec S.c S.back S.learn S.t S.decisions S.undo S.assign S.hlen S.habs hS2 hO2 (by (first|lia|omega)) (by show st1.pf.length ≤ 1000000; (first|lia|omega)) (fun hg σ3 k3 li3 hS3 hF3 => ?_) (fun j hg σ3 k3 li3 hS3 hF3 => ?_)).call
      · dsimp only at hg hS3
        rw [hg] at hturnE
        dsimp only at hturnE
        rw [hturnE] at heq
        dsimp only at heq
        rw [heq] at h
        repeat (first|with_reducible refine kW ?_|(first|with_reducible (first|refine pB ?_|refine pF ?_|refine pA ?_|refine kX ?_|refine kY ?_|refine gH ?_|refine gG ?_|refine kD ?_|refine gY ?_|refine kJ ?_|refine gX ?_|refine kL ?_|refine kE ?_|refine kK ?_|refine kC ?_|refine kI ?_|refine kO ?_|refine kP ?_|refine kN ?_|refine pJ ?_|refine pG ?_|refine gB ?_|refine gA ?_|refine pM ?_|refine gJ ?_|refine gN ?_|refine gU ?_|refine gQ ?_|refine gO ?_|refine gV ?_|refine pN ?_)|((with_reducible refine And.intro ?_ ?_);(first|(rw [sizeLine_eq];exact of_decide_eq_true rfl)|omega))|((with_reducible first|refine kZ ?_ ?_|refine kQ ?_ ?_|refine kS ?_ ?_|refine kB ?_ ?_|refine kM ?_ ?_|refine pH ?_ ?_|refine pK ?_ ?_);exact rfl)|((with_reducible first|refine kR ?_ ?_ ?_|refine kT ?_ ?_ ?_|apply kG);exact rfl;exact rfl)|((with_reducible apply gZ);assumption;exact rfl;decide +kernel;exact rfl)|((with_reducible apply kA);assumption;exact rfl;decide +kernel;exact rfl;(first|exact .type _|exact .builtin _);exact rfl)|((with_reducible refine gL ?_ ?_);decide)|((with_reducible refine gK ?_ ?_ ?_);decide;exact PyProof.noPylong_small (by decide))|((with_reducible refine gM ?_ ?_);(first|exact IntMulOk.of_right (intBits_le_64 (by omega) (by omega))|exact IntMulOk.of_left (intBits_le_64 (by omega) (by omega))))|((with_reducible refine kF ?_ ?_ ?_);exact rfl;exact fun _ => rfl)|((with_reducible refine gW ?_ ?_);exact fun _ => rfl)|with_reducible refine pO ?_))
        rw [if_pos (by decide)]
        repeat (first|with_reducible refine kW ?_|(first|with_reducible (first|refine pB ?_|refine pF ?_|refine pA ?_|refine kX ?_|refine kY ?_|refine gH ?_|refine gG ?_|refine kD ?_|refine gY ?_|refine kJ ?_|refine gX ?_|refine kL ?_|refine kE ?_|refine kK ?_|refine kC ?_|refine kI ?_|refine kO ?_|refine kP ?_|refine kN ?_|refine pJ ?_|refine pG ?_|refine gB ?_|refine gA ?_|refine pM ?_|refine gJ ?_|refine gN ?_|refine gU ?_|refine gQ ?_|refine gO ?_|refine gV ?_|refine pN ?_)|((with_reducible refine And.intro ?_ ?_);(first|(rw [sizeLine_eq];exact of_decide_eq_true rfl)|omega))|((with_reducible first|refine kZ ?_ ?_|refine kQ ?_ ?_|refine kS ?_ ?_|refine kB ?_ ?_|refine kM ?_ ?_|refine pH ?_ ?_|refine pK ?_ ?_);exact rfl)|((with_reducible first|refine kR ?_ ?_ ?_|refine kT ?_ ?_ ?_|apply kG);exact rfl;exact rfl)|((with_reducible apply gZ);assumption;exact rfl;decide +kernel;exact rfl)|((with_reducible apply kA);assumption;exact rfl;decide +kernel;exact rfl;(first|exact .type _|exact .builtin _);exact rfl)|((with_reducible refine gL ?_ ?_);decide)|((with_reducible refine gK ?_ ?_ ?_);decide;exact PyProof.noPylong_small (by decide))|((with_reducible refine gM ?_ ?_);(first|exact IntMulOk.of_right (intBits_le_64 (by omega) (by omega))|exact IntMulOk.of_left (intBits_le_64 (by omega) (by omega))))|((with_reducible refine kF ?_ ?_ ?_);exact rfl;exact fun _ => rfl)|((with_reducible refine gW ?_ ?_);exact fun _ => rfl)|with_reducible refine pO ?_))
        exact h _ k3 li3 hS3 (hF12.trans hF3)
      · dsimp only at hg hS3
        rw [hg] at hturnE
        dsimp only at hturnE
        obtain ⟨z1, z2⟩ := hturn hturnE
        rw [hturnE] at heq
        dsimp only at heq
        repeat (first|with_reducible refine kW ?_|(first|with_reducible (first|refine pB ?_|refine pF ?_|refine pA ?_|refine kX ?_|refine kY ?_|refine gH ?_|refine gG ?_|refine kD ?_|refine gY ?_|refine kJ ?_|refine gX ?_|refine kL ?_|refine kE ?_|refine kK ?_|refine kC ?_|refine kI ?_|refine kO ?_|refine kP ?_|refine kN ?_|refine pJ ?_|refine pG ?_|refine gB ?_|refine gA ?_|refine pM ?_|refine gJ ?_|refine gN ?_|refine gU ?_|refine gQ ?_|refine gO ?_|refine gV ?_|refine pN ?_)|((with_reducible refine And.intro ?_ ?_);(first|(rw [sizeLine_eq];exact of_decide_eq_true rfl)|omega))|((with_reducible first|refine kZ ?_ ?_|refine kQ ?_ ?_|refine kS ?_ ?_|refine kB ?_ ?_|refine kM ?_ ?_|refine pH ?_ ?_|refine pK ?_ ?_);exact rfl)|((with_reducible first|refine kR ?_ ?_ ?_|refine kT ?_ ?_ ?_|apply kG);exact rfl;exact rfl)|((with_reducible apply gZ);assumption;exact rfl;decide +kernel;exact rfl)|((with_reducible apply kA);assumption;exact rfl;decide +kernel;exact rfl;(first|exact .type _|exact .builtin _);exact rfl)|((with_reducible refine gL ?_ ?_);decide)|((with_reducible refine gK ?_ ?_ ?_);decide;exact PyProof.noPylong_small (by decide))|((with_reducible refine gM ?_ ?_);(first|exact IntMulOk.of_right (intBits_le_64 (by omega) (by omega))|exact IntMulOk.of_left (intBits_le_64 (by omega) (by omega))))|((with_reducible refine kF ?_ ?_ ?_);exact rfl;exact fun _ => rfl)|((with_reducible refine gW ?_ ?_);exact fun _ => rfl)|with_reducible refine pO ?_))
        rw [if_neg (by decide)]
        repeat (first|with_reducible refine kW ?_|(first|with_reducible (first|refine pB ?_|refine pF ?_|refine pA ?_|refine kX ?_|refine kY ?_|refine gH ?_|refine gG ?_|refine kD ?_|refine gY ?_|refine kJ ?_|refine gX ?_|refine kL ?_|refine kE ?_|refine kK ?_|refine kC ?_|refine kI ?_|refine kO ?_|refine kP ?_|refine kN ?_|refine pJ ?_|refine pG ?_|refine gB ?_|refine gA ?_|refine pM ?_|refine gJ ?_|refine gN ?_|refine gU ?_|refine gQ ?_|refine gO ?_|refine gV ?_|refine pN ?_)|((with_reducible refine And.intro ?_ ?_);(first|(rw [sizeLine_eq];exact of_decide_eq_true rfl)|omega))|((with_reducible first|refine kZ ?_ ?_|refine kQ ?_ ?_|refine kS ?_ ?_|refine kB ?_ ?_|refine kM ?_ ?_|refine pH ?_ ?_|refine pK ?_ ?_);exact rfl)|((with_reducible first|refine kR ?_ ?_ ?_|refine kT ?_ ?_ ?_|apply kG);exact rfl;exact rfl)|((with_reducible apply gZ);assumption;exact rfl;decide +kernel;exact rfl)|((with_reducible apply kA);assumption;exact rfl;decide +kernel;exact rfl;(first|exact .type _|exact .builtin _);exact rfl)|((with_reducible refine gL ?_ ?_);decide)|((with_reducible refine gK ?_ ?_ ?_);decide;exact PyProof.noPylong_small (by decide))|((with_reducible refine gM ?_ ?_);(first|exact IntMulOk.of_right (intBits_le_64 (by omega) (by omega))|exact IntMulOk.of_left (intBits_le_64 (by omega) (by omega))))|((with_reducible refine kF ?_ ?_ ?_);exact rfl;exact fun _ => rfl)|((with_reducible refine gW ?_ ?_);exact fun _ => rfl)|with_reducible refine pO ?_))
        exact ⟨_, k3, li3, by (repeat (first | exact LE.nil | refine LE.cons (by exact rfl) ?_)), hS3, hF12.trans hF3, z1, z2, heq⟩
    | true =>
      dsimp only at hturnE
      repeat (first|with_reducible refine kW ?_|(first|with_reducible (first|refine pB ?_|refine pF ?_|refine pA ?_|refine kX ?_|refine kY ?_|refine gH ?_|refine gG ?_|refine kD ?_|refine gY ?_|refine kJ ?_|refine gX ?_|refine kL ?_|refine kE ?_|refine kK ?_|refine kC ?_|refine kI ?_|refine kO ?_|refine kP ?_|refine kN ?_|refine pJ ?_|refine pG ?_|refine gB ?_|refine gA ?_|refine pM ?_|refine gJ ?_|refine gN ?_|refine gU ?_|refine gQ ?_|refine gO ?_|refine gV ?_|refine pN ?_)|((with_reducible refine And.intro ?_ ?_);(first|(rw [sizeLine_eq];exact of_decide_eq_true rfl)|omega))|((with_reducible first|refine kZ ?_ ?_|refine kQ ?_ ?_|refine kS ?_ ?_|refine kB ?_ ?_|refine kM ?_ ?_|refine pH ?_ ?_|refine pK ?_ ?_);exact rfl)|((with_reducible first|refine kR ?_ ?_ ?_|refine kT ?_ ?_ ?_|apply kG);exact rfl;exact rfl)|((with_reducible apply gZ);assumption;exact rfl;decide +kernel;exact rfl)|((with_reducible apply kA);assumption;exact rfl;decide +kernel;exact rfl;(first|exact .type _|exact .builtin _);exact rfl)|((with_reducible refine gL ?_ ?_);decide)|((with_reducible refine gK ?_ ?_ ?_);decide;exact PyProof.noPylong_small (by decide))|((with_reducible refine gM ?_ ?_);(first|exact IntMulOk.of_right (intBits_le_64 (by omega) (by omega))|exact IntMulOk.of_left (intBits_le_64 (by omega) (by omega))))|((with_reducible refine kF ?_ ?_ ?_);exact rfl;exact fun _ => rfl)|((with_reducible refine gW ?_ ?_);exact fun _ => rfl)|with_reducible refine pO ?_))
      rw [if_neg (by simp)]
      repeat (first|with_reducible refine kW ?_|(first|with_reducible (first|refine pB ?_|refine pF ?_|refine pA ?_|refine kX ?_|refine kY ?_|refine gH ?_|refine gG ?_|refine kD ?_|refine gY ?_|refine kJ ?_|refine gX ?_|refine kL ?_|refine kE ?_|refine kK ?_|refine kC ?_|refine kI ?_|refine kO ?_|refine kP ?_|refine kN ?_|refine pJ ?_|refine pG ?_|refine gB ?_|refine gA ?_|refine pM ?_|refine gJ ?_|refine gN ?_|refine gU ?_|refine gQ ?_|refine gO ?_|refine gV ?_|refine pN ?_)|((with_reducible refine And.intro ?_ ?_);(first|(rw [sizeLine_eq];exact of_decide_eq_true rfl)|omega))|((with_reducible first|refine kZ ?_ ?_|refine kQ ?_ ?_|refine kS ?_ ?_|refine kB ?_ ?_|refine kM ?_ ?_|refine pH ?_ ?_|refine pK ?_ ?_);exact rfl)|((with_reducible first|refine kR ?_ ?_ ?_|refine kT ?_ ?_ ?_|apply kG);exact rfl;exact rfl)|((with_reducible apply gZ);assumption;exact rfl;decide +kernel;exact rfl)|((with_reducible apply kA);assumption;exact rfl;decide +kernel;exact rfl;(first|exact .type _|exact .builtin _);exact rfl)|((with_reducible refine gL ?_ ?_);decide)|((with_reducible refine gK ?_ ?_ ?_);decide;exact PyProof.noPylong_small (by decide))|((with_reducible refine gM ?_ ?_);(first|exact IntMulOk.of_right (intBits_le_64 (by omega) (by omega))|exact IntMulOk.of_left (intBits_le_64 (by omega) (by omega))))|((with_reducible refine kF ?_ ?_ ?_);exact rfl;exact fun _ => rfl)|((with_reducible refine gW ?_ ?_);exact fun _ => rfl)|with_reducible refine pO ?_))
      refine S.c.get hS2.s hS2.d rfl rfl rfl ?_
      refine S.t.meth S.first hS2.t.t hS2.t.d rfl ?_
      repeat (first|with_reducible refine kW ?_|(first|with_reducible (first|refine pB ?_|refine pF ?_|refine pA ?_|refine kX ?_|refine kY ?_|refine gH ?_|refine gG ?_|refine kD ?_|refine gY ?_|refine kJ ?_|refine gX ?_|refine kL ?_|refine kE ?_|refine kK ?_|refine kC ?_|refine kI ?_|refine kO ?_|refine kP ?_|refine kN ?_|refine pJ ?_|refine pG ?_|refine gB ?_|refine gA ?_|refine pM ?_|refine gJ ?_|refine gN ?_|refine gU ?_|refine gQ ?_|refine gO ?_|refine gV ?_|refine pN ?_)|((with_reducible refine And.intro ?_ ?_);(first|(rw [sizeLine_eq];exact of_decide_eq_true rfl)|omega))|((with_reducible first|refine kZ ?_ ?_|refine kQ ?_ ?_|refine kS ?_ ?_|refine kB ?_ ?_|refine kM ?_ ?_|refine pH ?_ ?_|refine pK ?_ ?_);exact rfl)|((with_reducible first|refine kR ?_ ?_ ?_|refine kT ?_ ?_ ?_|apply kG);exact rfl;exact rfl)|((with_reducible apply gZ);assumption;exact rfl;decide +kernel;exact rfl)|((with_reducible apply kA);assumption;exact rfl;decide +kernel;exact rfl;(first|exact .type _|exact .builtin _);exact rfl)|((with_reducible refine gL ?_ ?_);decide)|((with_reducible refine gK ?_ ?_ ?_);decide;exact PyProof.noPylong_small (by decide))|((with_reducible refine gM ?_ ?_);(first|exact IntMulOk.of_right (intBits_le_64 (by omega) (by omega))|exact IntMulOk.of_left (intBits_le_64 (by omega) (by omega))))|((with_reducible refine kF ?_ ?_ ?_);exact rfl;exact fun _ => rfl)|((with_reducible refine gW ?_ ?_);exact fun _ => rfl)|with_reducible refine pO ?_))
      refine (first_spec S.t S.first hrange hS2.t hO2.t.len (by (first|lia|omega)) fun σ3 sub3 => ?_).call
      have hS3 := hS2.sub sub3
      have hff := ffree_spec ws2 n 1 (Nat.le_refl _)
      generalize ffree ws2 1 n = v at *
      repeat (first|with_reducible refine kW ?_|(first|with_reducible (first|refine pB ?_|refine pF ?_|refine pA ?_|refine kX ?_|refine kY ?_|refine gH ?_|refine gG ?_|refine kD ?_|refine gY ?_|refine kJ ?_|refine gX ?_|refine kL ?_|refine kE ?_|refine kK ?_|refine kC ?_|refine kI ?_|refine kO ?_|refine kP ?_|refine kN ?_|refine pJ ?_|refine pG ?_|refine gB ?_|refine gA ?_|refine pM ?_|refine gJ ?_|refine gN ?_|refine gU ?_|refine gQ ?_|refine gO ?_|refine gV ?_|refine pN ?_)|((with_reducible refine And.intro ?_ ?_);(first|(rw [sizeLine_eq];exact of_decide_eq_true rfl)|omega))|((with_reducible first|refine kZ ?_ ?_|refine kQ ?_ ?_|refine kS ?_ ?_|refine kB ?_ ?_|refine kM ?_ ?_|refine pH ?_ ?_|refine pK ?_ ?_);exact rfl)|((with_reducible first|refine kR ?_ ?_ ?_|refine kT ?_ ?_ ?_|apply kG);exact rfl;exact rfl)|((with_reducible apply gZ);assumption;exact rfl;decide +kernel;exact rfl)|((with_reducible apply kA);assumption;exact rfl;decide +kernel;exact rfl;(first|exact .type _|exact .builtin _);exact rfl)|((with_reducible refine gL ?_ ?_);decide)|((with_reducible refine gK ?_ ?_ ?_);decide;exact PyProof.noPylong_small (by decide))|((with_reducible refine gM ?_ ?_);(first|exact IntMulOk.of_right (intBits_le_64 (by omega) (by omega))|exact IntMulOk.of_left (intBits_le_64 (by omega) (by omega))))|((with_reducible refine kF ?_ ?_ ?_);exact rfl;exact fun _ => rfl)|((with_reducible refine gW ?_ ?_);exact fun _ => rfl)|with_reducible refine pO ?_))
      split
      · rename_i hv
        have hv : v = 0 := by have : (v : Int) = 0 := by simpa using hv
                              (first|lia|omega)
        rw [if_pos hv] at hturnE
        rw [hturnE] at heq
        dsimp only at heq
        rw [heq] at h
        repeat (first|with_reducible refine kW ?_|(first|with_reducible (first|refine pB ?_|refine pF ?_|refine pA ?_|refine kX ?_|refine kY ?_|refine gH ?_|refine gG ?_|refine kD ?_|refine gY ?_|refine kJ ?_|refine gX ?_|refine kL ?_|refine kE ?_|refine kK ?_|refine kC ?_|refine kI ?_|refine kO ?_|refine kP ?_|refine kN ?_|refine pJ ?_|refine pG ?_|refine gB ?_|refine gA ?_|refine pM ?_|refine gJ ?_|refine gN ?_|refine gU ?_|refine gQ ?_|refine gO ?_|refine gV ?_|refine pN ?_)|((with_reducible refine And.intro ?_ ?_);(first|(rw [sizeLine_eq];exact of_decide_eq_true rfl)|omega))|((with_reducible first|refine kZ ?_ ?_|refine kQ ?_ ?_|refine kS ?_ ?_|refine kB ?_ ?_|refine kM ?_ ?_|refine pH ?_ ?_|refine pK ?_ ?_);exact rfl)|((with_reducible first|refine kR ?_ ?_ ?_|refine kT ?_ ?_ ?_|apply kG);exact rfl;exact rfl)|((with_reducible apply gZ);assumption;exact rfl;decide +kernel;exact rfl)|((with_reducible apply kA);assumption;exact rfl;decide +kernel;exact rfl;(first|exact .type _|exact .builtin _);exact rfl)|((with_reducible refine gL ?_ ?_);decide)|((with_reducible refine gK ?_ ?_ ?_);decide;exact PyProof.noPylong_small (by decide))|((with_reducible refine gM ?_ ?_);(first|exact IntMulOk.of_right (intBits_le_64 (by omega) (by omega))|exact IntMulOk.of_left (intBits_le_64 (by omega) (by omega))))|((with_reducible refine kF ?_ ?_ ?_);exact rfl;exact fun _ => rfl)|((with_reducible refine gW ?_ ?_);exact fun _ => rfl)|with_reducible refine pO ?_))
        exact h _ k1 li1 hS3 (hF12.trans (Fx.of sub3))
      · rename_i hv
        have hv : ¬ v = 0 := by intro e; exact hv (by simp [e])
        rw [if_neg hv] at hturnE
        obtain ⟨z1, z2⟩ := hturn hturnE
        rw [hturnE] at heq
        dsimp only at heq
        have hol := hO2.t.ok.len
        have hml := pw_bound _ _ hO2.inc hO2.lt
        dsimp only at hol hml
        repeat (first|with_reducible refine kW ?_|(first|with_reducible (first|refine pB ?_|refine pF ?_|refine pA ?_|refine kX ?_|refine kY ?_|refine gH ?_|refine gG ?_|refine kD ?_|refine gY ?_|refine kJ ?_|refine gX ?_|refine kL ?_|refine kE ?_|refine kK ?_|refine kC ?_|refine kI ?_|refine kO ?_|refine kP ?_|refine kN ?_|refine pJ ?_|refine pG ?_|refine gB ?_|refine gA ?_|refine pM ?_|refine gJ ?_|refine gN ?_|refine gU ?_|refine gQ ?_|refine gO ?_|refine gV ?_|refine pN ?_)|((with_reducible refine And.intro ?_ ?_);(first|(rw [sizeLine_eq];exact of_decide_eq_true rfl)|omega))|((with_reducible first|refine kZ ?_ ?_|refine kQ ?_ ?_|refine kS ?_ ?_|refine kB ?_ ?_|refine kM ?_ ?_|refine pH ?_ ?_|refine pK ?_ ?_);exact rfl)|((with_reducible first|refine kR ?_ ?_ ?_|refine kT ?_ ?_ ?_|apply kG);exact rfl;exact rfl)|((with_reducible apply gZ);assumption;exact rfl;decide +kernel;exact rfl)|((with_reducible apply kA);assumption;exact rfl;decide +kernel;exact rfl;(first|exact .type _|exact .builtin _);exact rfl)|((with_reducible refine gL ?_ ?_);decide)|((with_reducible refine gK ?_ ?_ ?_);decide;exact PyProof.noPylong_small (by decide))|((with_reducible refine gM ?_ ?_);(first|exact IntMulOk.of_right (intBits_le_64 (by omega) (by omega))|exact IntMulOk.of_left (intBits_le_64 (by omega) (by omega))))|((with_reducible refine kF ?_ ?_ ?_);exact rfl;exact fun _ => rfl)|((with_reducible refine gW ?_ ?_);exact fun _ => rfl)|with_reducible refine pO ?_))
        refine S.c.get hS3.s hS3.d rfl rfl rfl ?_
        refine S.t.meth S.decide hS3.t.t hS3.t.d rfl ?_
        repeat (first|with_reducible refine kW ?_|(first|with_reducible (first|refine pB ?_|refine pF ?_|refine pA ?_|refine kX ?_|refine kY ?_|refine gH ?_|refine gG ?_|refine kD ?_|refine gY ?_|refine kJ ?_|refine gX ?_|refine kL ?_|refine kE ?_|refine kK ?_|refine kC ?_|refine kI ?_|refine kO ?_|refine kP ?_|refine kN ?_|refine pJ ?_|refine pG ?_|refine gB ?_|refine gA ?_|refine pM ?_|refine gJ ?_|refine gN ?_|refine gU ?_|refine gQ ?_|refine gO ?_|refine gV ?_|refine pN ?_)|((with_reducible refine And.intro ?_ ?_);(first|(rw [sizeLine_eq];exact of_decide_eq_true rfl)|omega))|((with_reducible first|refine kZ ?_ ?_|refine kQ ?_ ?_|refine kS ?_ ?_|refine kB ?_ ?_|refine kM ?_ ?_|refine pH ?_ ?_|refine pK ?_ ?_);exact rfl)|((with_reducible first|refine kR ?_ ?_ ?_|refine kT ?_ ?_ ?_|apply kG);exact rfl;exact rfl)|((with_reducible apply gZ);assumption;exact rfl;decide +kernel;exact rfl)|((with_reducible apply kA);assumption;exact rfl;decide +kernel;exact rfl;(first|exact .type _|exact .builtin _);exact rfl)|((with_reducible refine gL ?_ ?_);decide)|((with_reducible refine gK ?_ ?_ ?_);decide;exact PyProof.noPylong_small (by decide))|((with_reducible refine gM ?_ ?_);(first|exact IntMulOk.of_right (intBits_le_64 (by omega) (by omega))|exact IntMulOk.of_left (intBits_le_64 (by omega) (by omega))))|((with_reducible refine kF ?_ ?_ ?_);exact rfl;exact fun _ => rfl)|((with_reducible refine gW ?_ ?_);exact fun _ => rfl)|with_reducible refine pO ?_))
        refine (decide_spec S.t S.decide S.assign S.hlen hS3.t hO2.t.len (by (first|lia|omega)) (by show od2.length ≤ 100000; (first|lia|omega)) (by simp [mkl]; (first|lia|omega)) (by unfold inR; (first|lia|omega)) fun σ4 hT4 hF4 => ?_).call
        repeat (first|with_reducible refine kW ?_|(first|with_reducible (first|refine pB ?_|refine pF ?_|refine pA ?_|refine kX ?_|refine kY ?_|refine gH ?_|refine gG ?_|refine kD ?_|refine gY ?_|refine kJ ?_|refine gX ?_|refine kL ?_|refine kE ?_|refine kK ?_|refine kC ?_|refine kI ?_|refine kO ?_|refine kP ?_|refine kN ?_|refine pJ ?_|refine pG ?_|refine gB ?_|refine gA ?_|refine pM ?_|refine gJ ?_|refine gN ?_|refine gU ?_|refine gQ ?_|refine gO ?_|refine gV ?_|refine pN ?_)|((with_reducible refine And.intro ?_ ?_);(first|(rw [sizeLine_eq];exact of_decide_eq_true rfl)|omega))|((with_reducible first|refine kZ ?_ ?_|refine kQ ?_ ?_|refine kS ?_ ?_|refine kB ?_ ?_|refine kM ?_ ?_|refine pH ?_ ?_|refine pK ?_ ?_);exact rfl)|((with_reducible first|refine kR ?_ ?_ ?_|refine kT ?_ ?_ ?_|apply kG);exact rfl;exact rfl)|((with_reducible apply gZ);assumption;exact rfl;decide +kernel;exact rfl)|((with_reducible apply kA);assumption;exact rfl;decide +kernel;exact rfl;(first|exact .type _|exact .builtin _);exact rfl)|((with_reducible refine gL ?_ ?_);decide)|((with_reducible refine gK ?_ ?_ ?_);decide;exact PyProof.noPylong_small (by decide))|((with_reducible refine gM ?_ ?_);(first|exact IntMulOk.of_right (intBits_le_64 (by omega) (by omega))|exact IntMulOk.of_left (intBits_le_64 (by omega) (by omega))))|((with_reducible refine kF ?_ ?_ ?_);exact rfl;exact fun _ => rfl)|((with_reducible refine gW ?_ ?_);exact fun _ => rfl)|with_reducible refine pO ?_))
        refine ⟨⟨wset ws2 v, od2 ++ [(v : Int)], st1.ms ++ [od2.length], st1.pf⟩, k1, li1, by (repeat (first | exact LE.nil | refine LE.cons (by exact rfl) ?_)), hS3.tr hF4 (by dsimp only; rw [mkl_snoc]; exact hT4) rfl, (hF12.trans (Fx.of sub3)).trans (hF4.up (SolAt.pS q)), z1, z2, heq⟩
  · rintro m' σ1 ⟨st1, k1, li1, le, hS1, hF1, hO1, hp1, heq⟩
    rw [Nat.sub_self, solveM] at heq
    rw [heq] at h
    refine TX.forget le ?_
    repeat (first|with_reducible refine kW ?_|(first|with_reducible (first|refine pB ?_|refine pF ?_|refine pA ?_|refine kX ?_|refine kY ?_|refine gH ?_|refine gG ?_|refine kD ?_|refine gY ?_|refine kJ ?_|refine gX ?_|refine kL ?_|refine kE ?_|refine kK ?_|refine kC ?_|refine kI ?_|refine kO ?_|refine kP ?_|refine kN ?_|refine pJ ?_|refine pG ?_|refine gB ?_|refine gA ?_|refine pM ?_|refine gJ ?_|refine gN ?_|refine gU ?_|refine gQ ?_|refine gO ?_|refine gV ?_|refine pN ?_)|((with_reducible refine And.intro ?_ ?_);(first|(rw [sizeLine_eq];exact of_decide_eq_true rfl)|omega))|((with_reducible first|refine kZ ?_ ?_|refine kQ ?_ ?_|refine kS ?_ ?_|refine kB ?_ ?_|refine kM ?_ ?_|refine pH ?_ ?_|refine pK ?_ ?_);exact rfl)|((with_reducible first|refine kR ?_ ?_ ?_|refine kT ?_ ?_ ?_|apply kG);exact rfl;exact rfl)|((with_reducible apply gZ);assumption;exact rfl;decide +kernel;exact rfl)|((with_reducible apply kA);assumption;exact rfl;decide +kernel;exact rfl;(first|exact .type _|exact .builtin _);exact rfl)|((with_reducible refine gL ?_ ?_);decide)|((with_reducible refine gK ?_ ?_ ?_);decide;exact PyProof.noPylong_small (by decide))|((with_reducible refine gM ?_ ?_);(first|exact IntMulOk.of_right (intBits_le_64 (by omega) (by omega))|exact IntMulOk.of_left (intBits_le_64 (by omega) (by omega))))|((with_reducible refine kF ?_ ?_ ?_);exact rfl;exact fun _ => rfl)|((with_reducible refine gW ?_ ?_);exact fun _ => rfl)|with_reducible refine pO ?_))
    exact h _ k1 li1 hS1 hF1


theorem copy_comp {W : Wd} {n : Nat} {sc : Scope} {m : Locs} {scope : Scope} {x : Str} {elt : Expr} {Q : AV → AH → Prop} {l : Nat} {is : List Nat} {rs : List (List Int)} {σ : AH} (hc : RowsP σ l is rs) (hz1 : rs.length ≤ 1000000) (hz2 : ∀ c ∈ rs, c.length ≤ 1000000)
    (helt : ∀ (i : Nat) (σ' : AH) (QQ : AV → AH → Prop), TCall W n (.stat (.type "list")) [.ref i] QQ σ' → TE W n (relabelS scope sc) (mC scope x (.ref i) m) elt QQ σ')
    (h : ∀ σ' js, Sub σ σ' → (∀ j ∈ js, σ.length ≤ j) → RowsP (σ' ++ [.list (js.map .ref)]) σ'.length js rs → Q (.ref σ'.length) (σ' ++ [.list (js.map .ref)])) :
    CompT W n sc m scope x [] elt Q (.ref l) σ := by
  refine ⟨_, _, fun i acc σ' => ∃ js : List Nat, acc = js.map .ref ∧ Sub σ σ' ∧ RowsIn l σ' js (rs.take i) ∧ ∀ j ∈ js, σ.length ≤ j, .inl ⟨_, _, rfl, rfl, fun _ _ => rfl, hc.g, fun i acc σ' _ ⟨js, _, j, _⟩ => j _ _ hc.g⟩, by rw [sizeLine_eq]; simp [hc.r.length]; (first|lia|omega), ⟨[], rfl, Sub.refl _, trivial, by simp⟩, ?_, ?_⟩
  · rintro i acc σ' hi ⟨js, rfl, sub, hin, hge⟩
    simp only [List.length_map] at hi
    obtain ⟨r, hr', -, hrow⟩ := hc.r.geti (j := i) (i := is[i]) (by simp)
    refine tifs_nil ?_
    rw [if_pos rfl, List.getElem?_map, List.getElem?_eq_getElem hi]
    refine helt _ _ _ ?_
    refine tcall_list (sub _ _ hrow) (by have := hz2 r (List.mem_of_getElem? hr'); rw [sizeLine_eq]; simp; (first|lia|omega)) ?_
    have hlt := lt_of_get (sub _ _ hc.g)
    have hsl := Sub.len sub
    refine ⟨js ++ [_], by rw [List.map_append]; rfl, by (repeat (first | exact Sub.refl _ | assumption | refine Sub.trans ?_ (Sub.snoc _ _))), ?_, ?_⟩
    · rw [List.take_add_one, hr']
      exact (hin.sub (Sub.snoc _ _).x).append (RowsIn.one (by (first|lia|omega)) (get_snoc _ _))
    · intro j hj
      rcases List.mem_append.mp hj with z | z
      · exact hge j z
      · rw [List.mem_singleton.mp z]; (first|lia|omega)
  · rintro acc σ2 ⟨js, rfl, sub2, hin, hge⟩
    rw [List.length_map, hc.r.length, List.take_length] at hin
    exact h σ2 js sub2 hge ⟨get_snoc _ _, (hin.new (Nat.le_refl _)).sub (Sub.snoc _ _).x⟩


abbrev S0 (n : Nat) : St := ⟨W0 n, [], [], []⟩
theorem verdict_spec {W : Wd} {K : Frag} {Cs Ct : Addr} {a0 a1 a2 a3 a4 a5 a6 a7 a8 a9 a10 a11 a12 a13 : Addr} (S : SolM W K Cs Ct a0 a1 a2 a3 a4 a5 a6 a7 a8 a9 a10 a11 a12 a13) {f : Addr} (F : FnIs W f ["clauses", "n"] (fnBody pw 9) (fnScope pw 9)) {lv n lc : Nat} {is : List Nat} {cs : List (List Int)} {σ : AH} {Q : AV → AH → Prop} (hc : RowsP σ lc is cs) (hn : n ≤ 18) (hok : okCls n cs) (hz1 : cs.length ≤ 100000) (hcl : ∀ c ∈ cs, c.length ≤ 100000)
    (h : ∀ (σ' : AH) (t lw lp : Nat) (js : List Nat), Sub σ σ' → σ'[t]? = some (.tuple [.str (solveM n cs (2 ^ (n + 2) + 8) (S0 n)).1, .ref lw, .ref lp]) → σ'[lw]? = some (.list ((solveM n cs (2 ^ (n + 2) + 8) (S0 n)).2.ws.map .int)) → RowsP σ' lp js (solveM n cs (2 ^ (n + 2) + 8) (S0 n)).2.pf → σ.length ≤ lp → (∀ j ∈ js, σ.length ≤ j) → Q (.ref t) σ') :
    TCode W (lv + 6) (.stat (.ref f)) [.ref lc, .int n] Q σ := by
  have hlist := S.hlist
  refine code_fn F rfl ?_
  refine kW ?_
  repeat (first|with_reducible refine kW ?_|(first|with_reducible (first|refine pB ?_|refine pF ?_|refine pA ?_|refine kX ?_|refine kY ?_|refine gH ?_|refine gG ?_|refine kD ?_|refine gY ?_|refine kJ ?_|refine gX ?_|refine kL ?_|refine kE ?_|refine kK ?_|refine kC ?_|refine kI ?_|refine kO ?_|refine kP ?_|refine kN ?_|refine pJ ?_|refine pG ?_|refine gB ?_|refine gA ?_|refine pM ?_|refine gJ ?_|refine gN ?_|refine gU ?_|refine gQ ?_|refine gO ?_|refine gV ?_|refine pN ?_)|((with_reducible refine And.intro ?_ ?_);(first|(rw [sizeLine_eq];exact of_decide_eq_true rfl)|omega))|((with_reducible first|refine kZ ?_ ?_|refine kQ ?_ ?_|refine kS ?_ ?_|refine kB ?_ ?_|refine kM ?_ ?_|refine pH ?_ ?_|refine pK ?_ ?_);exact rfl)|((with_reducible first|refine kR ?_ ?_ ?_|refine kT ?_ ?_ ?_|apply kG);exact rfl;exact rfl)|((with_reducible apply gZ);assumption;exact rfl;decide +kernel;exact rfl)|((with_reducible apply kA);assumption;exact rfl;decide +kernel;exact rfl;(first|exact .type _|exact .builtin _);exact rfl)|((with_reducible refine gL ?_ ?_);decide)|((with_reducible refine gK ?_ ?_ ?_);decide;exact PyProof.noPylong_small (by decide))|((with_reducible refine gM ?_ ?_);(first|exact IntMulOk.of_right (intBits_le_64 (by omega) (by omega))|exact IntMulOk.of_left (intBits_le_64 (by omega) (by omega))))|((with_reducible refine kF ?_ ?_ ?_);exact rfl;exact fun _ => rfl)|((with_reducible refine gW ?_ ?_);exact fun _ => rfl)|with_reducible refine pO ?_))
  refine te_callG S.gS rfl S.c.keeps rfl ?_
  repeat (first|with_reducible refine kW ?_|(first|with_reducible (first|refine pB ?_|refine pF ?_|refine pA ?_|refine kX ?_|refine kY ?_|refine gH ?_|refine gG ?_|refine kD ?_|refine gY ?_|refine kJ ?_|refine gX ?_|refine kL ?_|refine kE ?_|refine kK ?_|refine kC ?_|refine kI ?_|refine kO ?_|refine kP ?_|refine kN ?_|refine pJ ?_|refine pG ?_|refine gB ?_|refine gA ?_|refine pM ?_|refine gJ ?_|refine gN ?_|refine gU ?_|refine gQ ?_|refine gO ?_|refine gV ?_|refine pN ?_)|((with_reducible refine And.intro ?_ ?_);(first|(rw [sizeLine_eq];exact of_decide_eq_true rfl)|omega))|((with_reducible first|refine kZ ?_ ?_|refine kQ ?_ ?_|refine kS ?_ ?_|refine kB ?_ ?_|refine kM ?_ ?_|refine pH ?_ ?_|refine pK ?_ ?_);exact rfl)|((with_reducible first|refine kR ?_ ?_ ?_|refine kT ?_ ?_ ?_|apply kG);exact rfl;exact rfl)|((with_reducible apply gZ);assumption;exact rfl;decide +kernel;exact rfl)|((with_reducible apply kA);assumption;exact rfl;decide +kernel;exact rfl;(first|exact .type _|exact .builtin _);exact rfl)|((with_reducible refine gL ?_ ?_);decide)|((with_reducible refine gK ?_ ?_ ?_);decide;exact PyProof.noPylong_small (by decide))|((with_reducible refine gM ?_ ?_);(first|exact IntMulOk.of_right (intBits_le_64 (by omega) (by omega))|exact IntMulOk.of_left (intBits_le_64 (by omega) (by omega))))|((with_reducible refine kF ?_ ?_ ?_);exact rfl;exact fun _ => rfl)|((with_reducible refine gW ?_ ?_);exact fun _ => rfl)|with_reducible refine pO ?_))
  refine smk_spec S.c S.init S.t S.tinit S.gT hlist (by (first|lia|omega)) hc hz1 hcl fun q σ1 hS1 sub1 hge => ?_
  repeat (first|with_reducible refine kW ?_|(first|with_reducible (first|refine pB ?_|refine pF ?_|refine pA ?_|refine kX ?_|refine kY ?_|refine gH ?_|refine gG ?_|refine kD ?_|refine gY ?_|refine kJ ?_|refine gX ?_|refine kL ?_|refine kE ?_|refine kK ?_|refine kC ?_|refine kI ?_|refine kO ?_|refine kP ?_|refine kN ?_|refine pJ ?_|refine pG ?_|refine gB ?_|refine gA ?_|refine pM ?_|refine gJ ?_|refine gN ?_|refine gU ?_|refine gQ ?_|refine gO ?_|refine gV ?_|refine pN ?_)|((with_reducible refine And.intro ?_ ?_);(first|(rw [sizeLine_eq];exact of_decide_eq_true rfl)|omega))|((with_reducible first|refine kZ ?_ ?_|refine kQ ?_ ?_|refine kS ?_ ?_|refine kB ?_ ?_|refine kM ?_ ?_|refine pH ?_ ?_|refine pK ?_ ?_);exact rfl)|((with_reducible first|refine kR ?_ ?_ ?_|refine kT ?_ ?_ ?_|apply kG);exact rfl;exact rfl)|((with_reducible apply gZ);assumption;exact rfl;decide +kernel;exact rfl)|((with_reducible apply kA);assumption;exact rfl;decide +kernel;exact rfl;(first|exact .type _|exact .builtin _);exact rfl)|((with_reducible refine gL ?_ ?_);decide)|((with_reducible refine gK ?_ ?_ ?_);decide;exact PyProof.noPylong_small (by decide))|((with_reducible refine gM ?_ ?_);(first|exact IntMulOk.of_right (intBits_le_64 (by omega) (by omega))|exact IntMulOk.of_left (intBits_le_64 (by omega) (by omega))))|((with_reducible refine kF ?_ ?_ ?_);exact rfl;exact fun _ => rfl)|((with_reducible refine gW ?_ ?_);exact fun _ => rfl)|with_reducible refine pO ?_))
  refine S.c.meth S.solve hS1.s hS1.d rfl ?_
  repeat (first|with_reducible refine kW ?_|(first|with_reducible (first|refine pB ?_|refine pF ?_|refine pA ?_|refine kX ?_|refine kY ?_|refine gH ?_|refine gG ?_|refine kD ?_|refine gY ?_|refine kJ ?_|refine gX ?_|refine kL ?_|refine kE ?_|refine kK ?_|refine kC ?_|refine kI ?_|refine kO ?_|refine kP ?_|refine kN ?_|refine pJ ?_|refine pG ?_|refine gB ?_|refine gA ?_|refine pM ?_|refine gJ ?_|refine gN ?_|refine gU ?_|refine gQ ?_|refine gO ?_|refine gV ?_|refine pN ?_)|((with_reducible refine And.intro ?_ ?_);(first|(rw [sizeLine_eq];exact of_decide_eq_true rfl)|omega))|((with_reducible first|refine kZ ?_ ?_|refine kQ ?_ ?_|refine kS ?_ ?_|refine kB ?_ ?_|refine kM ?_ ?_|refine pH ?_ ?_|refine pK ?_ ?_);exact rfl)|((with_reducible first|refine kR ?_ ?_ ?_|refine kT ?_ ?_ ?_|apply kG);exact rfl;exact rfl)|((with_reducible apply gZ);assumption;exact rfl;decide +kernel;exact rfl)|((with_reducible apply kA);assumption;exact rfl;decide +kernel;exact rfl;(first|exact .type _|exact .builtin _);exact rfl)|((with_reducible refine gL ?_ ?_);decide)|((with_reducible refine gK ?_ ?_ ?_);decide;exact PyProof.noPylong_small (by decide))|((with_reducible refine gM ?_ ?_);(first|exact IntMulOk.of_right (intBits_le_64 (by omega) (by omega))|exact IntMulOk.of_left (intBits_le_64 (by omega) (by omega))))|((with_reducible refine kF ?_ ?_ ?_);exact rfl;exact fun _ => rfl)|((with_reducible refine gW ?_ ?_);exact fun _ => rfl)|with_reducible refine pO ?_))
  refine tbin_pow2 (k := n + 2) rfl (by (first|lia|omega)) ?_
  repeat (first|with_reducible refine kW ?_|(first|with_reducible (first|refine pB ?_|refine pF ?_|refine pA ?_|refine kX ?_|refine kY ?_|refine gH ?_|refine gG ?_|refine kD ?_|refine gY ?_|refine kJ ?_|refine gX ?_|refine kL ?_|refine kE ?_|refine kK ?_|refine kC ?_|refine kI ?_|refine kO ?_|refine kP ?_|refine kN ?_|refine pJ ?_|refine pG ?_|refine gB ?_|refine gA ?_|refine pM ?_|refine gJ ?_|refine gN ?_|refine gU ?_|refine gQ ?_|refine gO ?_|refine gV ?_|refine pN ?_)|((with_reducible refine And.intro ?_ ?_);(first|(rw [sizeLine_eq];exact of_decide_eq_true rfl)|omega))|((with_reducible first|refine kZ ?_ ?_|refine kQ ?_ ?_|refine kS ?_ ?_|refine kB ?_ ?_|refine kM ?_ ?_|refine pH ?_ ?_|refine pK ?_ ?_);exact rfl)|((with_reducible first|refine kR ?_ ?_ ?_|refine kT ?_ ?_ ?_|apply kG);exact rfl;exact rfl)|((with_reducible apply gZ);assumption;exact rfl;decide +kernel;exact rfl)|((with_reducible apply kA);assumption;exact rfl;decide +kernel;exact rfl;(first|exact .type _|exact .builtin _);exact rfl)|((with_reducible refine gL ?_ ?_);decide)|((with_reducible refine gK ?_ ?_ ?_);decide;exact PyProof.noPylong_small (by decide))|((with_reducible refine gM ?_ ?_);(first|exact IntMulOk.of_right (intBits_le_64 (by omega) (by omega))|exact IntMulOk.of_left (intBits_le_64 (by omega) (by omega))))|((with_reducible refine kF ?_ ?_ ?_);exact rfl;exact fun _ => rfl)|((with_reducible refine gW ?_ ?_);exact fun _ => rfl)|with_reducible refine pO ?_))
  rw [show (2 : Int) ^ (n + 2) + 8 = ((2 ^ (n + 2) + 8 : Nat) : Int) by simp]
  refine (solve_spec S hS1 (st0_ok n) hn hok hcl (by have := pow_big (n := n); show 0 + 2 * vol n ⟨W0 n, [], [], []⟩ ≤ 2 ^ (n + 1) + 0; (first|lia|omega)) fun σ2 k2 li2 hS2 hF2 => ?_).call
  have hO2 : (solveM n cs (2 ^ (n + 2) + 8) (S0 n)).2.pf.length ≤ 2 ^ (n + 1) ∧ StOk n (solveM n cs (2 ^ (n + 2) + 8) (S0 n)).2 ∧ ∀ r ∈ (solveM n cs (2 ^ (n + 2) + 8) (S0 n)).2.pf, r.length ≤ 100000 := solve_ok hok (by (first|lia|omega)) _ _ (st0_ok n) (by have := pow_big (n := n); show 0 + 2 * vol n ⟨W0 n, [], [], []⟩ ≤ 2 ^ (n + 1) + 0; (first|lia|omega)) (by simp)
  generalize solveM n cs (2 ^ (n + 2) + 8) (S0 n) = R at *
  obtain ⟨ans, st2⟩ := R
  dsimp only at hS2 hO2 h
  obtain ⟨hpl, hO2, hrl⟩ := hO2
  have hb18 : 2 ^ (n + 1) ≤ 2 ^ 19 := Nat.pow_le_pow_right (by decide) (by (first|lia|omega))
  have hol := hO2.t.ok.len
  have hml := pw_bound _ _ hO2.inc hO2.lt
  have hwl := hO2.t.len
  have sub2 := Fx.fresh sub1 hF2 hge
  have hlen2 := Sub.len sub2
  repeat (first|with_reducible refine kW ?_|(first|with_reducible (first|refine pB ?_|refine pF ?_|refine pA ?_|refine kX ?_|refine kY ?_|refine gH ?_|refine gG ?_|refine kD ?_|refine gY ?_|refine kJ ?_|refine gX ?_|refine kL ?_|refine kE ?_|refine kK ?_|refine kC ?_|refine kI ?_|refine kO ?_|refine kP ?_|refine kN ?_|refine pJ ?_|refine pG ?_|refine gB ?_|refine gA ?_|refine pM ?_|refine gJ ?_|refine gN ?_|refine gU ?_|refine gQ ?_|refine gO ?_|refine gV ?_|refine pN ?_)|((with_reducible refine And.intro ?_ ?_);(first|(rw [sizeLine_eq];exact of_decide_eq_true rfl)|omega))|((with_reducible first|refine kZ ?_ ?_|refine kQ ?_ ?_|refine kS ?_ ?_|refine kB ?_ ?_|refine kM ?_ ?_|refine pH ?_ ?_|refine pK ?_ ?_);exact rfl)|((with_reducible first|refine kR ?_ ?_ ?_|refine kT ?_ ?_ ?_|apply kG);exact rfl;exact rfl)|((with_reducible apply gZ);assumption;exact rfl;decide +kernel;exact rfl)|((with_reducible apply kA);assumption;exact rfl;decide +kernel;exact rfl;(first|exact .type _|exact .builtin _);exact rfl)|((with_reducible refine gL ?_ ?_);decide)|((with_reducible refine gK ?_ ?_ ?_);decide;exact PyProof.noPylong_small (by decide))|((with_reducible refine gM ?_ ?_);(first|exact IntMulOk.of_right (intBits_le_64 (by omega) (by omega))|exact IntMulOk.of_left (intBits_le_64 (by omega) (by omega))))|((with_reducible refine kF ?_ ?_ ?_);exact rfl;exact fun _ => rfl)|((with_reducible refine gW ?_ ?_);exact fun _ => rfl)|with_reducible refine pO ?_))
  refine S.c.get hS2.s hS2.d rfl rfl rfl ?_
  refine S.t.meth S.snap hS2.t.t hS2.t.d rfl ?_
  repeat (first|with_reducible refine kW ?_|(first|with_reducible (first|refine pB ?_|refine pF ?_|refine pA ?_|refine kX ?_|refine kY ?_|refine gH ?_|refine gG ?_|refine kD ?_|refine gY ?_|refine kJ ?_|refine gX ?_|refine kL ?_|refine kE ?_|refine kK ?_|refine kC ?_|refine kI ?_|refine kO ?_|refine kP ?_|refine kN ?_|refine pJ ?_|refine pG ?_|refine gB ?_|refine gA ?_|refine pM ?_|refine gJ ?_|refine gN ?_|refine gU ?_|refine gQ ?_|refine gO ?_|refine gV ?_|refine pN ?_)|((with_reducible refine And.intro ?_ ?_);(first|(rw [sizeLine_eq];exact of_decide_eq_true rfl)|omega))|((with_reducible first|refine kZ ?_ ?_|refine kQ ?_ ?_|refine kS ?_ ?_|refine kB ?_ ?_|refine kM ?_ ?_|refine pH ?_ ?_|refine pK ?_ ?_);exact rfl)|((with_reducible first|refine kR ?_ ?_ ?_|refine kT ?_ ?_ ?_|apply kG);exact rfl;exact rfl)|((with_reducible apply gZ);assumption;exact rfl;decide +kernel;exact rfl)|((with_reducible apply kA);assumption;exact rfl;decide +kernel;exact rfl;(first|exact .type _|exact .builtin _);exact rfl)|((with_reducible refine gL ?_ ?_);decide)|((with_reducible refine gK ?_ ?_ ?_);decide;exact PyProof.noPylong_small (by decide))|((with_reducible refine gM ?_ ?_);(first|exact IntMulOk.of_right (intBits_le_64 (by omega) (by omega))|exact IntMulOk.of_left (intBits_le_64 (by omega) (by omega))))|((with_reducible refine kF ?_ ?_ ?_);exact rfl;exact fun _ => rfl)|((with_reducible refine gW ?_ ?_);exact fun _ => rfl)|with_reducible refine pO ?_))
  refine (snap_spec S.t S.snap hlist hS2.t (by (first|lia|omega)) (by (first|lia|omega)) (by simp [mkl]; (first|lia|omega)) fun σ3 e3 => ?_).call
  obtain ⟨sn3, sub3⟩ := snap_new _ _ _ _ e3
  clear e3
  have hS3 := hS2.sub sub3
  repeat (first|with_reducible refine kW ?_|(first|with_reducible (first|refine pB ?_|refine pF ?_|refine pA ?_|refine kX ?_|refine kY ?_|refine gH ?_|refine gG ?_|refine kD ?_|refine gY ?_|refine kJ ?_|refine gX ?_|refine kL ?_|refine kE ?_|refine kK ?_|refine kC ?_|refine kI ?_|refine kO ?_|refine kP ?_|refine kN ?_|refine pJ ?_|refine pG ?_|refine gB ?_|refine gA ?_|refine pM ?_|refine gJ ?_|refine gN ?_|refine gU ?_|refine gQ ?_|refine gO ?_|refine gV ?_|refine pN ?_)|((with_reducible refine And.intro ?_ ?_);(first|(rw [sizeLine_eq];exact of_decide_eq_true rfl)|omega))|((with_reducible first|refine kZ ?_ ?_|refine kQ ?_ ?_|refine kS ?_ ?_|refine kB ?_ ?_|refine kM ?_ ?_|refine pH ?_ ?_|refine pK ?_ ?_);exact rfl)|((with_reducible first|refine kR ?_ ?_ ?_|refine kT ?_ ?_ ?_|apply kG);exact rfl;exact rfl)|((with_reducible apply gZ);assumption;exact rfl;decide +kernel;exact rfl)|((with_reducible apply kA);assumption;exact rfl;decide +kernel;exact rfl;(first|exact .type _|exact .builtin _);exact rfl)|((with_reducible refine gL ?_ ?_);decide)|((with_reducible refine gK ?_ ?_ ?_);decide;exact PyProof.noPylong_small (by decide))|((with_reducible refine gM ?_ ?_);(first|exact IntMulOk.of_right (intBits_le_64 (by omega) (by omega))|exact IntMulOk.of_left (intBits_le_64 (by omega) (by omega))))|((with_reducible refine kF ?_ ?_ ?_);exact rfl;exact fun _ => rfl)|((with_reducible refine gW ?_ ?_);exact fun _ => rfl)|with_reducible refine pO ?_))
  refine tidx_tuple rfl sn3.2.2.2 (k := 0) (j := 0) rfl rfl (by decide) ?_
  refine kW ?_
  refine ts_assign_comp rfl rfl rfl ?_
  repeat (first|with_reducible refine kW ?_|(first|with_reducible (first|refine pB ?_|refine pF ?_|refine pA ?_|refine kX ?_|refine kY ?_|refine gH ?_|refine gG ?_|refine kD ?_|refine gY ?_|refine kJ ?_|refine gX ?_|refine kL ?_|refine kE ?_|refine kK ?_|refine kC ?_|refine kI ?_|refine kO ?_|refine kP ?_|refine kN ?_|refine pJ ?_|refine pG ?_|refine gB ?_|refine gA ?_|refine pM ?_|refine gJ ?_|refine gN ?_|refine gU ?_|refine gQ ?_|refine gO ?_|refine gV ?_|refine pN ?_)|((with_reducible refine And.intro ?_ ?_);(first|(rw [sizeLine_eq];exact of_decide_eq_true rfl)|omega))|((with_reducible first|refine kZ ?_ ?_|refine kQ ?_ ?_|refine kS ?_ ?_|refine kB ?_ ?_|refine kM ?_ ?_|refine pH ?_ ?_|refine pK ?_ ?_);exact rfl)|((with_reducible first|refine kR ?_ ?_ ?_|refine kT ?_ ?_ ?_|apply kG);exact rfl;exact rfl)|((with_reducible apply gZ);assumption;exact rfl;decide +kernel;exact rfl)|((with_reducible apply kA);assumption;exact rfl;decide +kernel;exact rfl;(first|exact .type _|exact .builtin _);exact rfl)|((with_reducible refine gL ?_ ?_);decide)|((with_reducible refine gK ?_ ?_ ?_);decide;exact PyProof.noPylong_small (by decide))|((with_reducible refine gM ?_ ?_);(first|exact IntMulOk.of_right (intBits_le_64 (by omega) (by omega))|exact IntMulOk.of_left (intBits_le_64 (by omega) (by omega))))|((with_reducible refine kF ?_ ?_ ?_);exact rfl;exact fun _ => rfl)|((with_reducible refine gW ?_ ?_);exact fun _ => rfl)|with_reducible refine pO ?_))
  refine S.c.get hS3.s hS3.d rfl rfl rfl ?_
  refine copy_comp hS3.f (by (first|lia|omega)) (fun c hc' => by have := hrl c hc'; (first|lia|omega)) (fun i σ' QQ hq => ?_) fun σ4 js sub4 hge4 hR4 => ?_
  · repeat (first|with_reducible refine kW ?_|(first|with_reducible (first|refine pB ?_|refine pF ?_|refine pA ?_|refine kX ?_|refine kY ?_|refine gH ?_|refine gG ?_|refine kD ?_|refine gY ?_|refine kJ ?_|refine gX ?_|refine kL ?_|refine kE ?_|refine kK ?_|refine kC ?_|refine kI ?_|refine kO ?_|refine kP ?_|refine kN ?_|refine pJ ?_|refine pG ?_|refine gB ?_|refine gA ?_|refine pM ?_|refine gJ ?_|refine gN ?_|refine gU ?_|refine gQ ?_|refine gO ?_|refine gV ?_|refine pN ?_)|((with_reducible refine And.intro ?_ ?_);(first|(rw [sizeLine_eq];exact of_decide_eq_true rfl)|omega))|((with_reducible first|refine kZ ?_ ?_|refine kQ ?_ ?_|refine kS ?_ ?_|refine kB ?_ ?_|refine kM ?_ ?_|refine pH ?_ ?_|refine pK ?_ ?_);exact rfl)|((with_reducible first|refine kR ?_ ?_ ?_|refine kT ?_ ?_ ?_|apply kG);exact rfl;exact rfl)|((with_reducible apply gZ);assumption;exact rfl;decide +kernel;exact rfl)|((with_reducible apply kA);assumption;exact rfl;decide +kernel;exact rfl;(first|exact .type _|exact .builtin _);exact rfl)|((with_reducible refine gL ?_ ?_);decide)|((with_reducible refine gK ?_ ?_ ?_);decide;exact PyProof.noPylong_small (by decide))|((with_reducible refine gM ?_ ?_);(first|exact IntMulOk.of_right (intBits_le_64 (by omega) (by omega))|exact IntMulOk.of_left (intBits_le_64 (by omega) (by omega))))|((with_reducible refine kF ?_ ?_ ?_);exact rfl;exact fun _ => rfl)|((with_reducible refine gW ?_ ?_);exact fun _ => rfl)|with_reducible refine pO ?_))
    exact hq
  have hlen3 := Sub.len sub3
  have hlen4 := Sub.len sub4
  have hlw4 : (σ4 ++ [.list (js.map .ref)])[σ2.length]? = some (.list (st2.ws.map .int)) := Sub.snoc _ _ _ _ (sub4 _ _ sn3.1)
  have sub04 := (sub2.trans sub3).trans (sub4.trans (Sub.snoc σ4 [.list (js.map .ref)]))
  repeat (first|with_reducible refine kW ?_|(first|with_reducible (first|refine pB ?_|refine pF ?_|refine pA ?_|refine kX ?_|refine kY ?_|refine gH ?_|refine gG ?_|refine kD ?_|refine gY ?_|refine kJ ?_|refine gX ?_|refine kL ?_|refine kE ?_|refine kK ?_|refine kC ?_|refine kI ?_|refine kO ?_|refine kP ?_|refine kN ?_|refine pJ ?_|refine pG ?_|refine gB ?_|refine gA ?_|refine pM ?_|refine gJ ?_|refine gN ?_|refine gU ?_|refine gQ ?_|refine gO ?_|refine gV ?_|refine pN ?_)|((with_reducible refine And.intro ?_ ?_);(first|(rw [sizeLine_eq];exact of_decide_eq_true rfl)|omega))|((with_reducible first|refine kZ ?_ ?_|refine kQ ?_ ?_|refine kS ?_ ?_|refine kB ?_ ?_|refine kM ?_ ?_|refine pH ?_ ?_|refine pK ?_ ?_);exact rfl)|((with_reducible first|refine kR ?_ ?_ ?_|refine kT ?_ ?_ ?_|apply kG);exact rfl;exact rfl)|((with_reducible apply gZ);assumption;exact rfl;decide +kernel;exact rfl)|((with_reducible apply kA);assumption;exact rfl;decide +kernel;exact rfl;(first|exact .type _|exact .builtin _);exact rfl)|((with_reducible refine gL ?_ ?_);decide)|((with_reducible refine gK ?_ ?_ ?_);decide;exact PyProof.noPylong_small (by decide))|((with_reducible refine gM ?_ ?_);(first|exact IntMulOk.of_right (intBits_le_64 (by omega) (by omega))|exact IntMulOk.of_left (intBits_le_64 (by omega) (by omega))))|((with_reducible refine kF ?_ ?_ ?_);exact rfl;exact fun _ => rfl)|((with_reducible refine gW ?_ ?_);exact fun _ => rfl)|with_reducible refine pO ?_))
  refine h _ _ _ _ js (by (repeat (first | exact Sub.refl _ | assumption | refine Sub.trans ?_ (Sub.snoc _ _)))) (get_snoc _ _) (Sub.snoc _ _ _ _ hlw4) (hR4.sub (Sub.snoc _ _)) (by (first|lia|omega)) fun j hj => by have := hge4 j hj; (first|lia|omega)

def opK : Op → Str
  | .var _ => "var"
  | .not => "not"
  | .and => "and"
  | .or => "or"
def opV : Op → Nat
  | .var v => v
  | _ => 0
def isVar : Op → Bool
  | .var _ => true
  | _ => false
def isNot : Op → Bool
  | .not => true
  | _ => false
def isAnd : Op → Bool
  | .and => true
  | _ => false
theorem op_ok (o : Op) : PyData.strOk (opK o) = true := by
  cases o with
  | var v => show PyData.strOk "var" = true; decide +kernel
  | _ => decide +kernel
theorem op_var (o : Op) : (opK o == ("var" : Str)) = isVar o := by
  cases o with
  | var v => show (("var" : Str) == "var") = true; decide +kernel
  | _ => decide +kernel
theorem op_not (o : Op) : (opK o == ("not" : Str)) = isNot o := by
  cases o with
  | var v => show (("var" : Str) == "not") = false; decide +kernel
  | _ => decide +kernel
theorem op_and (o : Op) : (opK o == ("and" : Str)) = isAnd o := by
  cases o with
  | var v => show (("var" : Str) == "and") = false; decide +kernel
  | _ => decide +kernel
theorem ok_var : PyData.strOk "var" = true := by decide +kernel
theorem ok_not : PyData.strOk "not" = true := by decide +kernel
theorem ok_and : PyData.strOk "and" = true := by decide +kernel
def OpAt (σ : AH) (i : Nat) (o : Op) : Prop := σ[i]? = some (.tuple [.str (opK o), .int (opV o)])
def OpsIn (σ : AH) : List Nat → List Op → Prop
  | [], [] => True
  | i :: is, o :: os => OpAt σ i o ∧ OpsIn σ is os
  | _, _ => False
theorem OpsIn.length {σ : AH} : ∀ {is : List Nat} {os : List Op}, OpsIn σ is os → is.length = os.length
  | [], [], _ => rfl
  | _ :: _, _ :: _, h => by simp [OpsIn.length h.2]
theorem OpsIn.map {σ σ' : AH} (s : ∀ i o, OpAt σ i o → OpAt σ' i o) : ∀ {is : List Nat} {os : List Op}, OpsIn σ is os → OpsIn σ' is os
  | [], [], _ => trivial
  | _ :: _, _ :: _, h => ⟨s _ _ h.1, OpsIn.map s h.2⟩
theorem OpsIn.snoc {σ : AH} {i : Nat} {o : Op} (q : OpAt σ i o) : ∀ {is : List Nat} {os : List Op}, OpsIn σ is os → OpsIn σ (is ++ [i]) (os ++ [o])
  | [], [], _ => ⟨q, trivial⟩
  | _ :: _, _ :: _, h => ⟨h.1, OpsIn.snoc q h.2⟩
theorem OpsIn.geti {σ : AH} : ∀ {is : List Nat} {os : List Op} {j i : Nat}, OpsIn σ is os → is[j]? = some i → ∃ o, os[j]? = some o ∧ OpAt σ i o
  | i :: _, o :: _, 0, _, h, e => by cases e; exact ⟨o, rfl, h.1⟩
  | _ :: _, _ :: _, j + 1, _, h, e => OpsIn.geti (j := j) h.2 e
structure ExprP (σ : AH) (l : Nat) (is : List Nat) (es : List Op) : Prop where
  g : σ[l]? = some (.list (is.map .ref))
  r : OpsIn σ is es
theorem ExprP.sub {σ σ' : AH} {l : Nat} {is : List Nat} {es : List Op} (h : ExprP σ l is es) (s : Sub σ σ') : ExprP σ' l is es := ⟨s _ _ h.g, h.r.map fun i o q => s _ _ q⟩
theorem ExprP.push {σ : AH} {l i : Nat} {is : List Nat} {es : List Op} {o : Op} (h : ExprP σ l is es) (q : OpAt σ i o) : ExprP (σ.set l (.list (is.map .ref ++ [.ref i]))) l (is ++ [i]) (es ++ [o]) := by
  have ne : ∀ {k p}, OpAt σ k p → k ≠ l := fun a e => by subst e; have := a.symm.trans h.g; cases this
  refine ⟨by rw [get_set h.g]; simp, OpsIn.snoc ?_ (h.r.map fun k p a => ?_)⟩
  · exact get_ne (ne q) q
  · exact get_ne (ne a) a
theorem hRun_vars {n : Nat} : ∀ {es : List Op} {h k : Nat}, hRun n es h = some k → ∀ v, Op.var v ∈ es → 1 ≤ v ∧ v ≤ n
  | o :: es, h, k, e, v, hv => by
    obtain ⟨j, e1, e2⟩ := Option.bind_eq_some_iff.mp (show (hStep n o h).bind (hRun n es) = some k from e)
    rcases List.mem_cons.mp hv with q | q
    · subst q
      dsimp only [hStep] at e1
      split at e1
      · assumption
      · cases e1
    · exact hRun_vars e2 v q
theorem drop_cons {α : Type} {xs : List α} {i : Nat} {x : α} (h : xs[i]? = some x) : xs.drop i = x :: xs.drop (i + 1) := by
  rw [List.drop_eq_getElem_cons (List.getElem?_eq_some_iff.mp h).1]; congr 1; exact (List.getElem?_eq_some_iff.mp h).2
theorem pyIdx_l1 {k l : Nat} (h : l = k + 1) : pyIdx l (-1) = some k := by subst h; unfold pyIdx; rw [if_neg (by decide), if_pos (by (first|lia|omega))]; congr 1; (first|lia|omega)
theorem pyIdx_l2 {k l : Nat} (h : l = k + 2) : pyIdx l (-2) = some k := by subst h; unfold pyIdx; rw [if_neg (by decide), if_pos (by (first|lia|omega))]; congr 1; (first|lia|omega)
theorem cut2 {α β : Type} (f : α → β) (xs : List α) (a b : β) : (xs.map f ++ [a, b]).take ((xs.map f ++ [a, b]).length - 2) = xs.map f := by
  rw [List.length_append]; exact List.take_left' (by simp)
theorem cut1 {α β : Type} (f : α → β) (xs : List α) (a : β) : (xs.map f ++ [a]).take ((xs.map f ++ [a]).length - 1) = xs.map f := by
  rw [List.length_append]; exact List.take_left' (by simp)
def opB : Op → Bool → Bool → Bool
  | .and, a, b => a && b
  | _, a, b => a || b
theorem ev_bin {val : Nat → Bool} {o : Op} {st st' : List Bool} (h1 : isVar o = false) (h2 : isNot o = false) (h : evStep val o st = some st') : ∃ x y st0, st = y :: x :: st0 ∧ st' = opB o x y :: st0 := by
  cases o with
  | var v => cases h1
  | not => cases h2
  | and =>
    match st, h with
    | y :: x :: st0, h => exact ⟨x, y, st0, rfl, (Option.some.inj h).symm⟩
  | or =>
    match st, h with
    | y :: x :: st0, h => exact ⟨x, y, st0, rfl, (Option.some.inj h).symm⟩
theorem eval_spec {W : Wd} {f : Addr} (F : FnIs W f ["expr", "values"] (fnBody pw 4) (fnScope pw 4)) {lv n lx lw : Nat} {is : List Nat} {es : List Op} {ws : List Int} {b : Bool} {σ : AH} {Q : AV → AH → Prop} (hx : ExprP σ lx is es) (hw : σ[lw]? = some (.list (ws.map .int))) (hwl : ws.length = n + 1) (hn : n ≤ 1000) (hv : ∀ v, Op.var v ∈ es → 1 ≤ v ∧ v ≤ n) (hez : es.length ≤ 1000) (he : evRun (fun v => (ws[v]?).getD 0 == 1) es [] = some [b])
    (h : ∀ σ', Sub σ σ' → Q (.bool b) σ') :
    TCode W (lv + 1) (.stat (.ref f)) [.ref lx, .ref lw] Q σ := by
  refine code_fn F rfl ?_
  refine kW ?_
  repeat (first|with_reducible refine kW ?_|(first|with_reducible (first|refine pB ?_|refine pF ?_|refine pA ?_|refine kX ?_|refine kY ?_|refine gH ?_|refine gG ?_|refine kD ?_|refine gY ?_|refine kJ ?_|refine gX ?_|refine kL ?_|refine kE ?_|refine kK ?_|refine kC ?_|refine kI ?_|refine kO ?_|refine kP ?_|refine kN ?_|refine pJ ?_|refine pG ?_|refine gB ?_|refine gA ?_|refine pM ?_|refine gJ ?_|refine gN ?_|refine gU ?_|refine gQ ?_|refine gO ?_|refine gV ?_|refine pN ?_)|((with_reducible refine And.intro ?_ ?_);(first|(rw [sizeLine_eq];exact of_decide_eq_true rfl)|omega))|((with_reducible first|refine kZ ?_ ?_|refine kQ ?_ ?_|refine kS ?_ ?_|refine kB ?_ ?_|refine kM ?_ ?_|refine pH ?_ ?_|refine pK ?_ ?_);exact rfl)|((with_reducible first|refine kR ?_ ?_ ?_|refine kT ?_ ?_ ?_|apply kG);exact rfl;exact rfl)|((with_reducible apply gZ);assumption;exact rfl;decide +kernel;exact rfl)|((with_reducible apply kA);assumption;exact rfl;decide +kernel;exact rfl;(first|exact .type _|exact .builtin _);exact rfl)|((with_reducible refine gL ?_ ?_);decide)|((with_reducible refine gK ?_ ?_ ?_);decide;exact PyProof.noPylong_small (by decide))|((with_reducible refine gM ?_ ?_);(first|exact IntMulOk.of_right (intBits_le_64 (by omega) (by omega))|exact IntMulOk.of_left (intBits_le_64 (by omega) (by omega))))|((with_reducible refine kF ?_ ?_ ?_);exact rfl;exact fun _ => rfl)|((with_reducible refine gW ?_ ?_);exact fun _ => rfl)|with_reducible refine pO ?_))
  refine ts_for_list rfl rfl ?_
  repeat (first|with_reducible refine kW ?_|(first|with_reducible (first|refine pB ?_|refine pF ?_|refine pA ?_|refine kX ?_|refine kY ?_|refine gH ?_|refine gG ?_|refine kD ?_|refine gY ?_|refine kJ ?_|refine gX ?_|refine kL ?_|refine kE ?_|refine kK ?_|refine kC ?_|refine kI ?_|refine kO ?_|refine kP ?_|refine kN ?_|refine pJ ?_|refine pG ?_|refine gB ?_|refine gA ?_|refine pM ?_|refine gJ ?_|refine gN ?_|refine gU ?_|refine gQ ?_|refine gO ?_|refine gV ?_|refine pN ?_)|((with_reducible refine And.intro ?_ ?_);(first|(rw [sizeLine_eq];exact of_decide_eq_true rfl)|omega))|((with_reducible first|refine kZ ?_ ?_|refine kQ ?_ ?_|refine kS ?_ ?_|refine kB ?_ ?_|refine kM ?_ ?_|refine pH ?_ ?_|refine pK ?_ ?_);exact rfl)|((with_reducible first|refine kR ?_ ?_ ?_|refine kT ?_ ?_ ?_|apply kG);exact rfl;exact rfl)|((with_reducible apply gZ);assumption;exact rfl;decide +kernel;exact rfl)|((with_reducible apply kA);assumption;exact rfl;decide +kernel;exact rfl;(first|exact .type _|exact .builtin _);exact rfl)|((with_reducible refine gL ?_ ?_);decide)|((with_reducible refine gK ?_ ?_ ?_);decide;exact PyProof.noPylong_small (by decide))|((with_reducible refine gM ?_ ?_);(first|exact IntMulOk.of_right (intBits_le_64 (by omega) (by omega))|exact IntMulOk.of_left (intBits_le_64 (by omega) (by omega))))|((with_reducible refine kF ?_ ?_ ?_);exact rfl;exact fun _ => rfl)|((with_reducible refine gW ?_ ?_);exact fun _ => rfl)|with_reducible refine pO ?_))
  refine ⟨_, _, fun i m' σ' => ∃ st : List Bool, LE [("values", .ref lw), ("stack", .ref σ.length)] m' ∧ Sub σ σ' ∧ σ'[σ.length]? = some (.list (st.reverse.map .bool)) ∧ evRun (fun v => (ws[v]?).getD 0 == 1) (es.drop i) st = some [b] ∧ st.length ≤ i, rfl, ⟨[], by (repeat (first | exact LE.nil | refine LE.cons (by exact rfl) ?_)), by (repeat (first | exact Sub.refl _ | assumption | refine Sub.trans ?_ (Sub.snoc _ _))), get_snoc _ _, he, by simp⟩, fun i m' σ' _ ⟨_, _, q, _⟩ => q _ _ hx.g, ?_, ?_⟩
  · rintro i x m' σ1 hxi ⟨st, le, sub1, hst, hrun, hsl⟩
    rw [List.getElem?_map] at hxi
    obtain ⟨ir, hir, rfl⟩ := Option.map_eq_some_iff.mp hxi
    obtain ⟨o, ho, hop⟩ := hx.r.geti hir
    have hil : i < es.length := (List.getElem?_eq_some_iff.mp ho).1
    rw [drop_cons ho] at hrun
    obtain ⟨st', e1, e2⟩ := Option.bind_eq_some_iff.mp (show (evStep (fun v => (ws[v]?).getD 0 == 1) o st).bind (evRun _ (es.drop (i + 1))) = some [b] from hrun)
    have sb : ∀ o, Sub σ (σ1.set σ.length o) := fun o j q e => by rw [List.getElem?_set_ne (by have := lt_of_get e; (first|lia|omega))]; exact sub1 j q e
    have hop1 := sub1 _ _ hop
    refine TA.forget le (ta_tuple rfl hop1 rfl ?_)
    refine gG (ta_name rfl ?_)
    refine gG (ta_name rfl ?_)
    refine gH ?_
    repeat (first|with_reducible refine kW ?_|(first|with_reducible (first|refine pB ?_|refine pF ?_|refine pA ?_|refine kX ?_|refine kY ?_|refine gH ?_|refine gG ?_|refine kD ?_|refine gY ?_|refine kJ ?_|refine gX ?_|refine kL ?_|refine kE ?_|refine kK ?_|refine kC ?_|refine kI ?_|refine kO ?_|refine kP ?_|refine kN ?_|refine pJ ?_|refine pG ?_|refine gB ?_|refine gA ?_|refine pM ?_|refine gJ ?_|refine gN ?_|refine gU ?_|refine gQ ?_|refine gO ?_|refine gV ?_|refine pN ?_)|((with_reducible refine And.intro ?_ ?_);(first|(rw [sizeLine_eq];exact of_decide_eq_true rfl)|omega))|((with_reducible first|refine kZ ?_ ?_|refine kQ ?_ ?_|refine kS ?_ ?_|refine kB ?_ ?_|refine kM ?_ ?_|refine pH ?_ ?_|refine pK ?_ ?_);exact rfl)|((with_reducible first|refine kR ?_ ?_ ?_|refine kT ?_ ?_ ?_|apply kG);exact rfl;exact rfl)|((with_reducible apply gZ);assumption;exact rfl;decide +kernel;exact rfl)|((with_reducible apply kA);assumption;exact rfl;decide +kernel;exact rfl;(first|exact .type _|exact .builtin _);exact rfl)|((with_reducible refine gL ?_ ?_);decide)|((with_reducible refine gK ?_ ?_ ?_);decide;exact PyProof.noPylong_small (by decide))|((with_reducible refine gM ?_ ?_);(first|exact IntMulOk.of_right (intBits_le_64 (by omega) (by omega))|exact IntMulOk.of_left (intBits_le_64 (by omega) (by omega))))|((with_reducible refine kF ?_ ?_ ?_);exact rfl;exact fun _ => rfl)|((with_reducible refine gW ?_ ?_);exact fun _ => rfl)|with_reducible refine pO ?_))
    refine tcmp_eqS (op_ok o) ok_var ?_
    rw [op_var]
    repeat (first|with_reducible refine kW ?_|(first|with_reducible (first|refine pB ?_|refine pF ?_|refine pA ?_|refine kX ?_|refine kY ?_|refine gH ?_|refine gG ?_|refine kD ?_|refine gY ?_|refine kJ ?_|refine gX ?_|refine kL ?_|refine kE ?_|refine kK ?_|refine kC ?_|refine kI ?_|refine kO ?_|refine kP ?_|refine kN ?_|refine pJ ?_|refine pG ?_|refine gB ?_|refine gA ?_|refine pM ?_|refine gJ ?_|refine gN ?_|refine gU ?_|refine gQ ?_|refine gO ?_|refine gV ?_|refine pN ?_)|((with_reducible refine And.intro ?_ ?_);(first|(rw [sizeLine_eq];exact of_decide_eq_true rfl)|omega))|((with_reducible first|refine kZ ?_ ?_|refine kQ ?_ ?_|refine kS ?_ ?_|refine kB ?_ ?_|refine kM ?_ ?_|refine pH ?_ ?_|refine pK ?_ ?_);exact rfl)|((with_reducible first|refine kR ?_ ?_ ?_|refine kT ?_ ?_ ?_|apply kG);exact rfl;exact rfl)|((with_reducible apply gZ);assumption;exact rfl;decide +kernel;exact rfl)|((with_reducible apply kA);assumption;exact rfl;decide +kernel;exact rfl;(first|exact .type _|exact .builtin _);exact rfl)|((with_reducible refine gL ?_ ?_);decide)|((with_reducible refine gK ?_ ?_ ?_);decide;exact PyProof.noPylong_small (by decide))|((with_reducible refine gM ?_ ?_);(first|exact IntMulOk.of_right (intBits_le_64 (by omega) (by omega))|exact IntMulOk.of_left (intBits_le_64 (by omega) (by omega))))|((with_reducible refine kF ?_ ?_ ?_);exact rfl;exact fun _ => rfl)|((with_reducible refine gW ?_ ?_);exact fun _ => rfl)|with_reducible refine pO ?_))
    split
    · rename_i hq
      cases o with
      | var v =>
        obtain ⟨v1, v2⟩ := hv v (List.mem_of_getElem? ho)
        cases e1
        repeat (first|with_reducible refine kW ?_|(first|with_reducible (first|refine pB ?_|refine pF ?_|refine pA ?_|refine kX ?_|refine kY ?_|refine gH ?_|refine gG ?_|refine kD ?_|refine gY ?_|refine kJ ?_|refine gX ?_|refine kL ?_|refine kE ?_|refine kK ?_|refine kC ?_|refine kI ?_|refine kO ?_|refine kP ?_|refine kN ?_|refine pJ ?_|refine pG ?_|refine gB ?_|refine gA ?_|refine pM ?_|refine gJ ?_|refine gN ?_|refine gU ?_|refine gQ ?_|refine gO ?_|refine gV ?_|refine pN ?_)|((with_reducible refine And.intro ?_ ?_);(first|(rw [sizeLine_eq];exact of_decide_eq_true rfl)|omega))|((with_reducible first|refine kZ ?_ ?_|refine kQ ?_ ?_|refine kS ?_ ?_|refine kB ?_ ?_|refine kM ?_ ?_|refine pH ?_ ?_|refine pK ?_ ?_);exact rfl)|((with_reducible first|refine kR ?_ ?_ ?_|refine kT ?_ ?_ ?_|apply kG);exact rfl;exact rfl)|((with_reducible apply gZ);assumption;exact rfl;decide +kernel;exact rfl)|((with_reducible apply kA);assumption;exact rfl;decide +kernel;exact rfl;(first|exact .type _|exact .builtin _);exact rfl)|((with_reducible refine gL ?_ ?_);decide)|((with_reducible refine gK ?_ ?_ ?_);decide;exact PyProof.noPylong_small (by decide))|((with_reducible refine gM ?_ ?_);(first|exact IntMulOk.of_right (intBits_le_64 (by omega) (by omega))|exact IntMulOk.of_left (intBits_le_64 (by omega) (by omega))))|((with_reducible refine kF ?_ ?_ ?_);exact rfl;exact fun _ => rfl)|((with_reducible refine gW ?_ ?_);exact fun _ => rfl)|with_reducible refine pO ?_))
        refine tmeth_append hst ?_
        repeat (first|with_reducible refine kW ?_|(first|with_reducible (first|refine pB ?_|refine pF ?_|refine pA ?_|refine kX ?_|refine kY ?_|refine gH ?_|refine gG ?_|refine kD ?_|refine gY ?_|refine kJ ?_|refine gX ?_|refine kL ?_|refine kE ?_|refine kK ?_|refine kC ?_|refine kI ?_|refine kO ?_|refine kP ?_|refine kN ?_|refine pJ ?_|refine pG ?_|refine gB ?_|refine gA ?_|refine pM ?_|refine gJ ?_|refine gN ?_|refine gU ?_|refine gQ ?_|refine gO ?_|refine gV ?_|refine pN ?_)|((with_reducible refine And.intro ?_ ?_);(first|(rw [sizeLine_eq];exact of_decide_eq_true rfl)|omega))|((with_reducible first|refine kZ ?_ ?_|refine kQ ?_ ?_|refine kS ?_ ?_|refine kB ?_ ?_|refine kM ?_ ?_|refine pH ?_ ?_|refine pK ?_ ?_);exact rfl)|((with_reducible first|refine kR ?_ ?_ ?_|refine kT ?_ ?_ ?_|apply kG);exact rfl;exact rfl)|((with_reducible apply gZ);assumption;exact rfl;decide +kernel;exact rfl)|((with_reducible apply kA);assumption;exact rfl;decide +kernel;exact rfl;(first|exact .type _|exact .builtin _);exact rfl)|((with_reducible refine gL ?_ ?_);decide)|((with_reducible refine gK ?_ ?_ ?_);decide;exact PyProof.noPylong_small (by decide))|((with_reducible refine gM ?_ ?_);(first|exact IntMulOk.of_right (intBits_le_64 (by omega) (by omega))|exact IntMulOk.of_left (intBits_le_64 (by omega) (by omega))))|((with_reducible refine kF ?_ ?_ ?_);exact rfl;exact fun _ => rfl)|((with_reducible refine gW ?_ ?_);exact fun _ => rfl)|with_reducible refine pO ?_))
        refine tidx_nums rfl (sub1 _ _ hw) (j := v) rfl (by (first|lia|omega)) (by (first|lia|omega)) ?_
        repeat (first|with_reducible refine kW ?_|(first|with_reducible (first|refine pB ?_|refine pF ?_|refine pA ?_|refine kX ?_|refine kY ?_|refine gH ?_|refine gG ?_|refine kD ?_|refine gY ?_|refine kJ ?_|refine gX ?_|refine kL ?_|refine kE ?_|refine kK ?_|refine kC ?_|refine kI ?_|refine kO ?_|refine kP ?_|refine kN ?_|refine pJ ?_|refine pG ?_|refine gB ?_|refine gA ?_|refine pM ?_|refine gJ ?_|refine gN ?_|refine gU ?_|refine gQ ?_|refine gO ?_|refine gV ?_|refine pN ?_)|((with_reducible refine And.intro ?_ ?_);(first|(rw [sizeLine_eq];exact of_decide_eq_true rfl)|omega))|((with_reducible first|refine kZ ?_ ?_|refine kQ ?_ ?_|refine kS ?_ ?_|refine kB ?_ ?_|refine kM ?_ ?_|refine pH ?_ ?_|refine pK ?_ ?_);exact rfl)|((with_reducible first|refine kR ?_ ?_ ?_|refine kT ?_ ?_ ?_|apply kG);exact rfl;exact rfl)|((with_reducible apply gZ);assumption;exact rfl;decide +kernel;exact rfl)|((with_reducible apply kA);assumption;exact rfl;decide +kernel;exact rfl;(first|exact .type _|exact .builtin _);exact rfl)|((with_reducible refine gL ?_ ?_);decide)|((with_reducible refine gK ?_ ?_ ?_);decide;exact PyProof.noPylong_small (by decide))|((with_reducible refine gM ?_ ?_);(first|exact IntMulOk.of_right (intBits_le_64 (by omega) (by omega))|exact IntMulOk.of_left (intBits_le_64 (by omega) (by omega))))|((with_reducible refine kF ?_ ?_ ?_);exact rfl;exact fun _ => rfl)|((with_reducible refine gW ?_ ?_);exact fun _ => rfl)|with_reducible refine pO ?_))
        refine tcall_append hst (by rw [sizeLine_eq]; simp; (first|lia|omega)) ?_
        repeat (first|with_reducible refine kW ?_|(first|with_reducible (first|refine pB ?_|refine pF ?_|refine pA ?_|refine kX ?_|refine kY ?_|refine gH ?_|refine gG ?_|refine kD ?_|refine gY ?_|refine kJ ?_|refine gX ?_|refine kL ?_|refine kE ?_|refine kK ?_|refine kC ?_|refine kI ?_|refine kO ?_|refine kP ?_|refine kN ?_|refine pJ ?_|refine pG ?_|refine gB ?_|refine gA ?_|refine pM ?_|refine gJ ?_|refine gN ?_|refine gU ?_|refine gQ ?_|refine gO ?_|refine gV ?_|refine pN ?_)|((with_reducible refine And.intro ?_ ?_);(first|(rw [sizeLine_eq];exact of_decide_eq_true rfl)|omega))|((with_reducible first|refine kZ ?_ ?_|refine kQ ?_ ?_|refine kS ?_ ?_|refine kB ?_ ?_|refine kM ?_ ?_|refine pH ?_ ?_|refine pK ?_ ?_);exact rfl)|((with_reducible first|refine kR ?_ ?_ ?_|refine kT ?_ ?_ ?_|apply kG);exact rfl;exact rfl)|((with_reducible apply gZ);assumption;exact rfl;decide +kernel;exact rfl)|((with_reducible apply kA);assumption;exact rfl;decide +kernel;exact rfl;(first|exact .type _|exact .builtin _);exact rfl)|((with_reducible refine gL ?_ ?_);decide)|((with_reducible refine gK ?_ ?_ ?_);decide;exact PyProof.noPylong_small (by decide))|((with_reducible refine gM ?_ ?_);(first|exact IntMulOk.of_right (intBits_le_64 (by omega) (by omega))|exact IntMulOk.of_left (intBits_le_64 (by omega) (by omega))))|((with_reducible refine kF ?_ ?_ ?_);exact rfl;exact fun _ => rfl)|((with_reducible refine gW ?_ ?_);exact fun _ => rfl)|with_reducible refine pO ?_))
        refine ⟨_, by (repeat (first | exact LE.nil | refine LE.cons (by exact rfl) ?_)), sb _, ?_, e2, by simp; (first|lia|omega)⟩
        rw [get_set hst]
        dsimp only
        rw [List.getElem?_eq_getElem (by (first|lia|omega) : v < ws.length)]
        simp
      | not => cases hq
      | and => cases hq
      | or => cases hq
    · rename_i hq
      repeat (first|with_reducible refine kW ?_|(first|with_reducible (first|refine pB ?_|refine pF ?_|refine pA ?_|refine kX ?_|refine kY ?_|refine gH ?_|refine gG ?_|refine kD ?_|refine gY ?_|refine kJ ?_|refine gX ?_|refine kL ?_|refine kE ?_|refine kK ?_|refine kC ?_|refine kI ?_|refine kO ?_|refine kP ?_|refine kN ?_|refine pJ ?_|refine pG ?_|refine gB ?_|refine gA ?_|refine pM ?_|refine gJ ?_|refine gN ?_|refine gU ?_|refine gQ ?_|refine gO ?_|refine gV ?_|refine pN ?_)|((with_reducible refine And.intro ?_ ?_);(first|(rw [sizeLine_eq];exact of_decide_eq_true rfl)|omega))|((with_reducible first|refine kZ ?_ ?_|refine kQ ?_ ?_|refine kS ?_ ?_|refine kB ?_ ?_|refine kM ?_ ?_|refine pH ?_ ?_|refine pK ?_ ?_);exact rfl)|((with_reducible first|refine kR ?_ ?_ ?_|refine kT ?_ ?_ ?_|apply kG);exact rfl;exact rfl)|((with_reducible apply gZ);assumption;exact rfl;decide +kernel;exact rfl)|((with_reducible apply kA);assumption;exact rfl;decide +kernel;exact rfl;(first|exact .type _|exact .builtin _);exact rfl)|((with_reducible refine gL ?_ ?_);decide)|((with_reducible refine gK ?_ ?_ ?_);decide;exact PyProof.noPylong_small (by decide))|((with_reducible refine gM ?_ ?_);(first|exact IntMulOk.of_right (intBits_le_64 (by omega) (by omega))|exact IntMulOk.of_left (intBits_le_64 (by omega) (by omega))))|((with_reducible refine kF ?_ ?_ ?_);exact rfl;exact fun _ => rfl)|((with_reducible refine gW ?_ ?_);exact fun _ => rfl)|with_reducible refine pO ?_))
      refine tcmp_eqS (op_ok o) ok_not ?_
      rw [op_not]
      repeat (first|with_reducible refine kW ?_|(first|with_reducible (first|refine pB ?_|refine pF ?_|refine pA ?_|refine kX ?_|refine kY ?_|refine gH ?_|refine gG ?_|refine kD ?_|refine gY ?_|refine kJ ?_|refine gX ?_|refine kL ?_|refine kE ?_|refine kK ?_|refine kC ?_|refine kI ?_|refine kO ?_|refine kP ?_|refine kN ?_|refine pJ ?_|refine pG ?_|refine gB ?_|refine gA ?_|refine pM ?_|refine gJ ?_|refine gN ?_|refine gU ?_|refine gQ ?_|refine gO ?_|refine gV ?_|refine pN ?_)|((with_reducible refine And.intro ?_ ?_);(first|(rw [sizeLine_eq];exact of_decide_eq_true rfl)|omega))|((with_reducible first|refine kZ ?_ ?_|refine kQ ?_ ?_|refine kS ?_ ?_|refine kB ?_ ?_|refine kM ?_ ?_|refine pH ?_ ?_|refine pK ?_ ?_);exact rfl)|((with_reducible first|refine kR ?_ ?_ ?_|refine kT ?_ ?_ ?_|apply kG);exact rfl;exact rfl)|((with_reducible apply gZ);assumption;exact rfl;decide +kernel;exact rfl)|((with_reducible apply kA);assumption;exact rfl;decide +kernel;exact rfl;(first|exact .type _|exact .builtin _);exact rfl)|((with_reducible refine gL ?_ ?_);decide)|((with_reducible refine gK ?_ ?_ ?_);decide;exact PyProof.noPylong_small (by decide))|((with_reducible refine gM ?_ ?_);(first|exact IntMulOk.of_right (intBits_le_64 (by omega) (by omega))|exact IntMulOk.of_left (intBits_le_64 (by omega) (by omega))))|((with_reducible refine kF ?_ ?_ ?_);exact rfl;exact fun _ => rfl)|((with_reducible refine gW ?_ ?_);exact fun _ => rfl)|with_reducible refine pO ?_))
      split
      · rename_i hq2
        cases o with
        | not =>
          match st, e1, hst, hsl with
          | a :: st0, e1, hst, hsl =>
          cases e1
          rw [List.reverse_cons, List.map_append] at hst
          repeat (first|with_reducible refine kW ?_|(first|with_reducible (first|refine pB ?_|refine pF ?_|refine pA ?_|refine kX ?_|refine kY ?_|refine gH ?_|refine gG ?_|refine kD ?_|refine gY ?_|refine kJ ?_|refine gX ?_|refine kL ?_|refine kE ?_|refine kK ?_|refine kC ?_|refine kI ?_|refine kO ?_|refine kP ?_|refine kN ?_|refine pJ ?_|refine pG ?_|refine gB ?_|refine gA ?_|refine pM ?_|refine gJ ?_|refine gN ?_|refine gU ?_|refine gQ ?_|refine gO ?_|refine gV ?_|refine pN ?_)|((with_reducible refine And.intro ?_ ?_);(first|(rw [sizeLine_eq];exact of_decide_eq_true rfl)|omega))|((with_reducible first|refine kZ ?_ ?_|refine kQ ?_ ?_|refine kS ?_ ?_|refine kB ?_ ?_|refine kM ?_ ?_|refine pH ?_ ?_|refine pK ?_ ?_);exact rfl)|((with_reducible first|refine kR ?_ ?_ ?_|refine kT ?_ ?_ ?_|apply kG);exact rfl;exact rfl)|((with_reducible apply gZ);assumption;exact rfl;decide +kernel;exact rfl)|((with_reducible apply kA);assumption;exact rfl;decide +kernel;exact rfl;(first|exact .type _|exact .builtin _);exact rfl)|((with_reducible refine gL ?_ ?_);decide)|((with_reducible refine gK ?_ ?_ ?_);decide;exact PyProof.noPylong_small (by decide))|((with_reducible refine gM ?_ ?_);(first|exact IntMulOk.of_right (intBits_le_64 (by omega) (by omega))|exact IntMulOk.of_left (intBits_le_64 (by omega) (by omega))))|((with_reducible refine kF ?_ ?_ ?_);exact rfl;exact fun _ => rfl)|((with_reducible refine gW ?_ ?_);exact fun _ => rfl)|with_reducible refine pO ?_))
          refine tidx_list rfl hst (j := st0.length) (x := .bool a) (pyIdx_l1 (by simp)) (by simp) (by decide) ?_
          repeat (first|with_reducible refine kW ?_|(first|with_reducible (first|refine pB ?_|refine pF ?_|refine pA ?_|refine kX ?_|refine kY ?_|refine gH ?_|refine gG ?_|refine kD ?_|refine gY ?_|refine kJ ?_|refine gX ?_|refine kL ?_|refine kE ?_|refine kK ?_|refine kC ?_|refine kI ?_|refine kO ?_|refine kP ?_|refine kN ?_|refine pJ ?_|refine pG ?_|refine gB ?_|refine gA ?_|refine pM ?_|refine gJ ?_|refine gN ?_|refine gU ?_|refine gQ ?_|refine gO ?_|refine gV ?_|refine pN ?_)|((with_reducible refine And.intro ?_ ?_);(first|(rw [sizeLine_eq];exact of_decide_eq_true rfl)|omega))|((with_reducible first|refine kZ ?_ ?_|refine kQ ?_ ?_|refine kS ?_ ?_|refine kB ?_ ?_|refine kM ?_ ?_|refine pH ?_ ?_|refine pK ?_ ?_);exact rfl)|((with_reducible first|refine kR ?_ ?_ ?_|refine kT ?_ ?_ ?_|apply kG);exact rfl;exact rfl)|((with_reducible apply gZ);assumption;exact rfl;decide +kernel;exact rfl)|((with_reducible apply kA);assumption;exact rfl;decide +kernel;exact rfl;(first|exact .type _|exact .builtin _);exact rfl)|((with_reducible refine gL ?_ ?_);decide)|((with_reducible refine gK ?_ ?_ ?_);decide;exact PyProof.noPylong_small (by decide))|((with_reducible refine gM ?_ ?_);(first|exact IntMulOk.of_right (intBits_le_64 (by omega) (by omega))|exact IntMulOk.of_left (intBits_le_64 (by omega) (by omega))))|((with_reducible refine kF ?_ ?_ ?_);exact rfl;exact fun _ => rfl)|((with_reducible refine gW ?_ ?_);exact fun _ => rfl)|with_reducible refine pO ?_))
          refine tset_list hst (pyIdx_l1 (k := st0.length) (by simp)) (by decide) ?_
          repeat (first|with_reducible refine kW ?_|(first|with_reducible (first|refine pB ?_|refine pF ?_|refine pA ?_|refine kX ?_|refine kY ?_|refine gH ?_|refine gG ?_|refine kD ?_|refine gY ?_|refine kJ ?_|refine gX ?_|refine kL ?_|refine kE ?_|refine kK ?_|refine kC ?_|refine kI ?_|refine kO ?_|refine kP ?_|refine kN ?_|refine pJ ?_|refine pG ?_|refine gB ?_|refine gA ?_|refine pM ?_|refine gJ ?_|refine gN ?_|refine gU ?_|refine gQ ?_|refine gO ?_|refine gV ?_|refine pN ?_)|((with_reducible refine And.intro ?_ ?_);(first|(rw [sizeLine_eq];exact of_decide_eq_true rfl)|omega))|((with_reducible first|refine kZ ?_ ?_|refine kQ ?_ ?_|refine kS ?_ ?_|refine kB ?_ ?_|refine kM ?_ ?_|refine pH ?_ ?_|refine pK ?_ ?_);exact rfl)|((with_reducible first|refine kR ?_ ?_ ?_|refine kT ?_ ?_ ?_|apply kG);exact rfl;exact rfl)|((with_reducible apply gZ);assumption;exact rfl;decide +kernel;exact rfl)|((with_reducible apply kA);assumption;exact rfl;decide +kernel;exact rfl;(first|exact .type _|exact .builtin _);exact rfl)|((with_reducible refine gL ?_ ?_);decide)|((with_reducible refine gK ?_ ?_ ?_);decide;exact PyProof.noPylong_small (by decide))|((with_reducible refine gM ?_ ?_);(first|exact IntMulOk.of_right (intBits_le_64 (by omega) (by omega))|exact IntMulOk.of_left (intBits_le_64 (by omega) (by omega))))|((with_reducible refine kF ?_ ?_ ?_);exact rfl;exact fun _ => rfl)|((with_reducible refine gW ?_ ?_);exact fun _ => rfl)|with_reducible refine pO ?_))
          refine ⟨_, by (repeat (first | exact LE.nil | refine LE.cons (by exact rfl) ?_)), sb _, ?_, e2, Nat.le_succ_of_le hsl⟩
          rw [get_set hst]
          simp
        | var v => cases hq2
        | and => cases hq2
        | or => cases hq2
      · rename_i hq2
        obtain ⟨x, y, st0, rfl, rfl⟩ := ev_bin (by simpa using hq) (by simpa using hq2) e1
        rw [List.reverse_cons, List.reverse_cons, List.map_append, List.map_append, List.append_assoc] at hst
        simp only [List.map_cons, List.map_nil, List.singleton_append] at hst
        repeat (first|with_reducible refine kW ?_|(first|with_reducible (first|refine pB ?_|refine pF ?_|refine pA ?_|refine kX ?_|refine kY ?_|refine gH ?_|refine gG ?_|refine kD ?_|refine gY ?_|refine kJ ?_|refine gX ?_|refine kL ?_|refine kE ?_|refine kK ?_|refine kC ?_|refine kI ?_|refine kO ?_|refine kP ?_|refine kN ?_|refine pJ ?_|refine pG ?_|refine gB ?_|refine gA ?_|refine pM ?_|refine gJ ?_|refine gN ?_|refine gU ?_|refine gQ ?_|refine gO ?_|refine gV ?_|refine pN ?_)|((with_reducible refine And.intro ?_ ?_);(first|(rw [sizeLine_eq];exact of_decide_eq_true rfl)|omega))|((with_reducible first|refine kZ ?_ ?_|refine kQ ?_ ?_|refine kS ?_ ?_|refine kB ?_ ?_|refine kM ?_ ?_|refine pH ?_ ?_|refine pK ?_ ?_);exact rfl)|((with_reducible first|refine kR ?_ ?_ ?_|refine kT ?_ ?_ ?_|apply kG);exact rfl;exact rfl)|((with_reducible apply gZ);assumption;exact rfl;decide +kernel;exact rfl)|((with_reducible apply kA);assumption;exact rfl;decide +kernel;exact rfl;(first|exact .type _|exact .builtin _);exact rfl)|((with_reducible refine gL ?_ ?_);decide)|((with_reducible refine gK ?_ ?_ ?_);decide;exact PyProof.noPylong_small (by decide))|((with_reducible refine gM ?_ ?_);(first|exact IntMulOk.of_right (intBits_le_64 (by omega) (by omega))|exact IntMulOk.of_left (intBits_le_64 (by omega) (by omega))))|((with_reducible refine kF ?_ ?_ ?_);exact rfl;exact fun _ => rfl)|((with_reducible refine gW ?_ ?_);exact fun _ => rfl)|with_reducible refine pO ?_))
        refine tidx_list rfl hst (j := st0.length) (x := .bool x) (pyIdx_l2 (by simp)) (by simp) (by decide) ?_
        repeat (first|with_reducible refine kW ?_|(first|with_reducible (first|refine pB ?_|refine pF ?_|refine pA ?_|refine kX ?_|refine kY ?_|refine gH ?_|refine gG ?_|refine kD ?_|refine gY ?_|refine kJ ?_|refine gX ?_|refine kL ?_|refine kE ?_|refine kK ?_|refine kC ?_|refine kI ?_|refine kO ?_|refine kP ?_|refine kN ?_|refine pJ ?_|refine pG ?_|refine gB ?_|refine gA ?_|refine pM ?_|refine gJ ?_|refine gN ?_|refine gU ?_|refine gQ ?_|refine gO ?_|refine gV ?_|refine pN ?_)|((with_reducible refine And.intro ?_ ?_);(first|(rw [sizeLine_eq];exact of_decide_eq_true rfl)|omega))|((with_reducible first|refine kZ ?_ ?_|refine kQ ?_ ?_|refine kS ?_ ?_|refine kB ?_ ?_|refine kM ?_ ?_|refine pH ?_ ?_|refine pK ?_ ?_);exact rfl)|((with_reducible first|refine kR ?_ ?_ ?_|refine kT ?_ ?_ ?_|apply kG);exact rfl;exact rfl)|((with_reducible apply gZ);assumption;exact rfl;decide +kernel;exact rfl)|((with_reducible apply kA);assumption;exact rfl;decide +kernel;exact rfl;(first|exact .type _|exact .builtin _);exact rfl)|((with_reducible refine gL ?_ ?_);decide)|((with_reducible refine gK ?_ ?_ ?_);decide;exact PyProof.noPylong_small (by decide))|((with_reducible refine gM ?_ ?_);(first|exact IntMulOk.of_right (intBits_le_64 (by omega) (by omega))|exact IntMulOk.of_left (intBits_le_64 (by omega) (by omega))))|((with_reducible refine kF ?_ ?_ ?_);exact rfl;exact fun _ => rfl)|((with_reducible refine gW ?_ ?_);exact fun _ => rfl)|with_reducible refine pO ?_))
        refine tidx_list rfl hst (j := st0.length + 1) (x := .bool y) (pyIdx_l1 (by simp)) (by simp) (by decide) ?_
        repeat (first|with_reducible refine kW ?_|(first|with_reducible (first|refine pB ?_|refine pF ?_|refine pA ?_|refine kX ?_|refine kY ?_|refine gH ?_|refine gG ?_|refine kD ?_|refine gY ?_|refine kJ ?_|refine gX ?_|refine kL ?_|refine kE ?_|refine kK ?_|refine kC ?_|refine kI ?_|refine kO ?_|refine kP ?_|refine kN ?_|refine pJ ?_|refine pG ?_|refine gB ?_|refine gA ?_|refine pM ?_|refine gJ ?_|refine gN ?_|refine gU ?_|refine gQ ?_|refine gO ?_|refine gV ?_|refine pN ?_)|((with_reducible refine And.intro ?_ ?_);(first|(rw [sizeLine_eq];exact of_decide_eq_true rfl)|omega))|((with_reducible first|refine kZ ?_ ?_|refine kQ ?_ ?_|refine kS ?_ ?_|refine kB ?_ ?_|refine kM ?_ ?_|refine pH ?_ ?_|refine pK ?_ ?_);exact rfl)|((with_reducible first|refine kR ?_ ?_ ?_|refine kT ?_ ?_ ?_|apply kG);exact rfl;exact rfl)|((with_reducible apply gZ);assumption;exact rfl;decide +kernel;exact rfl)|((with_reducible apply kA);assumption;exact rfl;decide +kernel;exact rfl;(first|exact .type _|exact .builtin _);exact rfl)|((with_reducible refine gL ?_ ?_);decide)|((with_reducible refine gK ?_ ?_ ?_);decide;exact PyProof.noPylong_small (by decide))|((with_reducible refine gM ?_ ?_);(first|exact IntMulOk.of_right (intBits_le_64 (by omega) (by omega))|exact IntMulOk.of_left (intBits_le_64 (by omega) (by omega))))|((with_reducible refine kF ?_ ?_ ?_);exact rfl;exact fun _ => rfl)|((with_reducible refine gW ?_ ?_);exact fun _ => rfl)|with_reducible refine pO ?_))
        simp only [List.length_cons] at hsl
        refine tdel_slice (Sub.snoc _ _ _ _ hst) (get_snoc _ _) (by rw [sizeLine_eq]; simp; (first|lia|omega)) ?_
        rw [show (-2 : Int) = -((2 : Nat) : Int) from rfl, cutLast _ _ (by decide) (by simp), cut2]
        have sub3 : Sub σ ((σ1 ++ [AO.slice (some (-((2 : Nat) : Int))) none none]).set σ.length (.list (st0.reverse.map .bool))) := fun j q e => get_ne (by have := lt_of_get e; (first|lia|omega)) (Sub.snoc _ _ _ _ (sub1 j q e))
        have hst3 : ((σ1 ++ [AO.slice (some (-((2 : Nat) : Int))) none none]).set σ.length (.list (st0.reverse.map .bool)))[σ.length]? = some (.list (st0.reverse.map .bool)) := get_set (Sub.snoc _ _ _ _ hst)
        generalize (σ1 ++ [AO.slice (some (-((2 : Nat) : Int))) none none]).set σ.length (.list (st0.reverse.map .bool)) = σ3 at sub3 hst3 ⊢
        have fin : ∀ z, z = opB o x y → Sub σ (σ3.set σ.length (.list (st0.reverse.map .bool ++ [.bool z]))) ∧ (σ3.set σ.length (.list (st0.reverse.map .bool ++ [.bool z])))[σ.length]? = some (.list ((opB o x y :: st0).reverse.map .bool)) := fun z hz => ⟨fun j q e => get_ne (by have := lt_of_get e; (first|lia|omega)) (sub3 j q e), by rw [get_set hst3, hz]; simp⟩
        repeat (first|with_reducible refine kW ?_|(first|with_reducible (first|refine pB ?_|refine pF ?_|refine pA ?_|refine kX ?_|refine kY ?_|refine gH ?_|refine gG ?_|refine kD ?_|refine gY ?_|refine kJ ?_|refine gX ?_|refine kL ?_|refine kE ?_|refine kK ?_|refine kC ?_|refine kI ?_|refine kO ?_|refine kP ?_|refine kN ?_|refine pJ ?_|refine pG ?_|refine gB ?_|refine gA ?_|refine pM ?_|refine gJ ?_|refine gN ?_|refine gU ?_|refine gQ ?_|refine gO ?_|refine gV ?_|refine pN ?_)|((with_reducible refine And.intro ?_ ?_);(first|(rw [sizeLine_eq];exact of_decide_eq_true rfl)|omega))|((with_reducible first|refine kZ ?_ ?_|refine kQ ?_ ?_|refine kS ?_ ?_|refine kB ?_ ?_|refine kM ?_ ?_|refine pH ?_ ?_|refine pK ?_ ?_);exact rfl)|((with_reducible first|refine kR ?_ ?_ ?_|refine kT ?_ ?_ ?_|apply kG);exact rfl;exact rfl)|((with_reducible apply gZ);assumption;exact rfl;decide +kernel;exact rfl)|((with_reducible apply kA);assumption;exact rfl;decide +kernel;exact rfl;(first|exact .type _|exact .builtin _);exact rfl)|((with_reducible refine gL ?_ ?_);decide)|((with_reducible refine gK ?_ ?_ ?_);decide;exact PyProof.noPylong_small (by decide))|((with_reducible refine gM ?_ ?_);(first|exact IntMulOk.of_right (intBits_le_64 (by omega) (by omega))|exact IntMulOk.of_left (intBits_le_64 (by omega) (by omega))))|((with_reducible refine kF ?_ ?_ ?_);exact rfl;exact fun _ => rfl)|((with_reducible refine gW ?_ ?_);exact fun _ => rfl)|with_reducible refine pO ?_))
        refine tcmp_eqS (op_ok o) ok_and ?_
        rw [op_and]
        repeat (first|with_reducible refine kW ?_|(first|with_reducible (first|refine pB ?_|refine pF ?_|refine pA ?_|refine kX ?_|refine kY ?_|refine gH ?_|refine gG ?_|refine kD ?_|refine gY ?_|refine kJ ?_|refine gX ?_|refine kL ?_|refine kE ?_|refine kK ?_|refine kC ?_|refine kI ?_|refine kO ?_|refine kP ?_|refine kN ?_|refine pJ ?_|refine pG ?_|refine gB ?_|refine gA ?_|refine pM ?_|refine gJ ?_|refine gN ?_|refine gU ?_|refine gQ ?_|refine gO ?_|refine gV ?_|refine pN ?_)|((with_reducible refine And.intro ?_ ?_);(first|(rw [sizeLine_eq];exact of_decide_eq_true rfl)|omega))|((with_reducible first|refine kZ ?_ ?_|refine kQ ?_ ?_|refine kS ?_ ?_|refine kB ?_ ?_|refine kM ?_ ?_|refine pH ?_ ?_|refine pK ?_ ?_);exact rfl)|((with_reducible first|refine kR ?_ ?_ ?_|refine kT ?_ ?_ ?_|apply kG);exact rfl;exact rfl)|((with_reducible apply gZ);assumption;exact rfl;decide +kernel;exact rfl)|((with_reducible apply kA);assumption;exact rfl;decide +kernel;exact rfl;(first|exact .type _|exact .builtin _);exact rfl)|((with_reducible refine gL ?_ ?_);decide)|((with_reducible refine gK ?_ ?_ ?_);decide;exact PyProof.noPylong_small (by decide))|((with_reducible refine gM ?_ ?_);(first|exact IntMulOk.of_right (intBits_le_64 (by omega) (by omega))|exact IntMulOk.of_left (intBits_le_64 (by omega) (by omega))))|((with_reducible refine kF ?_ ?_ ?_);exact rfl;exact fun _ => rfl)|((with_reducible refine gW ?_ ?_);exact fun _ => rfl)|with_reducible refine pO ?_))
        split
        · rename_i hq3
          have hb : opB o x y = (x && y) := by cases o <;> first | rfl | cases hq3
          repeat (first|with_reducible refine kW ?_|(first|with_reducible (first|refine pB ?_|refine pF ?_|refine pA ?_|refine kX ?_|refine kY ?_|refine gH ?_|refine gG ?_|refine kD ?_|refine gY ?_|refine kJ ?_|refine gX ?_|refine kL ?_|refine kE ?_|refine kK ?_|refine kC ?_|refine kI ?_|refine kO ?_|refine kP ?_|refine kN ?_|refine pJ ?_|refine pG ?_|refine gB ?_|refine gA ?_|refine pM ?_|refine gJ ?_|refine gN ?_|refine gU ?_|refine gQ ?_|refine gO ?_|refine gV ?_|refine pN ?_)|((with_reducible refine And.intro ?_ ?_);(first|(rw [sizeLine_eq];exact of_decide_eq_true rfl)|omega))|((with_reducible first|refine kZ ?_ ?_|refine kQ ?_ ?_|refine kS ?_ ?_|refine kB ?_ ?_|refine kM ?_ ?_|refine pH ?_ ?_|refine pK ?_ ?_);exact rfl)|((with_reducible first|refine kR ?_ ?_ ?_|refine kT ?_ ?_ ?_|apply kG);exact rfl;exact rfl)|((with_reducible apply gZ);assumption;exact rfl;decide +kernel;exact rfl)|((with_reducible apply kA);assumption;exact rfl;decide +kernel;exact rfl;(first|exact .type _|exact .builtin _);exact rfl)|((with_reducible refine gL ?_ ?_);decide)|((with_reducible refine gK ?_ ?_ ?_);decide;exact PyProof.noPylong_small (by decide))|((with_reducible refine gM ?_ ?_);(first|exact IntMulOk.of_right (intBits_le_64 (by omega) (by omega))|exact IntMulOk.of_left (intBits_le_64 (by omega) (by omega))))|((with_reducible refine kF ?_ ?_ ?_);exact rfl;exact fun _ => rfl)|((with_reducible refine gW ?_ ?_);exact fun _ => rfl)|with_reducible refine pO ?_))
          refine tmeth_append hst3 ?_
          repeat (first|with_reducible refine kW ?_|(first|with_reducible (first|refine pB ?_|refine pF ?_|refine pA ?_|refine kX ?_|refine kY ?_|refine gH ?_|refine gG ?_|refine kD ?_|refine gY ?_|refine kJ ?_|refine gX ?_|refine kL ?_|refine kE ?_|refine kK ?_|refine kC ?_|refine kI ?_|refine kO ?_|refine kP ?_|refine kN ?_|refine pJ ?_|refine pG ?_|refine gB ?_|refine gA ?_|refine pM ?_|refine gJ ?_|refine gN ?_|refine gU ?_|refine gQ ?_|refine gO ?_|refine gV ?_|refine pN ?_)|((with_reducible refine And.intro ?_ ?_);(first|(rw [sizeLine_eq];exact of_decide_eq_true rfl)|omega))|((with_reducible first|refine kZ ?_ ?_|refine kQ ?_ ?_|refine kS ?_ ?_|refine kB ?_ ?_|refine kM ?_ ?_|refine pH ?_ ?_|refine pK ?_ ?_);exact rfl)|((with_reducible first|refine kR ?_ ?_ ?_|refine kT ?_ ?_ ?_|apply kG);exact rfl;exact rfl)|((with_reducible apply gZ);assumption;exact rfl;decide +kernel;exact rfl)|((with_reducible apply kA);assumption;exact rfl;decide +kernel;exact rfl;(first|exact .type _|exact .builtin _);exact rfl)|((with_reducible refine gL ?_ ?_);decide)|((with_reducible refine gK ?_ ?_ ?_);decide;exact PyProof.noPylong_small (by decide))|((with_reducible refine gM ?_ ?_);(first|exact IntMulOk.of_right (intBits_le_64 (by omega) (by omega))|exact IntMulOk.of_left (intBits_le_64 (by omega) (by omega))))|((with_reducible refine kF ?_ ?_ ?_);exact rfl;exact fun _ => rfl)|((with_reducible refine gW ?_ ?_);exact fun _ => rfl)|with_reducible refine pO ?_))
          refine te_and ?_
          repeat (first|with_reducible refine kW ?_|(first|with_reducible (first|refine pB ?_|refine pF ?_|refine pA ?_|refine kX ?_|refine kY ?_|refine gH ?_|refine gG ?_|refine kD ?_|refine gY ?_|refine kJ ?_|refine gX ?_|refine kL ?_|refine kE ?_|refine kK ?_|refine kC ?_|refine kI ?_|refine kO ?_|refine kP ?_|refine kN ?_|refine pJ ?_|refine pG ?_|refine gB ?_|refine gA ?_|refine pM ?_|refine gJ ?_|refine gN ?_|refine gU ?_|refine gQ ?_|refine gO ?_|refine gV ?_|refine pN ?_)|((with_reducible refine And.intro ?_ ?_);(first|(rw [sizeLine_eq];exact of_decide_eq_true rfl)|omega))|((with_reducible first|refine kZ ?_ ?_|refine kQ ?_ ?_|refine kS ?_ ?_|refine kB ?_ ?_|refine kM ?_ ?_|refine pH ?_ ?_|refine pK ?_ ?_);exact rfl)|((with_reducible first|refine kR ?_ ?_ ?_|refine kT ?_ ?_ ?_|apply kG);exact rfl;exact rfl)|((with_reducible apply gZ);assumption;exact rfl;decide +kernel;exact rfl)|((with_reducible apply kA);assumption;exact rfl;decide +kernel;exact rfl;(first|exact .type _|exact .builtin _);exact rfl)|((with_reducible refine gL ?_ ?_);decide)|((with_reducible refine gK ?_ ?_ ?_);decide;exact PyProof.noPylong_small (by decide))|((with_reducible refine gM ?_ ?_);(first|exact IntMulOk.of_right (intBits_le_64 (by omega) (by omega))|exact IntMulOk.of_left (intBits_le_64 (by omega) (by omega))))|((with_reducible refine kF ?_ ?_ ?_);exact rfl;exact fun _ => rfl)|((with_reducible refine gW ?_ ?_);exact fun _ => rfl)|with_reducible refine pO ?_))
          split
          · rename_i hx1
            repeat (first|with_reducible refine kW ?_|(first|with_reducible (first|refine pB ?_|refine pF ?_|refine pA ?_|refine kX ?_|refine kY ?_|refine gH ?_|refine gG ?_|refine kD ?_|refine gY ?_|refine kJ ?_|refine gX ?_|refine kL ?_|refine kE ?_|refine kK ?_|refine kC ?_|refine kI ?_|refine kO ?_|refine kP ?_|refine kN ?_|refine pJ ?_|refine pG ?_|refine gB ?_|refine gA ?_|refine pM ?_|refine gJ ?_|refine gN ?_|refine gU ?_|refine gQ ?_|refine gO ?_|refine gV ?_|refine pN ?_)|((with_reducible refine And.intro ?_ ?_);(first|(rw [sizeLine_eq];exact of_decide_eq_true rfl)|omega))|((with_reducible first|refine kZ ?_ ?_|refine kQ ?_ ?_|refine kS ?_ ?_|refine kB ?_ ?_|refine kM ?_ ?_|refine pH ?_ ?_|refine pK ?_ ?_);exact rfl)|((with_reducible first|refine kR ?_ ?_ ?_|refine kT ?_ ?_ ?_|apply kG);exact rfl;exact rfl)|((with_reducible apply gZ);assumption;exact rfl;decide +kernel;exact rfl)|((with_reducible apply kA);assumption;exact rfl;decide +kernel;exact rfl;(first|exact .type _|exact .builtin _);exact rfl)|((with_reducible refine gL ?_ ?_);decide)|((with_reducible refine gK ?_ ?_ ?_);decide;exact PyProof.noPylong_small (by decide))|((with_reducible refine gM ?_ ?_);(first|exact IntMulOk.of_right (intBits_le_64 (by omega) (by omega))|exact IntMulOk.of_left (intBits_le_64 (by omega) (by omega))))|((with_reducible refine kF ?_ ?_ ?_);exact rfl;exact fun _ => rfl)|((with_reducible refine gW ?_ ?_);exact fun _ => rfl)|with_reducible refine pO ?_))
            refine tcall_append hst3 (by rw [sizeLine_eq]; simp; (first|lia|omega)) ?_
            repeat (first|with_reducible refine kW ?_|(first|with_reducible (first|refine pB ?_|refine pF ?_|refine pA ?_|refine kX ?_|refine kY ?_|refine gH ?_|refine gG ?_|refine kD ?_|refine gY ?_|refine kJ ?_|refine gX ?_|refine kL ?_|refine kE ?_|refine kK ?_|refine kC ?_|refine kI ?_|refine kO ?_|refine kP ?_|refine kN ?_|refine pJ ?_|refine pG ?_|refine gB ?_|refine gA ?_|refine pM ?_|refine gJ ?_|refine gN ?_|refine gU ?_|refine gQ ?_|refine gO ?_|refine gV ?_|refine pN ?_)|((with_reducible refine And.intro ?_ ?_);(first|(rw [sizeLine_eq];exact of_decide_eq_true rfl)|omega))|((with_reducible first|refine kZ ?_ ?_|refine kQ ?_ ?_|refine kS ?_ ?_|refine kB ?_ ?_|refine kM ?_ ?_|refine pH ?_ ?_|refine pK ?_ ?_);exact rfl)|((with_reducible first|refine kR ?_ ?_ ?_|refine kT ?_ ?_ ?_|apply kG);exact rfl;exact rfl)|((with_reducible apply gZ);assumption;exact rfl;decide +kernel;exact rfl)|((with_reducible apply kA);assumption;exact rfl;decide +kernel;exact rfl;(first|exact .type _|exact .builtin _);exact rfl)|((with_reducible refine gL ?_ ?_);decide)|((with_reducible refine gK ?_ ?_ ?_);decide;exact PyProof.noPylong_small (by decide))|((with_reducible refine gM ?_ ?_);(first|exact IntMulOk.of_right (intBits_le_64 (by omega) (by omega))|exact IntMulOk.of_left (intBits_le_64 (by omega) (by omega))))|((with_reducible refine kF ?_ ?_ ?_);exact rfl;exact fun _ => rfl)|((with_reducible refine gW ?_ ?_);exact fun _ => rfl)|with_reducible refine pO ?_))
            exact ⟨_, by (repeat (first | exact LE.nil | refine LE.cons (by exact rfl) ?_)), (fin _ (by rw [hb, hx1]; rfl)).1, (fin _ (by rw [hb, hx1]; rfl)).2, e2, by simp; (first|lia|omega)⟩
          · rename_i hx1
            repeat (first|with_reducible refine kW ?_|(first|with_reducible (first|refine pB ?_|refine pF ?_|refine pA ?_|refine kX ?_|refine kY ?_|refine gH ?_|refine gG ?_|refine kD ?_|refine gY ?_|refine kJ ?_|refine gX ?_|refine kL ?_|refine kE ?_|refine kK ?_|refine kC ?_|refine kI ?_|refine kO ?_|refine kP ?_|refine kN ?_|refine pJ ?_|refine pG ?_|refine gB ?_|refine gA ?_|refine pM ?_|refine gJ ?_|refine gN ?_|refine gU ?_|refine gQ ?_|refine gO ?_|refine gV ?_|refine pN ?_)|((with_reducible refine And.intro ?_ ?_);(first|(rw [sizeLine_eq];exact of_decide_eq_true rfl)|omega))|((with_reducible first|refine kZ ?_ ?_|refine kQ ?_ ?_|refine kS ?_ ?_|refine kB ?_ ?_|refine kM ?_ ?_|refine pH ?_ ?_|refine pK ?_ ?_);exact rfl)|((with_reducible first|refine kR ?_ ?_ ?_|refine kT ?_ ?_ ?_|apply kG);exact rfl;exact rfl)|((with_reducible apply gZ);assumption;exact rfl;decide +kernel;exact rfl)|((with_reducible apply kA);assumption;exact rfl;decide +kernel;exact rfl;(first|exact .type _|exact .builtin _);exact rfl)|((with_reducible refine gL ?_ ?_);decide)|((with_reducible refine gK ?_ ?_ ?_);decide;exact PyProof.noPylong_small (by decide))|((with_reducible refine gM ?_ ?_);(first|exact IntMulOk.of_right (intBits_le_64 (by omega) (by omega))|exact IntMulOk.of_left (intBits_le_64 (by omega) (by omega))))|((with_reducible refine kF ?_ ?_ ?_);exact rfl;exact fun _ => rfl)|((with_reducible refine gW ?_ ?_);exact fun _ => rfl)|with_reducible refine pO ?_))
            refine tcall_append hst3 (by rw [sizeLine_eq]; simp; (first|lia|omega)) ?_
            repeat (first|with_reducible refine kW ?_|(first|with_reducible (first|refine pB ?_|refine pF ?_|refine pA ?_|refine kX ?_|refine kY ?_|refine gH ?_|refine gG ?_|refine kD ?_|refine gY ?_|refine kJ ?_|refine gX ?_|refine kL ?_|refine kE ?_|refine kK ?_|refine kC ?_|refine kI ?_|refine kO ?_|refine kP ?_|refine kN ?_|refine pJ ?_|refine pG ?_|refine gB ?_|refine gA ?_|refine pM ?_|refine gJ ?_|refine gN ?_|refine gU ?_|refine gQ ?_|refine gO ?_|refine gV ?_|refine pN ?_)|((with_reducible refine And.intro ?_ ?_);(first|(rw [sizeLine_eq];exact of_decide_eq_true rfl)|omega))|((with_reducible first|refine kZ ?_ ?_|refine kQ ?_ ?_|refine kS ?_ ?_|refine kB ?_ ?_|refine kM ?_ ?_|refine pH ?_ ?_|refine pK ?_ ?_);exact rfl)|((with_reducible first|refine kR ?_ ?_ ?_|refine kT ?_ ?_ ?_|apply kG);exact rfl;exact rfl)|((with_reducible apply gZ);assumption;exact rfl;decide +kernel;exact rfl)|((with_reducible apply kA);assumption;exact rfl;decide +kernel;exact rfl;(first|exact .type _|exact .builtin _);exact rfl)|((with_reducible refine gL ?_ ?_);decide)|((with_reducible refine gK ?_ ?_ ?_);decide;exact PyProof.noPylong_small (by decide))|((with_reducible refine gM ?_ ?_);(first|exact IntMulOk.of_right (intBits_le_64 (by omega) (by omega))|exact IntMulOk.of_left (intBits_le_64 (by omega) (by omega))))|((with_reducible refine kF ?_ ?_ ?_);exact rfl;exact fun _ => rfl)|((with_reducible refine gW ?_ ?_);exact fun _ => rfl)|with_reducible refine pO ?_))
            exact ⟨_, by (repeat (first | exact LE.nil | refine LE.cons (by exact rfl) ?_)), (fin _ (by rw [hb]; simp [hx1])).1, (fin _ (by rw [hb]; simp [hx1])).2, e2, by simp; (first|lia|omega)⟩
        · rename_i hq3
          have hb : opB o x y = (x || y) := by cases o <;> first | rfl | (exact absurd rfl hq3)
          repeat (first|with_reducible refine kW ?_|(first|with_reducible (first|refine pB ?_|refine pF ?_|refine pA ?_|refine kX ?_|refine kY ?_|refine gH ?_|refine gG ?_|refine kD ?_|refine gY ?_|refine kJ ?_|refine gX ?_|refine kL ?_|refine kE ?_|refine kK ?_|refine kC ?_|refine kI ?_|refine kO ?_|refine kP ?_|refine kN ?_|refine pJ ?_|refine pG ?_|refine gB ?_|refine gA ?_|refine pM ?_|refine gJ ?_|refine gN ?_|refine gU ?_|refine gQ ?_|refine gO ?_|refine gV ?_|refine pN ?_)|((with_reducible refine And.intro ?_ ?_);(first|(rw [sizeLine_eq];exact of_decide_eq_true rfl)|omega))|((with_reducible first|refine kZ ?_ ?_|refine kQ ?_ ?_|refine kS ?_ ?_|refine kB ?_ ?_|refine kM ?_ ?_|refine pH ?_ ?_|refine pK ?_ ?_);exact rfl)|((with_reducible first|refine kR ?_ ?_ ?_|refine kT ?_ ?_ ?_|apply kG);exact rfl;exact rfl)|((with_reducible apply gZ);assumption;exact rfl;decide +kernel;exact rfl)|((with_reducible apply kA);assumption;exact rfl;decide +kernel;exact rfl;(first|exact .type _|exact .builtin _);exact rfl)|((with_reducible refine gL ?_ ?_);decide)|((with_reducible refine gK ?_ ?_ ?_);decide;exact PyProof.noPylong_small (by decide))|((with_reducible refine gM ?_ ?_);(first|exact IntMulOk.of_right (intBits_le_64 (by omega) (by omega))|exact IntMulOk.of_left (intBits_le_64 (by omega) (by omega))))|((with_reducible refine kF ?_ ?_ ?_);exact rfl;exact fun _ => rfl)|((with_reducible refine gW ?_ ?_);exact fun _ => rfl)|with_reducible refine pO ?_))
          refine tmeth_append hst3 ?_
          repeat (first|with_reducible refine kW ?_|(first|with_reducible (first|refine pB ?_|refine pF ?_|refine pA ?_|refine kX ?_|refine kY ?_|refine gH ?_|refine gG ?_|refine kD ?_|refine gY ?_|refine kJ ?_|refine gX ?_|refine kL ?_|refine kE ?_|refine kK ?_|refine kC ?_|refine kI ?_|refine kO ?_|refine kP ?_|refine kN ?_|refine pJ ?_|refine pG ?_|refine gB ?_|refine gA ?_|refine pM ?_|refine gJ ?_|refine gN ?_|refine gU ?_|refine gQ ?_|refine gO ?_|refine gV ?_|refine pN ?_)|((with_reducible refine And.intro ?_ ?_);(first|(rw [sizeLine_eq];exact of_decide_eq_true rfl)|omega))|((with_reducible first|refine kZ ?_ ?_|refine kQ ?_ ?_|refine kS ?_ ?_|refine kB ?_ ?_|refine kM ?_ ?_|refine pH ?_ ?_|refine pK ?_ ?_);exact rfl)|((with_reducible first|refine kR ?_ ?_ ?_|refine kT ?_ ?_ ?_|apply kG);exact rfl;exact rfl)|((with_reducible apply gZ);assumption;exact rfl;decide +kernel;exact rfl)|((with_reducible apply kA);assumption;exact rfl;decide +kernel;exact rfl;(first|exact .type _|exact .builtin _);exact rfl)|((with_reducible refine gL ?_ ?_);decide)|((with_reducible refine gK ?_ ?_ ?_);decide;exact PyProof.noPylong_small (by decide))|((with_reducible refine gM ?_ ?_);(first|exact IntMulOk.of_right (intBits_le_64 (by omega) (by omega))|exact IntMulOk.of_left (intBits_le_64 (by omega) (by omega))))|((with_reducible refine kF ?_ ?_ ?_);exact rfl;exact fun _ => rfl)|((with_reducible refine gW ?_ ?_);exact fun _ => rfl)|with_reducible refine pO ?_))
          refine te_or ?_
          repeat (first|with_reducible refine kW ?_|(first|with_reducible (first|refine pB ?_|refine pF ?_|refine pA ?_|refine kX ?_|refine kY ?_|refine gH ?_|refine gG ?_|refine kD ?_|refine gY ?_|refine kJ ?_|refine gX ?_|refine kL ?_|refine kE ?_|refine kK ?_|refine kC ?_|refine kI ?_|refine kO ?_|refine kP ?_|refine kN ?_|refine pJ ?_|refine pG ?_|refine gB ?_|refine gA ?_|refine pM ?_|refine gJ ?_|refine gN ?_|refine gU ?_|refine gQ ?_|refine gO ?_|refine gV ?_|refine pN ?_)|((with_reducible refine And.intro ?_ ?_);(first|(rw [sizeLine_eq];exact of_decide_eq_true rfl)|omega))|((with_reducible first|refine kZ ?_ ?_|refine kQ ?_ ?_|refine kS ?_ ?_|refine kB ?_ ?_|refine kM ?_ ?_|refine pH ?_ ?_|refine pK ?_ ?_);exact rfl)|((with_reducible first|refine kR ?_ ?_ ?_|refine kT ?_ ?_ ?_|apply kG);exact rfl;exact rfl)|((with_reducible apply gZ);assumption;exact rfl;decide +kernel;exact rfl)|((with_reducible apply kA);assumption;exact rfl;decide +kernel;exact rfl;(first|exact .type _|exact .builtin _);exact rfl)|((with_reducible refine gL ?_ ?_);decide)|((with_reducible refine gK ?_ ?_ ?_);decide;exact PyProof.noPylong_small (by decide))|((with_reducible refine gM ?_ ?_);(first|exact IntMulOk.of_right (intBits_le_64 (by omega) (by omega))|exact IntMulOk.of_left (intBits_le_64 (by omega) (by omega))))|((with_reducible refine kF ?_ ?_ ?_);exact rfl;exact fun _ => rfl)|((with_reducible refine gW ?_ ?_);exact fun _ => rfl)|with_reducible refine pO ?_))
          split
          · rename_i hx1
            repeat (first|with_reducible refine kW ?_|(first|with_reducible (first|refine pB ?_|refine pF ?_|refine pA ?_|refine kX ?_|refine kY ?_|refine gH ?_|refine gG ?_|refine kD ?_|refine gY ?_|refine kJ ?_|refine gX ?_|refine kL ?_|refine kE ?_|refine kK ?_|refine kC ?_|refine kI ?_|refine kO ?_|refine kP ?_|refine kN ?_|refine pJ ?_|refine pG ?_|refine gB ?_|refine gA ?_|refine pM ?_|refine gJ ?_|refine gN ?_|refine gU ?_|refine gQ ?_|refine gO ?_|refine gV ?_|refine pN ?_)|((with_reducible refine And.intro ?_ ?_);(first|(rw [sizeLine_eq];exact of_decide_eq_true rfl)|omega))|((with_reducible first|refine kZ ?_ ?_|refine kQ ?_ ?_|refine kS ?_ ?_|refine kB ?_ ?_|refine kM ?_ ?_|refine pH ?_ ?_|refine pK ?_ ?_);exact rfl)|((with_reducible first|refine kR ?_ ?_ ?_|refine kT ?_ ?_ ?_|apply kG);exact rfl;exact rfl)|((with_reducible apply gZ);assumption;exact rfl;decide +kernel;exact rfl)|((with_reducible apply kA);assumption;exact rfl;decide +kernel;exact rfl;(first|exact .type _|exact .builtin _);exact rfl)|((with_reducible refine gL ?_ ?_);decide)|((with_reducible refine gK ?_ ?_ ?_);decide;exact PyProof.noPylong_small (by decide))|((with_reducible refine gM ?_ ?_);(first|exact IntMulOk.of_right (intBits_le_64 (by omega) (by omega))|exact IntMulOk.of_left (intBits_le_64 (by omega) (by omega))))|((with_reducible refine kF ?_ ?_ ?_);exact rfl;exact fun _ => rfl)|((with_reducible refine gW ?_ ?_);exact fun _ => rfl)|with_reducible refine pO ?_))
            refine tcall_append hst3 (by rw [sizeLine_eq]; simp; (first|lia|omega)) ?_
            repeat (first|with_reducible refine kW ?_|(first|with_reducible (first|refine pB ?_|refine pF ?_|refine pA ?_|refine kX ?_|refine kY ?_|refine gH ?_|refine gG ?_|refine kD ?_|refine gY ?_|refine kJ ?_|refine gX ?_|refine kL ?_|refine kE ?_|refine kK ?_|refine kC ?_|refine kI ?_|refine kO ?_|refine kP ?_|refine kN ?_|refine pJ ?_|refine pG ?_|refine gB ?_|refine gA ?_|refine pM ?_|refine gJ ?_|refine gN ?_|refine gU ?_|refine gQ ?_|refine gO ?_|refine gV ?_|refine pN ?_)|((with_reducible refine And.intro ?_ ?_);(first|(rw [sizeLine_eq];exact of_decide_eq_true rfl)|omega))|((with_reducible first|refine kZ ?_ ?_|refine kQ ?_ ?_|refine kS ?_ ?_|refine kB ?_ ?_|refine kM ?_ ?_|refine pH ?_ ?_|refine pK ?_ ?_);exact rfl)|((with_reducible first|refine kR ?_ ?_ ?_|refine kT ?_ ?_ ?_|apply kG);exact rfl;exact rfl)|((with_reducible apply gZ);assumption;exact rfl;decide +kernel;exact rfl)|((with_reducible apply kA);assumption;exact rfl;decide +kernel;exact rfl;(first|exact .type _|exact .builtin _);exact rfl)|((with_reducible refine gL ?_ ?_);decide)|((with_reducible refine gK ?_ ?_ ?_);decide;exact PyProof.noPylong_small (by decide))|((with_reducible refine gM ?_ ?_);(first|exact IntMulOk.of_right (intBits_le_64 (by omega) (by omega))|exact IntMulOk.of_left (intBits_le_64 (by omega) (by omega))))|((with_reducible refine kF ?_ ?_ ?_);exact rfl;exact fun _ => rfl)|((with_reducible refine gW ?_ ?_);exact fun _ => rfl)|with_reducible refine pO ?_))
            exact ⟨_, by (repeat (first | exact LE.nil | refine LE.cons (by exact rfl) ?_)), (fin _ (by rw [hb]; simp [hx1])).1, (fin _ (by rw [hb]; simp [hx1])).2, e2, by simp; (first|lia|omega)⟩
          · rename_i hx1
            repeat (first|with_reducible refine kW ?_|(first|with_reducible (first|refine pB ?_|refine pF ?_|refine pA ?_|refine kX ?_|refine kY ?_|refine gH ?_|refine gG ?_|refine kD ?_|refine gY ?_|refine kJ ?_|refine gX ?_|refine kL ?_|refine kE ?_|refine kK ?_|refine kC ?_|refine kI ?_|refine kO ?_|refine kP ?_|refine kN ?_|refine pJ ?_|refine pG ?_|refine gB ?_|refine gA ?_|refine pM ?_|refine gJ ?_|refine gN ?_|refine gU ?_|refine gQ ?_|refine gO ?_|refine gV ?_|refine pN ?_)|((with_reducible refine And.intro ?_ ?_);(first|(rw [sizeLine_eq];exact of_decide_eq_true rfl)|omega))|((with_reducible first|refine kZ ?_ ?_|refine kQ ?_ ?_|refine kS ?_ ?_|refine kB ?_ ?_|refine kM ?_ ?_|refine pH ?_ ?_|refine pK ?_ ?_);exact rfl)|((with_reducible first|refine kR ?_ ?_ ?_|refine kT ?_ ?_ ?_|apply kG);exact rfl;exact rfl)|((with_reducible apply gZ);assumption;exact rfl;decide +kernel;exact rfl)|((with_reducible apply kA);assumption;exact rfl;decide +kernel;exact rfl;(first|exact .type _|exact .builtin _);exact rfl)|((with_reducible refine gL ?_ ?_);decide)|((with_reducible refine gK ?_ ?_ ?_);decide;exact PyProof.noPylong_small (by decide))|((with_reducible refine gM ?_ ?_);(first|exact IntMulOk.of_right (intBits_le_64 (by omega) (by omega))|exact IntMulOk.of_left (intBits_le_64 (by omega) (by omega))))|((with_reducible refine kF ?_ ?_ ?_);exact rfl;exact fun _ => rfl)|((with_reducible refine gW ?_ ?_);exact fun _ => rfl)|with_reducible refine pO ?_))
            refine tcall_append hst3 (by rw [sizeLine_eq]; simp; (first|lia|omega)) ?_
            repeat (first|with_reducible refine kW ?_|(first|with_reducible (first|refine pB ?_|refine pF ?_|refine pA ?_|refine kX ?_|refine kY ?_|refine gH ?_|refine gG ?_|refine kD ?_|refine gY ?_|refine kJ ?_|refine gX ?_|refine kL ?_|refine kE ?_|refine kK ?_|refine kC ?_|refine kI ?_|refine kO ?_|refine kP ?_|refine kN ?_|refine pJ ?_|refine pG ?_|refine gB ?_|refine gA ?_|refine pM ?_|refine gJ ?_|refine gN ?_|refine gU ?_|refine gQ ?_|refine gO ?_|refine gV ?_|refine pN ?_)|((with_reducible refine And.intro ?_ ?_);(first|(rw [sizeLine_eq];exact of_decide_eq_true rfl)|omega))|((with_reducible first|refine kZ ?_ ?_|refine kQ ?_ ?_|refine kS ?_ ?_|refine kB ?_ ?_|refine kM ?_ ?_|refine pH ?_ ?_|refine pK ?_ ?_);exact rfl)|((with_reducible first|refine kR ?_ ?_ ?_|refine kT ?_ ?_ ?_|apply kG);exact rfl;exact rfl)|((with_reducible apply gZ);assumption;exact rfl;decide +kernel;exact rfl)|((with_reducible apply kA);assumption;exact rfl;decide +kernel;exact rfl;(first|exact .type _|exact .builtin _);exact rfl)|((with_reducible refine gL ?_ ?_);decide)|((with_reducible refine gK ?_ ?_ ?_);decide;exact PyProof.noPylong_small (by decide))|((with_reducible refine gM ?_ ?_);(first|exact IntMulOk.of_right (intBits_le_64 (by omega) (by omega))|exact IntMulOk.of_left (intBits_le_64 (by omega) (by omega))))|((with_reducible refine kF ?_ ?_ ?_);exact rfl;exact fun _ => rfl)|((with_reducible refine gW ?_ ?_);exact fun _ => rfl)|with_reducible refine pO ?_))
            exact ⟨_, by (repeat (first | exact LE.nil | refine LE.cons (by exact rfl) ?_)), (fin _ (by rw [hb]; simp [hx1])).1, (fin _ (by rw [hb]; simp [hx1])).2, e2, by simp; (first|lia|omega)⟩
  · rintro m' σ1 ⟨st, le, sub1, hst, hrun, hsl⟩
    rw [List.length_map, hx.r.length, List.drop_length] at hrun
    cases hrun
    refine TX.forget le ?_
    repeat (first|with_reducible refine kW ?_|(first|with_reducible (first|refine pB ?_|refine pF ?_|refine pA ?_|refine kX ?_|refine kY ?_|refine gH ?_|refine gG ?_|refine kD ?_|refine gY ?_|refine kJ ?_|refine gX ?_|refine kL ?_|refine kE ?_|refine kK ?_|refine kC ?_|refine kI ?_|refine kO ?_|refine kP ?_|refine kN ?_|refine pJ ?_|refine pG ?_|refine gB ?_|refine gA ?_|refine pM ?_|refine gJ ?_|refine gN ?_|refine gU ?_|refine gQ ?_|refine gO ?_|refine gV ?_|refine pN ?_)|((with_reducible refine And.intro ?_ ?_);(first|(rw [sizeLine_eq];exact of_decide_eq_true rfl)|omega))|((with_reducible first|refine kZ ?_ ?_|refine kQ ?_ ?_|refine kS ?_ ?_|refine kB ?_ ?_|refine kM ?_ ?_|refine pH ?_ ?_|refine pK ?_ ?_);exact rfl)|((with_reducible first|refine kR ?_ ?_ ?_|refine kT ?_ ?_ ?_|apply kG);exact rfl;exact rfl)|((with_reducible apply gZ);assumption;exact rfl;decide +kernel;exact rfl)|((with_reducible apply kA);assumption;exact rfl;decide +kernel;exact rfl;(first|exact .type _|exact .builtin _);exact rfl)|((with_reducible refine gL ?_ ?_);decide)|((with_reducible refine gK ?_ ?_ ?_);decide;exact PyProof.noPylong_small (by decide))|((with_reducible refine gM ?_ ?_);(first|exact IntMulOk.of_right (intBits_le_64 (by omega) (by omega))|exact IntMulOk.of_left (intBits_le_64 (by omega) (by omega))))|((with_reducible refine kF ?_ ?_ ?_);exact rfl;exact fun _ => rfl)|((with_reducible refine gW ?_ ?_);exact fun _ => rfl)|with_reducible refine pO ?_))
    refine tidx_list rfl hst (j := 0) (x := .bool b) rfl rfl (by decide) ?_
    exact h _ sub1
abbrev newM (o : Op) (x a b : Int) : List (List Int) := if isAnd o = true then [[-x, a], [-x, b], [x, -a, -b]] else [[x, -a], [x, -b], [-x, a, b]]
theorem ts_bin {o : Op} {s s' : Ts} (h1 : isVar o = false) (h2 : isNot o = false) (h : tsStep o s = some s') : ∃ a b st0, s.st = b :: a :: st0 ∧ s' = ⟨s.cls ++ newM o ((s.tot : Int) + 1) a b, s.tot + 1, ((s.tot : Int) + 1) :: st0⟩ := by
  obtain ⟨cls, t, st⟩ := s
  cases o with
  | var v => cases h1
  | not => cases h2
  | and =>
    match st, h with
    | y :: x :: st0, h => exact ⟨x, y, st0, rfl, (Option.some.inj h).symm⟩
  | or =>
    match st, h with
    | y :: x :: st0, h => exact ⟨x, y, st0, rfl, (Option.some.inj h).symm⟩
theorem ts_not {s s' : Ts} (h : tsStep .not s = some s') : ∃ a st0, s.st = a :: st0 ∧ s' = ⟨s.cls ++ [[-((s.tot : Int) + 1), -a], [(s.tot : Int) + 1, a]], s.tot + 1, ((s.tot : Int) + 1) :: st0⟩ := by
  obtain ⟨cls, t, st⟩ := s
  match st, h with
  | x :: st0, h => exact ⟨x, st0, rfl, (Option.some.inj h).symm⟩
structure TSt (σ0 σ : AH) (is : List Nat) (cls : List (List Int)) (st : List Int) : Prop where
  sub : Sub σ0 σ
  r : RowsP σ σ0.length is cls
  ne : ∀ k ∈ is, k ≠ σ0.length + 1
  s : σ[σ0.length + 1]? = some (.list (st.reverse.map .int))
theorem TSt.snoc {σ0 σ : AH} {is : List Nat} {cls : List (List Int)} {st : List Int} (h : TSt σ0 σ is cls st) (o : AO) : TSt σ0 (σ ++ [o]) is cls st :=
  ⟨h.sub.trans (Sub.snoc _ _), h.r.sub (Sub.snoc _ _), h.ne, Sub.snoc _ _ _ _ h.s⟩
theorem TSt.stack {σ0 σ : AH} {is : List Nat} {cls : List (List Int)} {st : List Int} (h : TSt σ0 σ is cls st) {st' : List Int} {xs : List AV} (e : xs = st'.reverse.map .int) : TSt σ0 (σ.set (σ0.length + 1) (.list xs)) is cls st' :=
  ⟨fun j q e => get_ne (by have := lt_of_get e; (first|lia|omega)) (h.sub j q e), h.r.fx (S := [σ0.length + 1]) (Fx.set (by simp)) (by simp) (fun k hk => by simpa using h.ne k hk), h.ne, by subst e; exact get_set h.s⟩
theorem TSt.more {σ0 σ : AH} {is js : List Nat} {cls qs : List (List Int)} {st : List Int} (h : TSt σ0 σ is cls st) (q : RowsIn σ0.length σ js qs) (hj : ∀ k ∈ js, k ≠ σ0.length + 1) : TSt σ0 (σ.set σ0.length (.list (is.map .ref ++ js.map .ref))) (is ++ js) (cls ++ qs) st :=
  ⟨fun j q e => get_ne (by have := lt_of_get e; (first|lia|omega)) (h.sub j q e), ⟨by rw [get_set h.r.g, List.map_append], (h.r.r.sub (SubX.set σ _)).append (q.sub (SubX.set σ _))⟩, fun k hk => (List.mem_append.mp hk).elim (h.ne k) (hj k), get_ne (by (first|lia|omega)) h.s⟩
theorem TSt.two {σ0 σ : AH} {is : List Nat} {cls : List (List Int)} {st : List Int} (h : TSt σ0 σ is cls st) (a b : List Int) {σ' : AH} {xs : List AV} (e : σ' = (σ ++ [AO.list (a.map AV.int)] ++ [AO.list (b.map AV.int)] ++ [AO.list [.ref σ.length, .ref (σ ++ [AO.list (a.map AV.int)]).length]]).set σ0.length (.list (is.map .ref ++ [.ref σ.length, .ref (σ ++ [AO.list (a.map AV.int)]).length]))) : ∃ is', TSt σ0 σ' is' (cls ++ [a, b]) st := by
  subst e
  have hlt := lt_of_get h.s
  have hlt0 := lt_of_get h.r.g
  exact ⟨_, (((h.snoc _).snoc _).snoc _).more (js := [_, _]) ⟨⟨by (first|lia|omega), Sub.snoc _ _ _ _ (Sub.snoc _ _ _ _ (get_snoc _ _))⟩, ⟨by simp; (first|lia|omega), Sub.snoc _ _ _ _ (get_snoc _ _)⟩, trivial⟩ (by simp; (first|lia|omega))⟩
theorem TSt.three {σ0 σ : AH} {is : List Nat} {cls : List (List Int)} {st : List Int} (h : TSt σ0 σ is cls st) (a b c : List Int) {σ' : AH} (e : σ' = (σ ++ [AO.list (a.map AV.int)] ++ [AO.list (b.map AV.int)] ++ [AO.list (c.map AV.int)] ++ [AO.list [.ref σ.length, .ref (σ ++ [AO.list (a.map AV.int)]).length, .ref (σ ++ [AO.list (a.map AV.int)] ++ [AO.list (b.map AV.int)]).length]]).set σ0.length (.list (is.map .ref ++ [.ref σ.length, .ref (σ ++ [AO.list (a.map AV.int)]).length, .ref (σ ++ [AO.list (a.map AV.int)] ++ [AO.list (b.map AV.int)]).length]))) : ∃ is', TSt σ0 σ' is' (cls ++ [a, b, c]) st := by
  subst e
  have hlt := lt_of_get h.s
  have hlt0 := lt_of_get h.r.g
  exact ⟨_, ((((h.snoc _).snoc _).snoc _).snoc _).more (js := [_, _, _]) ⟨⟨by (first|lia|omega), Sub.snoc _ _ _ _ (Sub.snoc _ _ _ _ (Sub.snoc _ _ _ _ (get_snoc _ _)))⟩, ⟨by simp; (first|lia|omega), Sub.snoc _ _ _ _ (Sub.snoc _ _ _ _ (get_snoc _ _))⟩, ⟨by simp; (first|lia|omega), Sub.snoc _ _ _ _ (get_snoc _ _)⟩, trivial⟩ (by simp; (first|lia|omega))⟩
theorem ts_spec {W : Wd} {f : Addr} (F : FnIs W f ["expr", "n"] (fnBody pw 5) (fnScope pw 5)) {lv n lx : Nat} {is : List Nat} {es : List Op} {s : Ts} {root : Int} {σ : AH} {Q : AV → AH → Prop} (hx : ExprP σ lx is es) (hez : es.length ≤ 1000) (hrun : tsRun es ⟨[], n, []⟩ = some s) (hroot : s.st = [root])
    (h : ∀ σ' t lc isc, Sub σ σ' → σ'[t]? = some (.tuple [.ref lc, .int s.tot, .int root]) → RowsP σ' lc isc s.cls → Q (.ref t) σ') :
    TCode W (lv + 1) (.stat (.ref f)) [.ref lx, .int n] Q σ := by
  refine code_fn F rfl ?_
  refine kW ?_
  repeat (first|with_reducible refine kW ?_|(first|with_reducible (first|refine pB ?_|refine pF ?_|refine pA ?_|refine kX ?_|refine kY ?_|refine gH ?_|refine gG ?_|refine kD ?_|refine gY ?_|refine kJ ?_|refine gX ?_|refine kL ?_|refine kE ?_|refine kK ?_|refine kC ?_|refine kI ?_|refine kO ?_|refine kP ?_|refine kN ?_|refine pJ ?_|refine pG ?_|refine gB ?_|refine gA ?_|refine pM ?_|refine gJ ?_|refine gN ?_|refine gU ?_|refine gQ ?_|refine gO ?_|refine gV ?_|refine pN ?_)|((with_reducible refine And.intro ?_ ?_);(first|(rw [sizeLine_eq];exact of_decide_eq_true rfl)|omega))|((with_reducible first|refine kZ ?_ ?_|refine kQ ?_ ?_|refine kS ?_ ?_|refine kB ?_ ?_|refine kM ?_ ?_|refine pH ?_ ?_|refine pK ?_ ?_);exact rfl)|((with_reducible first|refine kR ?_ ?_ ?_|refine kT ?_ ?_ ?_|apply kG);exact rfl;exact rfl)|((with_reducible apply gZ);assumption;exact rfl;decide +kernel;exact rfl)|((with_reducible apply kA);assumption;exact rfl;decide +kernel;exact rfl;(first|exact .type _|exact .builtin _);exact rfl)|((with_reducible refine gL ?_ ?_);decide)|((with_reducible refine gK ?_ ?_ ?_);decide;exact PyProof.noPylong_small (by decide))|((with_reducible refine gM ?_ ?_);(first|exact IntMulOk.of_right (intBits_le_64 (by omega) (by omega))|exact IntMulOk.of_left (intBits_le_64 (by omega) (by omega))))|((with_reducible refine kF ?_ ?_ ?_);exact rfl;exact fun _ => rfl)|((with_reducible refine gW ?_ ?_);exact fun _ => rfl)|with_reducible refine pO ?_))
  refine ts_for_list rfl rfl ?_
  repeat (first|with_reducible refine kW ?_|(first|with_reducible (first|refine pB ?_|refine pF ?_|refine pA ?_|refine kX ?_|refine kY ?_|refine gH ?_|refine gG ?_|refine kD ?_|refine gY ?_|refine kJ ?_|refine gX ?_|refine kL ?_|refine kE ?_|refine kK ?_|refine kC ?_|refine kI ?_|refine kO ?_|refine kP ?_|refine kN ?_|refine pJ ?_|refine pG ?_|refine gB ?_|refine gA ?_|refine pM ?_|refine gJ ?_|refine gN ?_|refine gU ?_|refine gQ ?_|refine gO ?_|refine gV ?_|refine pN ?_)|((with_reducible refine And.intro ?_ ?_);(first|(rw [sizeLine_eq];exact of_decide_eq_true rfl)|omega))|((with_reducible first|refine kZ ?_ ?_|refine kQ ?_ ?_|refine kS ?_ ?_|refine kB ?_ ?_|refine kM ?_ ?_|refine pH ?_ ?_|refine pK ?_ ?_);exact rfl)|((with_reducible first|refine kR ?_ ?_ ?_|refine kT ?_ ?_ ?_|apply kG);exact rfl;exact rfl)|((with_reducible apply gZ);assumption;exact rfl;decide +kernel;exact rfl)|((with_reducible apply kA);assumption;exact rfl;decide +kernel;exact rfl;(first|exact .type _|exact .builtin _);exact rfl)|((with_reducible refine gL ?_ ?_);decide)|((with_reducible refine gK ?_ ?_ ?_);decide;exact PyProof.noPylong_small (by decide))|((with_reducible refine gM ?_ ?_);(first|exact IntMulOk.of_right (intBits_le_64 (by omega) (by omega))|exact IntMulOk.of_left (intBits_le_64 (by omega) (by omega))))|((with_reducible refine kF ?_ ?_ ?_);exact rfl;exact fun _ => rfl)|((with_reducible refine gW ?_ ?_);exact fun _ => rfl)|with_reducible refine pO ?_))
  have hsl0 : (σ ++ [AO.list []]).length = σ.length + 1 := by simp
  rw [hsl0]
  refine ⟨_, _, fun i m' σ' => ∃ (s1 : Ts) (isc : List Nat), LE [("clauses", .ref σ.length), ("total", .int s1.tot), ("stack", .ref (σ.length + 1))] m' ∧ TSt σ σ' isc s1.cls s1.st ∧ tsRun (es.drop i) s1 = some s ∧ s1.st.length ≤ i ∧ s1.cls.length ≤ 3 * i, rfl, ⟨⟨[], n, []⟩, [], by (repeat (first | exact LE.nil | refine LE.cons (by exact rfl) ?_)), ⟨by (repeat (first | exact Sub.refl _ | assumption | refine Sub.trans ?_ (Sub.snoc _ _))), ⟨Sub.snoc _ _ _ _ (get_snoc _ _), trivial⟩, by simp, by rw [← hsl0]; exact get_snoc _ _⟩, hrun, by simp, by simp⟩, fun i m' σ' _ ⟨_, _, _, q, _⟩ => q.sub _ _ hx.g, ?_, ?_⟩
  · rintro i x m' σ1 hxi ⟨s1, isc, le, hT, hrun, hsl, hcl⟩
    rw [List.getElem?_map] at hxi
    obtain ⟨ir, hir, rfl⟩ := Option.map_eq_some_iff.mp hxi
    obtain ⟨o, ho, hop⟩ := hx.r.geti hir
    have hil : i < es.length := (List.getElem?_eq_some_iff.mp ho).1
    rw [drop_cons ho] at hrun
    obtain ⟨s2, e1, e2⟩ := Option.bind_eq_some_iff.mp (show (tsStep o s1).bind (tsRun (es.drop (i + 1))) = some s from hrun)
    have hop1 := hT.sub _ _ hop
    have hiscl := hT.r.r.length
    refine TA.forget le (ta_tuple rfl hop1 rfl ?_)
    refine gG (ta_name rfl ?_)
    refine gG (ta_name rfl ?_)
    refine gH ?_
    refine ts_cut (fun m' σ' => isVar o = false ∧ σ' = σ1 ∧ LE [("clauses", .ref σ.length), ("total", .int s1.tot), ("stack", .ref (σ.length + 1)), ("kind", .str (opK o)), ("v", .int (opV o))] m') ?_ ?_
    · repeat (first|with_reducible refine kW ?_|(first|with_reducible (first|refine pB ?_|refine pF ?_|refine pA ?_|refine kX ?_|refine kY ?_|refine gH ?_|refine gG ?_|refine kD ?_|refine gY ?_|refine kJ ?_|refine gX ?_|refine kL ?_|refine kE ?_|refine kK ?_|refine kC ?_|refine kI ?_|refine kO ?_|refine kP ?_|refine kN ?_|refine pJ ?_|refine pG ?_|refine gB ?_|refine gA ?_|refine pM ?_|refine gJ ?_|refine gN ?_|refine gU ?_|refine gQ ?_|refine gO ?_|refine gV ?_|refine pN ?_)|((with_reducible refine And.intro ?_ ?_);(first|(rw [sizeLine_eq];exact of_decide_eq_true rfl)|omega))|((with_reducible first|refine kZ ?_ ?_|refine kQ ?_ ?_|refine kS ?_ ?_|refine kB ?_ ?_|refine kM ?_ ?_|refine pH ?_ ?_|refine pK ?_ ?_);exact rfl)|((with_reducible first|refine kR ?_ ?_ ?_|refine kT ?_ ?_ ?_|apply kG);exact rfl;exact rfl)|((with_reducible apply gZ);assumption;exact rfl;decide +kernel;exact rfl)|((with_reducible apply kA);assumption;exact rfl;decide +kernel;exact rfl;(first|exact .type _|exact .builtin _);exact rfl)|((with_reducible refine gL ?_ ?_);decide)|((with_reducible refine gK ?_ ?_ ?_);decide;exact PyProof.noPylong_small (by decide))|((with_reducible refine gM ?_ ?_);(first|exact IntMulOk.of_right (intBits_le_64 (by omega) (by omega))|exact IntMulOk.of_left (intBits_le_64 (by omega) (by omega))))|((with_reducible refine kF ?_ ?_ ?_);exact rfl;exact fun _ => rfl)|((with_reducible refine gW ?_ ?_);exact fun _ => rfl)|with_reducible refine pO ?_))
      refine tcmp_eqS (op_ok o) ok_var ?_
      rw [op_var]
      repeat (first|with_reducible refine kW ?_|(first|with_reducible (first|refine pB ?_|refine pF ?_|refine pA ?_|refine kX ?_|refine kY ?_|refine gH ?_|refine gG ?_|refine kD ?_|refine gY ?_|refine kJ ?_|refine gX ?_|refine kL ?_|refine kE ?_|refine kK ?_|refine kC ?_|refine kI ?_|refine kO ?_|refine kP ?_|refine kN ?_|refine pJ ?_|refine pG ?_|refine gB ?_|refine gA ?_|refine pM ?_|refine gJ ?_|refine gN ?_|refine gU ?_|refine gQ ?_|refine gO ?_|refine gV ?_|refine pN ?_)|((with_reducible refine And.intro ?_ ?_);(first|(rw [sizeLine_eq];exact of_decide_eq_true rfl)|omega))|((with_reducible first|refine kZ ?_ ?_|refine kQ ?_ ?_|refine kS ?_ ?_|refine kB ?_ ?_|refine kM ?_ ?_|refine pH ?_ ?_|refine pK ?_ ?_);exact rfl)|((with_reducible first|refine kR ?_ ?_ ?_|refine kT ?_ ?_ ?_|apply kG);exact rfl;exact rfl)|((with_reducible apply gZ);assumption;exact rfl;decide +kernel;exact rfl)|((with_reducible apply kA);assumption;exact rfl;decide +kernel;exact rfl;(first|exact .type _|exact .builtin _);exact rfl)|((with_reducible refine gL ?_ ?_);decide)|((with_reducible refine gK ?_ ?_ ?_);decide;exact PyProof.noPylong_small (by decide))|((with_reducible refine gM ?_ ?_);(first|exact IntMulOk.of_right (intBits_le_64 (by omega) (by omega))|exact IntMulOk.of_left (intBits_le_64 (by omega) (by omega))))|((with_reducible refine kF ?_ ?_ ?_);exact rfl;exact fun _ => rfl)|((with_reducible refine gW ?_ ?_);exact fun _ => rfl)|with_reducible refine pO ?_))
      split
      · rename_i hq
        cases o with
        | var v =>
          cases e1
          repeat (first|with_reducible refine kW ?_|(first|with_reducible (first|refine pB ?_|refine pF ?_|refine pA ?_|refine kX ?_|refine kY ?_|refine gH ?_|refine gG ?_|refine kD ?_|refine gY ?_|refine kJ ?_|refine gX ?_|refine kL ?_|refine kE ?_|refine kK ?_|refine kC ?_|refine kI ?_|refine kO ?_|refine kP ?_|refine kN ?_|refine pJ ?_|refine pG ?_|refine gB ?_|refine gA ?_|refine pM ?_|refine gJ ?_|refine gN ?_|refine gU ?_|refine gQ ?_|refine gO ?_|refine gV ?_|refine pN ?_)|((with_reducible refine And.intro ?_ ?_);(first|(rw [sizeLine_eq];exact of_decide_eq_true rfl)|omega))|((with_reducible first|refine kZ ?_ ?_|refine kQ ?_ ?_|refine kS ?_ ?_|refine kB ?_ ?_|refine kM ?_ ?_|refine pH ?_ ?_|refine pK ?_ ?_);exact rfl)|((with_reducible first|refine kR ?_ ?_ ?_|refine kT ?_ ?_ ?_|apply kG);exact rfl;exact rfl)|((with_reducible apply gZ);assumption;exact rfl;decide +kernel;exact rfl)|((with_reducible apply kA);assumption;exact rfl;decide +kernel;exact rfl;(first|exact .type _|exact .builtin _);exact rfl)|((with_reducible refine gL ?_ ?_);decide)|((with_reducible refine gK ?_ ?_ ?_);decide;exact PyProof.noPylong_small (by decide))|((with_reducible refine gM ?_ ?_);(first|exact IntMulOk.of_right (intBits_le_64 (by omega) (by omega))|exact IntMulOk.of_left (intBits_le_64 (by omega) (by omega))))|((with_reducible refine kF ?_ ?_ ?_);exact rfl;exact fun _ => rfl)|((with_reducible refine gW ?_ ?_);exact fun _ => rfl)|with_reducible refine pO ?_))
          refine tmeth_append hT.s ?_
          repeat (first|with_reducible refine kW ?_|(first|with_reducible (first|refine pB ?_|refine pF ?_|refine pA ?_|refine kX ?_|refine kY ?_|refine gH ?_|refine gG ?_|refine kD ?_|refine gY ?_|refine kJ ?_|refine gX ?_|refine kL ?_|refine kE ?_|refine kK ?_|refine kC ?_|refine kI ?_|refine kO ?_|refine kP ?_|refine kN ?_|refine pJ ?_|refine pG ?_|refine gB ?_|refine gA ?_|refine pM ?_|refine gJ ?_|refine gN ?_|refine gU ?_|refine gQ ?_|refine gO ?_|refine gV ?_|refine pN ?_)|((with_reducible refine And.intro ?_ ?_);(first|(rw [sizeLine_eq];exact of_decide_eq_true rfl)|omega))|((with_reducible first|refine kZ ?_ ?_|refine kQ ?_ ?_|refine kS ?_ ?_|refine kB ?_ ?_|refine kM ?_ ?_|refine pH ?_ ?_|refine pK ?_ ?_);exact rfl)|((with_reducible first|refine kR ?_ ?_ ?_|refine kT ?_ ?_ ?_|apply kG);exact rfl;exact rfl)|((with_reducible apply gZ);assumption;exact rfl;decide +kernel;exact rfl)|((with_reducible apply kA);assumption;exact rfl;decide +kernel;exact rfl;(first|exact .type _|exact .builtin _);exact rfl)|((with_reducible refine gL ?_ ?_);decide)|((with_reducible refine gK ?_ ?_ ?_);decide;exact PyProof.noPylong_small (by decide))|((with_reducible refine gM ?_ ?_);(first|exact IntMulOk.of_right (intBits_le_64 (by omega) (by omega))|exact IntMulOk.of_left (intBits_le_64 (by omega) (by omega))))|((with_reducible refine kF ?_ ?_ ?_);exact rfl;exact fun _ => rfl)|((with_reducible refine gW ?_ ?_);exact fun _ => rfl)|with_reducible refine pO ?_))
          refine tcall_append hT.s (by rw [sizeLine_eq]; simp; (first|lia|omega)) ?_
          repeat (first|with_reducible refine kW ?_|(first|with_reducible (first|refine pB ?_|refine pF ?_|refine pA ?_|refine kX ?_|refine kY ?_|refine gH ?_|refine gG ?_|refine kD ?_|refine gY ?_|refine kJ ?_|refine gX ?_|refine kL ?_|refine kE ?_|refine kK ?_|refine kC ?_|refine kI ?_|refine kO ?_|refine kP ?_|refine kN ?_|refine pJ ?_|refine pG ?_|refine gB ?_|refine gA ?_|refine pM ?_|refine gJ ?_|refine gN ?_|refine gU ?_|refine gQ ?_|refine gO ?_|refine gV ?_|refine pN ?_)|((with_reducible refine And.intro ?_ ?_);(first|(rw [sizeLine_eq];exact of_decide_eq_true rfl)|omega))|((with_reducible first|refine kZ ?_ ?_|refine kQ ?_ ?_|refine kS ?_ ?_|refine kB ?_ ?_|refine kM ?_ ?_|refine pH ?_ ?_|refine pK ?_ ?_);exact rfl)|((with_reducible first|refine kR ?_ ?_ ?_|refine kT ?_ ?_ ?_|apply kG);exact rfl;exact rfl)|((with_reducible apply gZ);assumption;exact rfl;decide +kernel;exact rfl)|((with_reducible apply kA);assumption;exact rfl;decide +kernel;exact rfl;(first|exact .type _|exact .builtin _);exact rfl)|((with_reducible refine gL ?_ ?_);decide)|((with_reducible refine gK ?_ ?_ ?_);decide;exact PyProof.noPylong_small (by decide))|((with_reducible refine gM ?_ ?_);(first|exact IntMulOk.of_right (intBits_le_64 (by omega) (by omega))|exact IntMulOk.of_left (intBits_le_64 (by omega) (by omega))))|((with_reducible refine kF ?_ ?_ ?_);exact rfl;exact fun _ => rfl)|((with_reducible refine gW ?_ ?_);exact fun _ => rfl)|with_reducible refine pO ?_))
          exact ⟨⟨s1.cls, s1.tot, (v : Int) :: s1.st⟩, isc, by (repeat (first | exact LE.nil | refine LE.cons (by exact rfl) ?_)), hT.stack (by simp [opV]), e2, by simp; (first|lia|omega), by show s1.cls.length ≤ _; (first|lia|omega)⟩
        | not => cases hq
        | and => cases hq
        | or => cases hq
      · rename_i hq
        repeat (first|with_reducible refine kW ?_|(first|with_reducible (first|refine pB ?_|refine pF ?_|refine pA ?_|refine kX ?_|refine kY ?_|refine gH ?_|refine gG ?_|refine kD ?_|refine gY ?_|refine kJ ?_|refine gX ?_|refine kL ?_|refine kE ?_|refine kK ?_|refine kC ?_|refine kI ?_|refine kO ?_|refine kP ?_|refine kN ?_|refine pJ ?_|refine pG ?_|refine gB ?_|refine gA ?_|refine pM ?_|refine gJ ?_|refine gN ?_|refine gU ?_|refine gQ ?_|refine gO ?_|refine gV ?_|refine pN ?_)|((with_reducible refine And.intro ?_ ?_);(first|(rw [sizeLine_eq];exact of_decide_eq_true rfl)|omega))|((with_reducible first|refine kZ ?_ ?_|refine kQ ?_ ?_|refine kS ?_ ?_|refine kB ?_ ?_|refine kM ?_ ?_|refine pH ?_ ?_|refine pK ?_ ?_);exact rfl)|((with_reducible first|refine kR ?_ ?_ ?_|refine kT ?_ ?_ ?_|apply kG);exact rfl;exact rfl)|((with_reducible apply gZ);assumption;exact rfl;decide +kernel;exact rfl)|((with_reducible apply kA);assumption;exact rfl;decide +kernel;exact rfl;(first|exact .type _|exact .builtin _);exact rfl)|((with_reducible refine gL ?_ ?_);decide)|((with_reducible refine gK ?_ ?_ ?_);decide;exact PyProof.noPylong_small (by decide))|((with_reducible refine gM ?_ ?_);(first|exact IntMulOk.of_right (intBits_le_64 (by omega) (by omega))|exact IntMulOk.of_left (intBits_le_64 (by omega) (by omega))))|((with_reducible refine kF ?_ ?_ ?_);exact rfl;exact fun _ => rfl)|((with_reducible refine gW ?_ ?_);exact fun _ => rfl)|with_reducible refine pO ?_))
        exact ⟨by simpa using hq, rfl, by (repeat (first | exact LE.nil | refine LE.cons (by exact rfl) ?_))⟩
    rintro m2 σ' ⟨hnv, e, le2⟩
    have e := e.symm
    subst e
    refine TX.forget le2 ?_
    refine kW ?_
    refine ts_aug_name rfl rfl rfl ?_
    repeat (first|with_reducible refine kW ?_|(first|with_reducible (first|refine pB ?_|refine pF ?_|refine pA ?_|refine kX ?_|refine kY ?_|refine gH ?_|refine gG ?_|refine kD ?_|refine gY ?_|refine kJ ?_|refine gX ?_|refine kL ?_|refine kE ?_|refine kK ?_|refine kC ?_|refine kI ?_|refine kO ?_|refine kP ?_|refine kN ?_|refine pJ ?_|refine pG ?_|refine gB ?_|refine gA ?_|refine pM ?_|refine gJ ?_|refine gN ?_|refine gU ?_|refine gQ ?_|refine gO ?_|refine gV ?_|refine pN ?_)|((with_reducible refine And.intro ?_ ?_);(first|(rw [sizeLine_eq];exact of_decide_eq_true rfl)|omega))|((with_reducible first|refine kZ ?_ ?_|refine kQ ?_ ?_|refine kS ?_ ?_|refine kB ?_ ?_|refine kM ?_ ?_|refine pH ?_ ?_|refine pK ?_ ?_);exact rfl)|((with_reducible first|refine kR ?_ ?_ ?_|refine kT ?_ ?_ ?_|apply kG);exact rfl;exact rfl)|((with_reducible apply gZ);assumption;exact rfl;decide +kernel;exact rfl)|((with_reducible apply kA);assumption;exact rfl;decide +kernel;exact rfl;(first|exact .type _|exact .builtin _);exact rfl)|((with_reducible refine gL ?_ ?_);decide)|((with_reducible refine gK ?_ ?_ ?_);decide;exact PyProof.noPylong_small (by decide))|((with_reducible refine gM ?_ ?_);(first|exact IntMulOk.of_right (intBits_le_64 (by omega) (by omega))|exact IntMulOk.of_left (intBits_le_64 (by omega) (by omega))))|((with_reducible refine kF ?_ ?_ ?_);exact rfl;exact fun _ => rfl)|((with_reducible refine gW ?_ ?_);exact fun _ => rfl)|with_reducible refine pO ?_))
    refine tinp_addI ?_
    refine kW ?_
    repeat (first|with_reducible (first|refine pB ?_|refine pF ?_|refine pA ?_|refine kX ?_|refine kY ?_|refine gH ?_|refine gG ?_|refine kD ?_|refine gY ?_|refine kJ ?_|refine gX ?_|refine kL ?_|refine kE ?_|refine kK ?_|refine kC ?_|refine kI ?_|refine kO ?_|refine kP ?_|refine kN ?_|refine pJ ?_|refine pG ?_|refine gB ?_|refine gA ?_|refine pM ?_|refine gJ ?_|refine gN ?_|refine gU ?_|refine gQ ?_|refine gO ?_|refine gV ?_|refine pN ?_)|((with_reducible refine And.intro ?_ ?_);(first|(rw [sizeLine_eq];exact of_decide_eq_true rfl)|omega))|((with_reducible first|refine kZ ?_ ?_|refine kQ ?_ ?_|refine kS ?_ ?_|refine kB ?_ ?_|refine kM ?_ ?_|refine pH ?_ ?_|refine pK ?_ ?_);exact rfl)|((with_reducible first|refine kR ?_ ?_ ?_|refine kT ?_ ?_ ?_|apply kG);exact rfl;exact rfl)|((with_reducible apply gZ);assumption;exact rfl;decide +kernel;exact rfl)|((with_reducible apply kA);assumption;exact rfl;decide +kernel;exact rfl;(first|exact .type _|exact .builtin _);exact rfl)|((with_reducible refine gL ?_ ?_);decide)|((with_reducible refine gK ?_ ?_ ?_);decide;exact PyProof.noPylong_small (by decide))|((with_reducible refine gM ?_ ?_);(first|exact IntMulOk.of_right (intBits_le_64 (by omega) (by omega))|exact IntMulOk.of_left (intBits_le_64 (by omega) (by omega))))|((with_reducible refine kF ?_ ?_ ?_);exact rfl;exact fun _ => rfl)|((with_reducible refine gW ?_ ?_);exact fun _ => rfl)|with_reducible refine pO ?_)
    refine ts_cut (fun m' σ' => ∃ isc2 st0, s2.tot = s1.tot + 1 ∧ s2.st = ((s1.tot : Int) + 1) :: st0 ∧ s2.cls.length ≤ s1.cls.length + 3 ∧ st0.length ≤ i ∧ LE [("clauses", .ref σ.length), ("total", .int ((s1.tot : Int) + 1)), ("stack", .ref (σ.length + 1)), ("x", .int ((s1.tot : Int) + 1))] m' ∧ TSt σ σ' isc2 s2.cls st0) ?_ ?_
    · repeat (first|with_reducible refine kW ?_|(first|with_reducible (first|refine pB ?_|refine pF ?_|refine pA ?_|refine kX ?_|refine kY ?_|refine gH ?_|refine gG ?_|refine kD ?_|refine gY ?_|refine kJ ?_|refine gX ?_|refine kL ?_|refine kE ?_|refine kK ?_|refine kC ?_|refine kI ?_|refine kO ?_|refine kP ?_|refine kN ?_|refine pJ ?_|refine pG ?_|refine gB ?_|refine gA ?_|refine pM ?_|refine gJ ?_|refine gN ?_|refine gU ?_|refine gQ ?_|refine gO ?_|refine gV ?_|refine pN ?_)|((with_reducible refine And.intro ?_ ?_);(first|(rw [sizeLine_eq];exact of_decide_eq_true rfl)|omega))|((with_reducible first|refine kZ ?_ ?_|refine kQ ?_ ?_|refine kS ?_ ?_|refine kB ?_ ?_|refine kM ?_ ?_|refine pH ?_ ?_|refine pK ?_ ?_);exact rfl)|((with_reducible first|refine kR ?_ ?_ ?_|refine kT ?_ ?_ ?_|apply kG);exact rfl;exact rfl)|((with_reducible apply gZ);assumption;exact rfl;decide +kernel;exact rfl)|((with_reducible apply kA);assumption;exact rfl;decide +kernel;exact rfl;(first|exact .type _|exact .builtin _);exact rfl)|((with_reducible refine gL ?_ ?_);decide)|((with_reducible refine gK ?_ ?_ ?_);decide;exact PyProof.noPylong_small (by decide))|((with_reducible refine gM ?_ ?_);(first|exact IntMulOk.of_right (intBits_le_64 (by omega) (by omega))|exact IntMulOk.of_left (intBits_le_64 (by omega) (by omega))))|((with_reducible refine kF ?_ ?_ ?_);exact rfl;exact fun _ => rfl)|((with_reducible refine gW ?_ ?_);exact fun _ => rfl)|with_reducible refine pO ?_))
      refine tcmp_eqS (op_ok o) ok_not ?_
      rw [op_not]
      repeat (first|with_reducible refine kW ?_|(first|with_reducible (first|refine pB ?_|refine pF ?_|refine pA ?_|refine kX ?_|refine kY ?_|refine gH ?_|refine gG ?_|refine kD ?_|refine gY ?_|refine kJ ?_|refine gX ?_|refine kL ?_|refine kE ?_|refine kK ?_|refine kC ?_|refine kI ?_|refine kO ?_|refine kP ?_|refine kN ?_|refine pJ ?_|refine pG ?_|refine gB ?_|refine gA ?_|refine pM ?_|refine gJ ?_|refine gN ?_|refine gU ?_|refine gQ ?_|refine gO ?_|refine gV ?_|refine pN ?_)|((with_reducible refine And.intro ?_ ?_);(first|(rw [sizeLine_eq];exact of_decide_eq_true rfl)|omega))|((with_reducible first|refine kZ ?_ ?_|refine kQ ?_ ?_|refine kS ?_ ?_|refine kB ?_ ?_|refine kM ?_ ?_|refine pH ?_ ?_|refine pK ?_ ?_);exact rfl)|((with_reducible first|refine kR ?_ ?_ ?_|refine kT ?_ ?_ ?_|apply kG);exact rfl;exact rfl)|((with_reducible apply gZ);assumption;exact rfl;decide +kernel;exact rfl)|((with_reducible apply kA);assumption;exact rfl;decide +kernel;exact rfl;(first|exact .type _|exact .builtin _);exact rfl)|((with_reducible refine gL ?_ ?_);decide)|((with_reducible refine gK ?_ ?_ ?_);decide;exact PyProof.noPylong_small (by decide))|((with_reducible refine gM ?_ ?_);(first|exact IntMulOk.of_right (intBits_le_64 (by omega) (by omega))|exact IntMulOk.of_left (intBits_le_64 (by omega) (by omega))))|((with_reducible refine kF ?_ ?_ ?_);exact rfl;exact fun _ => rfl)|((with_reducible refine gW ?_ ?_);exact fun _ => rfl)|with_reducible refine pO ?_))
      split
      · rename_i hq2
        have ho2 : o = .not := by cases o <;> first | rfl | cases hq2
        subst ho2
        obtain ⟨a, st0, hs1, rfl⟩ := ts_not e1
        have hst := hT.s
        rw [hs1, List.reverse_cons, List.map_append] at hst
        simp only [List.map_cons, List.map_nil] at hst
        rw [hs1] at hsl
        simp only [List.length_cons] at hsl
        repeat (first|with_reducible refine kW ?_|(first|with_reducible (first|refine pB ?_|refine pF ?_|refine pA ?_|refine kX ?_|refine kY ?_|refine gH ?_|refine gG ?_|refine kD ?_|refine gY ?_|refine kJ ?_|refine gX ?_|refine kL ?_|refine kE ?_|refine kK ?_|refine kC ?_|refine kI ?_|refine kO ?_|refine kP ?_|refine kN ?_|refine pJ ?_|refine pG ?_|refine gB ?_|refine gA ?_|refine pM ?_|refine gJ ?_|refine gN ?_|refine gU ?_|refine gQ ?_|refine gO ?_|refine gV ?_|refine pN ?_)|((with_reducible refine And.intro ?_ ?_);(first|(rw [sizeLine_eq];exact of_decide_eq_true rfl)|omega))|((with_reducible first|refine kZ ?_ ?_|refine kQ ?_ ?_|refine kS ?_ ?_|refine kB ?_ ?_|refine kM ?_ ?_|refine pH ?_ ?_|refine pK ?_ ?_);exact rfl)|((with_reducible first|refine kR ?_ ?_ ?_|refine kT ?_ ?_ ?_|apply kG);exact rfl;exact rfl)|((with_reducible apply gZ);assumption;exact rfl;decide +kernel;exact rfl)|((with_reducible apply kA);assumption;exact rfl;decide +kernel;exact rfl;(first|exact .type _|exact .builtin _);exact rfl)|((with_reducible refine gL ?_ ?_);decide)|((with_reducible refine gK ?_ ?_ ?_);decide;exact PyProof.noPylong_small (by decide))|((with_reducible refine gM ?_ ?_);(first|exact IntMulOk.of_right (intBits_le_64 (by omega) (by omega))|exact IntMulOk.of_left (intBits_le_64 (by omega) (by omega))))|((with_reducible refine kF ?_ ?_ ?_);exact rfl;exact fun _ => rfl)|((with_reducible refine gW ?_ ?_);exact fun _ => rfl)|with_reducible refine pO ?_))
        refine tidx_list rfl hst (j := st0.length) (x := .int a) (pyIdx_l1 (by simp)) (by simp) (by decide) ?_
        repeat (first|with_reducible refine kW ?_|(first|with_reducible (first|refine pB ?_|refine pF ?_|refine pA ?_|refine kX ?_|refine kY ?_|refine gH ?_|refine gG ?_|refine kD ?_|refine gY ?_|refine kJ ?_|refine gX ?_|refine kL ?_|refine kE ?_|refine kK ?_|refine kC ?_|refine kI ?_|refine kO ?_|refine kP ?_|refine kN ?_|refine pJ ?_|refine pG ?_|refine gB ?_|refine gA ?_|refine pM ?_|refine gJ ?_|refine gN ?_|refine gU ?_|refine gQ ?_|refine gO ?_|refine gV ?_|refine pN ?_)|((with_reducible refine And.intro ?_ ?_);(first|(rw [sizeLine_eq];exact of_decide_eq_true rfl)|omega))|((with_reducible first|refine kZ ?_ ?_|refine kQ ?_ ?_|refine kS ?_ ?_|refine kB ?_ ?_|refine kM ?_ ?_|refine pH ?_ ?_|refine pK ?_ ?_);exact rfl)|((with_reducible first|refine kR ?_ ?_ ?_|refine kT ?_ ?_ ?_|apply kG);exact rfl;exact rfl)|((with_reducible apply gZ);assumption;exact rfl;decide +kernel;exact rfl)|((with_reducible apply kA);assumption;exact rfl;decide +kernel;exact rfl;(first|exact .type _|exact .builtin _);exact rfl)|((with_reducible refine gL ?_ ?_);decide)|((with_reducible refine gK ?_ ?_ ?_);decide;exact PyProof.noPylong_small (by decide))|((with_reducible refine gM ?_ ?_);(first|exact IntMulOk.of_right (intBits_le_64 (by omega) (by omega))|exact IntMulOk.of_left (intBits_le_64 (by omega) (by omega))))|((with_reducible refine kF ?_ ?_ ?_);exact rfl;exact fun _ => rfl)|((with_reducible refine gW ?_ ?_);exact fun _ => rfl)|with_reducible refine pO ?_))
        refine tdel_slice (Sub.snoc _ _ _ _ hst) (get_snoc _ _) (by rw [sizeLine_eq]; simp; (first|lia|omega)) ?_
        rw [show (-1 : Int) = -((1 : Nat) : Int) from rfl, cutLast _ _ (by decide) (by simp), cut1]
        have hT2 := (hT.snoc (AO.slice (some (-((1 : Nat) : Int))) none none)).stack (st' := st0) rfl
        generalize (σ1 ++ [AO.slice (some (-((1 : Nat) : Int))) none none]).set (σ.length + 1) (AO.list (st0.reverse.map AV.int)) = σ2 at hT2 ⊢
        refine kW ?_
        refine ts_aug_name rfl rfl rfl ?_
        repeat (first|with_reducible refine kW ?_|(first|with_reducible (first|refine pB ?_|refine pF ?_|refine pA ?_|refine kX ?_|refine kY ?_|refine gH ?_|refine gG ?_|refine kD ?_|refine gY ?_|refine kJ ?_|refine gX ?_|refine kL ?_|refine kE ?_|refine kK ?_|refine kC ?_|refine kI ?_|refine kO ?_|refine kP ?_|refine kN ?_|refine pJ ?_|refine pG ?_|refine gB ?_|refine gA ?_|refine pM ?_|refine gJ ?_|refine gN ?_|refine gU ?_|refine gQ ?_|refine gO ?_|refine gV ?_|refine pN ?_)|((with_reducible refine And.intro ?_ ?_);(first|(rw [sizeLine_eq];exact of_decide_eq_true rfl)|omega))|((with_reducible first|refine kZ ?_ ?_|refine kQ ?_ ?_|refine kS ?_ ?_|refine kB ?_ ?_|refine kM ?_ ?_|refine pH ?_ ?_|refine pK ?_ ?_);exact rfl)|((with_reducible first|refine kR ?_ ?_ ?_|refine kT ?_ ?_ ?_|apply kG);exact rfl;exact rfl)|((with_reducible apply gZ);assumption;exact rfl;decide +kernel;exact rfl)|((with_reducible apply kA);assumption;exact rfl;decide +kernel;exact rfl;(first|exact .type _|exact .builtin _);exact rfl)|((with_reducible refine gL ?_ ?_);decide)|((with_reducible refine gK ?_ ?_ ?_);decide;exact PyProof.noPylong_small (by decide))|((with_reducible refine gM ?_ ?_);(first|exact IntMulOk.of_right (intBits_le_64 (by omega) (by omega))|exact IntMulOk.of_left (intBits_le_64 (by omega) (by omega))))|((with_reducible refine kF ?_ ?_ ?_);exact rfl;exact fun _ => rfl)|((with_reducible refine gW ?_ ?_);exact fun _ => rfl)|with_reducible refine pO ?_))
        refine tinp_addL (((hT2.snoc _).snoc _).snoc _).r.g (get_snoc _ _) (by simp; (first|lia|omega)) ?_
        obtain ⟨is', hT3⟩ := hT2.two (xs := []) [-((s1.tot : Int) + 1), -a] [(s1.tot : Int) + 1, a] rfl
        repeat (first|with_reducible refine kW ?_|(first|with_reducible (first|refine pB ?_|refine pF ?_|refine pA ?_|refine kX ?_|refine kY ?_|refine gH ?_|refine gG ?_|refine kD ?_|refine gY ?_|refine kJ ?_|refine gX ?_|refine kL ?_|refine kE ?_|refine kK ?_|refine kC ?_|refine kI ?_|refine kO ?_|refine kP ?_|refine kN ?_|refine pJ ?_|refine pG ?_|refine gB ?_|refine gA ?_|refine pM ?_|refine gJ ?_|refine gN ?_|refine gU ?_|refine gQ ?_|refine gO ?_|refine gV ?_|refine pN ?_)|((with_reducible refine And.intro ?_ ?_);(first|(rw [sizeLine_eq];exact of_decide_eq_true rfl)|omega))|((with_reducible first|refine kZ ?_ ?_|refine kQ ?_ ?_|refine kS ?_ ?_|refine kB ?_ ?_|refine kM ?_ ?_|refine pH ?_ ?_|refine pK ?_ ?_);exact rfl)|((with_reducible first|refine kR ?_ ?_ ?_|refine kT ?_ ?_ ?_|apply kG);exact rfl;exact rfl)|((with_reducible apply gZ);assumption;exact rfl;decide +kernel;exact rfl)|((with_reducible apply kA);assumption;exact rfl;decide +kernel;exact rfl;(first|exact .type _|exact .builtin _);exact rfl)|((with_reducible refine gL ?_ ?_);decide)|((with_reducible refine gK ?_ ?_ ?_);decide;exact PyProof.noPylong_small (by decide))|((with_reducible refine gM ?_ ?_);(first|exact IntMulOk.of_right (intBits_le_64 (by omega) (by omega))|exact IntMulOk.of_left (intBits_le_64 (by omega) (by omega))))|((with_reducible refine kF ?_ ?_ ?_);exact rfl;exact fun _ => rfl)|((with_reducible refine gW ?_ ?_);exact fun _ => rfl)|with_reducible refine pO ?_))
        exact ⟨is', st0, rfl, rfl, by simp, by (first|lia|omega), by (repeat (first | exact LE.nil | refine LE.cons (by exact rfl) ?_)), hT3⟩
      · rename_i hq2
        obtain ⟨a, b, st0, hs1, rfl⟩ := ts_bin hnv (by simpa using hq2) e1
        have hst := hT.s
        rw [hs1, List.reverse_cons, List.reverse_cons, List.map_append, List.map_append, List.append_assoc] at hst
        simp only [List.map_cons, List.map_nil, List.singleton_append] at hst
        rw [hs1] at hsl
        simp only [List.length_cons] at hsl
        repeat (first|with_reducible refine kW ?_|(first|with_reducible (first|refine pB ?_|refine pF ?_|refine pA ?_|refine kX ?_|refine kY ?_|refine gH ?_|refine gG ?_|refine kD ?_|refine gY ?_|refine kJ ?_|refine gX ?_|refine kL ?_|refine kE ?_|refine kK ?_|refine kC ?_|refine kI ?_|refine kO ?_|refine kP ?_|refine kN ?_|refine pJ ?_|refine pG ?_|refine gB ?_|refine gA ?_|refine pM ?_|refine gJ ?_|refine gN ?_|refine gU ?_|refine gQ ?_|refine gO ?_|refine gV ?_|refine pN ?_)|((with_reducible refine And.intro ?_ ?_);(first|(rw [sizeLine_eq];exact of_decide_eq_true rfl)|omega))|((with_reducible first|refine kZ ?_ ?_|refine kQ ?_ ?_|refine kS ?_ ?_|refine kB ?_ ?_|refine kM ?_ ?_|refine pH ?_ ?_|refine pK ?_ ?_);exact rfl)|((with_reducible first|refine kR ?_ ?_ ?_|refine kT ?_ ?_ ?_|apply kG);exact rfl;exact rfl)|((with_reducible apply gZ);assumption;exact rfl;decide +kernel;exact rfl)|((with_reducible apply kA);assumption;exact rfl;decide +kernel;exact rfl;(first|exact .type _|exact .builtin _);exact rfl)|((with_reducible refine gL ?_ ?_);decide)|((with_reducible refine gK ?_ ?_ ?_);decide;exact PyProof.noPylong_small (by decide))|((with_reducible refine gM ?_ ?_);(first|exact IntMulOk.of_right (intBits_le_64 (by omega) (by omega))|exact IntMulOk.of_left (intBits_le_64 (by omega) (by omega))))|((with_reducible refine kF ?_ ?_ ?_);exact rfl;exact fun _ => rfl)|((with_reducible refine gW ?_ ?_);exact fun _ => rfl)|with_reducible refine pO ?_))
        refine tidx_list rfl hst (j := st0.length) (x := .int a) (pyIdx_l2 (by simp)) (by simp) (by decide) ?_
        repeat (first|with_reducible refine kW ?_|(first|with_reducible (first|refine pB ?_|refine pF ?_|refine pA ?_|refine kX ?_|refine kY ?_|refine gH ?_|refine gG ?_|refine kD ?_|refine gY ?_|refine kJ ?_|refine gX ?_|refine kL ?_|refine kE ?_|refine kK ?_|refine kC ?_|refine kI ?_|refine kO ?_|refine kP ?_|refine kN ?_|refine pJ ?_|refine pG ?_|refine gB ?_|refine gA ?_|refine pM ?_|refine gJ ?_|refine gN ?_|refine gU ?_|refine gQ ?_|refine gO ?_|refine gV ?_|refine pN ?_)|((with_reducible refine And.intro ?_ ?_);(first|(rw [sizeLine_eq];exact of_decide_eq_true rfl)|omega))|((with_reducible first|refine kZ ?_ ?_|refine kQ ?_ ?_|refine kS ?_ ?_|refine kB ?_ ?_|refine kM ?_ ?_|refine pH ?_ ?_|refine pK ?_ ?_);exact rfl)|((with_reducible first|refine kR ?_ ?_ ?_|refine kT ?_ ?_ ?_|apply kG);exact rfl;exact rfl)|((with_reducible apply gZ);assumption;exact rfl;decide +kernel;exact rfl)|((with_reducible apply kA);assumption;exact rfl;decide +kernel;exact rfl;(first|exact .type _|exact .builtin _);exact rfl)|((with_reducible refine gL ?_ ?_);decide)|((with_reducible refine gK ?_ ?_ ?_);decide;exact PyProof.noPylong_small (by decide))|((with_reducible refine gM ?_ ?_);(first|exact IntMulOk.of_right (intBits_le_64 (by omega) (by omega))|exact IntMulOk.of_left (intBits_le_64 (by omega) (by omega))))|((with_reducible refine kF ?_ ?_ ?_);exact rfl;exact fun _ => rfl)|((with_reducible refine gW ?_ ?_);exact fun _ => rfl)|with_reducible refine pO ?_))
        refine tidx_list rfl hst (j := st0.length + 1) (x := .int b) (pyIdx_l1 (by simp)) (by simp) (by decide) ?_
        repeat (first|with_reducible refine kW ?_|(first|with_reducible (first|refine pB ?_|refine pF ?_|refine pA ?_|refine kX ?_|refine kY ?_|refine gH ?_|refine gG ?_|refine kD ?_|refine gY ?_|refine kJ ?_|refine gX ?_|refine kL ?_|refine kE ?_|refine kK ?_|refine kC ?_|refine kI ?_|refine kO ?_|refine kP ?_|refine kN ?_|refine pJ ?_|refine pG ?_|refine gB ?_|refine gA ?_|refine pM ?_|refine gJ ?_|refine gN ?_|refine gU ?_|refine gQ ?_|refine gO ?_|refine gV ?_|refine pN ?_)|((with_reducible refine And.intro ?_ ?_);(first|(rw [sizeLine_eq];exact of_decide_eq_true rfl)|omega))|((with_reducible first|refine kZ ?_ ?_|refine kQ ?_ ?_|refine kS ?_ ?_|refine kB ?_ ?_|refine kM ?_ ?_|refine pH ?_ ?_|refine pK ?_ ?_);exact rfl)|((with_reducible first|refine kR ?_ ?_ ?_|refine kT ?_ ?_ ?_|apply kG);exact rfl;exact rfl)|((with_reducible apply gZ);assumption;exact rfl;decide +kernel;exact rfl)|((with_reducible apply kA);assumption;exact rfl;decide +kernel;exact rfl;(first|exact .type _|exact .builtin _);exact rfl)|((with_reducible refine gL ?_ ?_);decide)|((with_reducible refine gK ?_ ?_ ?_);decide;exact PyProof.noPylong_small (by decide))|((with_reducible refine gM ?_ ?_);(first|exact IntMulOk.of_right (intBits_le_64 (by omega) (by omega))|exact IntMulOk.of_left (intBits_le_64 (by omega) (by omega))))|((with_reducible refine kF ?_ ?_ ?_);exact rfl;exact fun _ => rfl)|((with_reducible refine gW ?_ ?_);exact fun _ => rfl)|with_reducible refine pO ?_))
        refine tdel_slice (Sub.snoc _ _ _ _ hst) (get_snoc _ _) (by rw [sizeLine_eq]; simp; (first|lia|omega)) ?_
        rw [show (-2 : Int) = -((2 : Nat) : Int) from rfl, cutLast _ _ (by decide) (by simp), cut2]
        have hT2 := (hT.snoc (AO.slice (some (-((2 : Nat) : Int))) none none)).stack (st' := st0) rfl
        generalize (σ1 ++ [AO.slice (some (-((2 : Nat) : Int))) none none]).set (σ.length + 1) (AO.list (st0.reverse.map AV.int)) = σ2 at hT2 ⊢
        repeat (first|with_reducible refine kW ?_|(first|with_reducible (first|refine pB ?_|refine pF ?_|refine pA ?_|refine kX ?_|refine kY ?_|refine gH ?_|refine gG ?_|refine kD ?_|refine gY ?_|refine kJ ?_|refine gX ?_|refine kL ?_|refine kE ?_|refine kK ?_|refine kC ?_|refine kI ?_|refine kO ?_|refine kP ?_|refine kN ?_|refine pJ ?_|refine pG ?_|refine gB ?_|refine gA ?_|refine pM ?_|refine gJ ?_|refine gN ?_|refine gU ?_|refine gQ ?_|refine gO ?_|refine gV ?_|refine pN ?_)|((with_reducible refine And.intro ?_ ?_);(first|(rw [sizeLine_eq];exact of_decide_eq_true rfl)|omega))|((with_reducible first|refine kZ ?_ ?_|refine kQ ?_ ?_|refine kS ?_ ?_|refine kB ?_ ?_|refine kM ?_ ?_|refine pH ?_ ?_|refine pK ?_ ?_);exact rfl)|((with_reducible first|refine kR ?_ ?_ ?_|refine kT ?_ ?_ ?_|apply kG);exact rfl;exact rfl)|((with_reducible apply gZ);assumption;exact rfl;decide +kernel;exact rfl)|((with_reducible apply kA);assumption;exact rfl;decide +kernel;exact rfl;(first|exact .type _|exact .builtin _);exact rfl)|((with_reducible refine gL ?_ ?_);decide)|((with_reducible refine gK ?_ ?_ ?_);decide;exact PyProof.noPylong_small (by decide))|((with_reducible refine gM ?_ ?_);(first|exact IntMulOk.of_right (intBits_le_64 (by omega) (by omega))|exact IntMulOk.of_left (intBits_le_64 (by omega) (by omega))))|((with_reducible refine kF ?_ ?_ ?_);exact rfl;exact fun _ => rfl)|((with_reducible refine gW ?_ ?_);exact fun _ => rfl)|with_reducible refine pO ?_))
        refine tcmp_eqS (op_ok o) ok_and ?_
        rw [op_and]
        repeat (first|with_reducible refine kW ?_|(first|with_reducible (first|refine pB ?_|refine pF ?_|refine pA ?_|refine kX ?_|refine kY ?_|refine gH ?_|refine gG ?_|refine kD ?_|refine gY ?_|refine kJ ?_|refine gX ?_|refine kL ?_|refine kE ?_|refine kK ?_|refine kC ?_|refine kI ?_|refine kO ?_|refine kP ?_|refine kN ?_|refine pJ ?_|refine pG ?_|refine gB ?_|refine gA ?_|refine pM ?_|refine gJ ?_|refine gN ?_|refine gU ?_|refine gQ ?_|refine gO ?_|refine gV ?_|refine pN ?_)|((with_reducible refine And.intro ?_ ?_);(first|(rw [sizeLine_eq];exact of_decide_eq_true rfl)|omega))|((with_reducible first|refine kZ ?_ ?_|refine kQ ?_ ?_|refine kS ?_ ?_|refine kB ?_ ?_|refine kM ?_ ?_|refine pH ?_ ?_|refine pK ?_ ?_);exact rfl)|((with_reducible first|refine kR ?_ ?_ ?_|refine kT ?_ ?_ ?_|apply kG);exact rfl;exact rfl)|((with_reducible apply gZ);assumption;exact rfl;decide +kernel;exact rfl)|((with_reducible apply kA);assumption;exact rfl;decide +kernel;exact rfl;(first|exact .type _|exact .builtin _);exact rfl)|((with_reducible refine gL ?_ ?_);decide)|((with_reducible refine gK ?_ ?_ ?_);decide;exact PyProof.noPylong_small (by decide))|((with_reducible refine gM ?_ ?_);(first|exact IntMulOk.of_right (intBits_le_64 (by omega) (by omega))|exact IntMulOk.of_left (intBits_le_64 (by omega) (by omega))))|((with_reducible refine kF ?_ ?_ ?_);exact rfl;exact fun _ => rfl)|((with_reducible refine gW ?_ ?_);exact fun _ => rfl)|with_reducible refine pO ?_))
        split
        · rename_i hq3
          refine kW ?_
          refine ts_aug_name rfl rfl rfl ?_
          repeat (first|with_reducible refine kW ?_|(first|with_reducible (first|refine pB ?_|refine pF ?_|refine pA ?_|refine kX ?_|refine kY ?_|refine gH ?_|refine gG ?_|refine kD ?_|refine gY ?_|refine kJ ?_|refine gX ?_|refine kL ?_|refine kE ?_|refine kK ?_|refine kC ?_|refine kI ?_|refine kO ?_|refine kP ?_|refine kN ?_|refine pJ ?_|refine pG ?_|refine gB ?_|refine gA ?_|refine pM ?_|refine gJ ?_|refine gN ?_|refine gU ?_|refine gQ ?_|refine gO ?_|refine gV ?_|refine pN ?_)|((with_reducible refine And.intro ?_ ?_);(first|(rw [sizeLine_eq];exact of_decide_eq_true rfl)|omega))|((with_reducible first|refine kZ ?_ ?_|refine kQ ?_ ?_|refine kS ?_ ?_|refine kB ?_ ?_|refine kM ?_ ?_|refine pH ?_ ?_|refine pK ?_ ?_);exact rfl)|((with_reducible first|refine kR ?_ ?_ ?_|refine kT ?_ ?_ ?_|apply kG);exact rfl;exact rfl)|((with_reducible apply gZ);assumption;exact rfl;decide +kernel;exact rfl)|((with_reducible apply kA);assumption;exact rfl;decide +kernel;exact rfl;(first|exact .type _|exact .builtin _);exact rfl)|((with_reducible refine gL ?_ ?_);decide)|((with_reducible refine gK ?_ ?_ ?_);decide;exact PyProof.noPylong_small (by decide))|((with_reducible refine gM ?_ ?_);(first|exact IntMulOk.of_right (intBits_le_64 (by omega) (by omega))|exact IntMulOk.of_left (intBits_le_64 (by omega) (by omega))))|((with_reducible refine kF ?_ ?_ ?_);exact rfl;exact fun _ => rfl)|((with_reducible refine gW ?_ ?_);exact fun _ => rfl)|with_reducible refine pO ?_))
          refine tinp_addL ((((hT2.snoc _).snoc _).snoc _).snoc _).r.g (get_snoc _ _) (by simp; (first|lia|omega)) ?_
          obtain ⟨is', hT3⟩ := hT2.three [-((s1.tot : Int) + 1), a] [-((s1.tot : Int) + 1), b] [(s1.tot : Int) + 1, -a, -b] rfl
          repeat (first|with_reducible refine kW ?_|(first|with_reducible (first|refine pB ?_|refine pF ?_|refine pA ?_|refine kX ?_|refine kY ?_|refine gH ?_|refine gG ?_|refine kD ?_|refine gY ?_|refine kJ ?_|refine gX ?_|refine kL ?_|refine kE ?_|refine kK ?_|refine kC ?_|refine kI ?_|refine kO ?_|refine kP ?_|refine kN ?_|refine pJ ?_|refine pG ?_|refine gB ?_|refine gA ?_|refine pM ?_|refine gJ ?_|refine gN ?_|refine gU ?_|refine gQ ?_|refine gO ?_|refine gV ?_|refine pN ?_)|((with_reducible refine And.intro ?_ ?_);(first|(rw [sizeLine_eq];exact of_decide_eq_true rfl)|omega))|((with_reducible first|refine kZ ?_ ?_|refine kQ ?_ ?_|refine kS ?_ ?_|refine kB ?_ ?_|refine kM ?_ ?_|refine pH ?_ ?_|refine pK ?_ ?_);exact rfl)|((with_reducible first|refine kR ?_ ?_ ?_|refine kT ?_ ?_ ?_|apply kG);exact rfl;exact rfl)|((with_reducible apply gZ);assumption;exact rfl;decide +kernel;exact rfl)|((with_reducible apply kA);assumption;exact rfl;decide +kernel;exact rfl;(first|exact .type _|exact .builtin _);exact rfl)|((with_reducible refine gL ?_ ?_);decide)|((with_reducible refine gK ?_ ?_ ?_);decide;exact PyProof.noPylong_small (by decide))|((with_reducible refine gM ?_ ?_);(first|exact IntMulOk.of_right (intBits_le_64 (by omega) (by omega))|exact IntMulOk.of_left (intBits_le_64 (by omega) (by omega))))|((with_reducible refine kF ?_ ?_ ?_);exact rfl;exact fun _ => rfl)|((with_reducible refine gW ?_ ?_);exact fun _ => rfl)|with_reducible refine pO ?_))
          exact ⟨is', st0, rfl, rfl, by simp, by (first|lia|omega), by (repeat (first | exact LE.nil | refine LE.cons (by exact rfl) ?_)), hT3⟩
        · rename_i hq3
          refine kW ?_
          refine ts_aug_name rfl rfl rfl ?_
          repeat (first|with_reducible refine kW ?_|(first|with_reducible (first|refine pB ?_|refine pF ?_|refine pA ?_|refine kX ?_|refine kY ?_|refine gH ?_|refine gG ?_|refine kD ?_|refine gY ?_|refine kJ ?_|refine gX ?_|refine kL ?_|refine kE ?_|refine kK ?_|refine kC ?_|refine kI ?_|refine kO ?_|refine kP ?_|refine kN ?_|refine pJ ?_|refine pG ?_|refine gB ?_|refine gA ?_|refine pM ?_|refine gJ ?_|refine gN ?_|refine gU ?_|refine gQ ?_|refine gO ?_|refine gV ?_|refine pN ?_)|((with_reducible refine And.intro ?_ ?_);(first|(rw [sizeLine_eq];exact of_decide_eq_true rfl)|omega))|((with_reducible first|refine kZ ?_ ?_|refine kQ ?_ ?_|refine kS ?_ ?_|refine kB ?_ ?_|refine kM ?_ ?_|refine pH ?_ ?_|refine pK ?_ ?_);exact rfl)|((with_reducible first|refine kR ?_ ?_ ?_|refine kT ?_ ?_ ?_|apply kG);exact rfl;exact rfl)|((with_reducible apply gZ);assumption;exact rfl;decide +kernel;exact rfl)|((with_reducible apply kA);assumption;exact rfl;decide +kernel;exact rfl;(first|exact .type _|exact .builtin _);exact rfl)|((with_reducible refine gL ?_ ?_);decide)|((with_reducible refine gK ?_ ?_ ?_);decide;exact PyProof.noPylong_small (by decide))|((with_reducible refine gM ?_ ?_);(first|exact IntMulOk.of_right (intBits_le_64 (by omega) (by omega))|exact IntMulOk.of_left (intBits_le_64 (by omega) (by omega))))|((with_reducible refine kF ?_ ?_ ?_);exact rfl;exact fun _ => rfl)|((with_reducible refine gW ?_ ?_);exact fun _ => rfl)|with_reducible refine pO ?_))
          refine tinp_addL ((((hT2.snoc _).snoc _).snoc _).snoc _).r.g (get_snoc _ _) (by simp; (first|lia|omega)) ?_
          obtain ⟨is', hT3⟩ := hT2.three [(s1.tot : Int) + 1, -a] [(s1.tot : Int) + 1, -b] [-((s1.tot : Int) + 1), a, b] rfl
          repeat (first|with_reducible refine kW ?_|(first|with_reducible (first|refine pB ?_|refine pF ?_|refine pA ?_|refine kX ?_|refine kY ?_|refine gH ?_|refine gG ?_|refine kD ?_|refine gY ?_|refine kJ ?_|refine gX ?_|refine kL ?_|refine kE ?_|refine kK ?_|refine kC ?_|refine kI ?_|refine kO ?_|refine kP ?_|refine kN ?_|refine pJ ?_|refine pG ?_|refine gB ?_|refine gA ?_|refine pM ?_|refine gJ ?_|refine gN ?_|refine gU ?_|refine gQ ?_|refine gO ?_|refine gV ?_|refine pN ?_)|((with_reducible refine And.intro ?_ ?_);(first|(rw [sizeLine_eq];exact of_decide_eq_true rfl)|omega))|((with_reducible first|refine kZ ?_ ?_|refine kQ ?_ ?_|refine kS ?_ ?_|refine kB ?_ ?_|refine kM ?_ ?_|refine pH ?_ ?_|refine pK ?_ ?_);exact rfl)|((with_reducible first|refine kR ?_ ?_ ?_|refine kT ?_ ?_ ?_|apply kG);exact rfl;exact rfl)|((with_reducible apply gZ);assumption;exact rfl;decide +kernel;exact rfl)|((with_reducible apply kA);assumption;exact rfl;decide +kernel;exact rfl;(first|exact .type _|exact .builtin _);exact rfl)|((with_reducible refine gL ?_ ?_);decide)|((with_reducible refine gK ?_ ?_ ?_);decide;exact PyProof.noPylong_small (by decide))|((with_reducible refine gM ?_ ?_);(first|exact IntMulOk.of_right (intBits_le_64 (by omega) (by omega))|exact IntMulOk.of_left (intBits_le_64 (by omega) (by omega))))|((with_reducible refine kF ?_ ?_ ?_);exact rfl;exact fun _ => rfl)|((with_reducible refine gW ?_ ?_);exact fun _ => rfl)|with_reducible refine pO ?_))
          exact ⟨is', st0, rfl, rfl, by simp, by (first|lia|omega), by (repeat (first | exact LE.nil | refine LE.cons (by exact rfl) ?_)), hT3⟩
    rintro m3 σ3 ⟨isc2, st0, ht2, hs2, hc2, hl2, le3, hT3⟩
    refine TX.forget le3 ?_
    repeat (first|with_reducible refine kW ?_|(first|with_reducible (first|refine pB ?_|refine pF ?_|refine pA ?_|refine kX ?_|refine kY ?_|refine gH ?_|refine gG ?_|refine kD ?_|refine gY ?_|refine kJ ?_|refine gX ?_|refine kL ?_|refine kE ?_|refine kK ?_|refine kC ?_|refine kI ?_|refine kO ?_|refine kP ?_|refine kN ?_|refine pJ ?_|refine pG ?_|refine gB ?_|refine gA ?_|refine pM ?_|refine gJ ?_|refine gN ?_|refine gU ?_|refine gQ ?_|refine gO ?_|refine gV ?_|refine pN ?_)|((with_reducible refine And.intro ?_ ?_);(first|(rw [sizeLine_eq];exact of_decide_eq_true rfl)|omega))|((with_reducible first|refine kZ ?_ ?_|refine kQ ?_ ?_|refine kS ?_ ?_|refine kB ?_ ?_|refine kM ?_ ?_|refine pH ?_ ?_|refine pK ?_ ?_);exact rfl)|((with_reducible first|refine kR ?_ ?_ ?_|refine kT ?_ ?_ ?_|apply kG);exact rfl;exact rfl)|((with_reducible apply gZ);assumption;exact rfl;decide +kernel;exact rfl)|((with_reducible apply kA);assumption;exact rfl;decide +kernel;exact rfl;(first|exact .type _|exact .builtin _);exact rfl)|((with_reducible refine gL ?_ ?_);decide)|((with_reducible refine gK ?_ ?_ ?_);decide;exact PyProof.noPylong_small (by decide))|((with_reducible refine gM ?_ ?_);(first|exact IntMulOk.of_right (intBits_le_64 (by omega) (by omega))|exact IntMulOk.of_left (intBits_le_64 (by omega) (by omega))))|((with_reducible refine kF ?_ ?_ ?_);exact rfl;exact fun _ => rfl)|((with_reducible refine gW ?_ ?_);exact fun _ => rfl)|with_reducible refine pO ?_))
    refine tmeth_append hT3.s ?_
    repeat (first|with_reducible refine kW ?_|(first|with_reducible (first|refine pB ?_|refine pF ?_|refine pA ?_|refine kX ?_|refine kY ?_|refine gH ?_|refine gG ?_|refine kD ?_|refine gY ?_|refine kJ ?_|refine gX ?_|refine kL ?_|refine kE ?_|refine kK ?_|refine kC ?_|refine kI ?_|refine kO ?_|refine kP ?_|refine kN ?_|refine pJ ?_|refine pG ?_|refine gB ?_|refine gA ?_|refine pM ?_|refine gJ ?_|refine gN ?_|refine gU ?_|refine gQ ?_|refine gO ?_|refine gV ?_|refine pN ?_)|((with_reducible refine And.intro ?_ ?_);(first|(rw [sizeLine_eq];exact of_decide_eq_true rfl)|omega))|((with_reducible first|refine kZ ?_ ?_|refine kQ ?_ ?_|refine kS ?_ ?_|refine kB ?_ ?_|refine kM ?_ ?_|refine pH ?_ ?_|refine pK ?_ ?_);exact rfl)|((with_reducible first|refine kR ?_ ?_ ?_|refine kT ?_ ?_ ?_|apply kG);exact rfl;exact rfl)|((with_reducible apply gZ);assumption;exact rfl;decide +kernel;exact rfl)|((with_reducible apply kA);assumption;exact rfl;decide +kernel;exact rfl;(first|exact .type _|exact .builtin _);exact rfl)|((with_reducible refine gL ?_ ?_);decide)|((with_reducible refine gK ?_ ?_ ?_);decide;exact PyProof.noPylong_small (by decide))|((with_reducible refine gM ?_ ?_);(first|exact IntMulOk.of_right (intBits_le_64 (by omega) (by omega))|exact IntMulOk.of_left (intBits_le_64 (by omega) (by omega))))|((with_reducible refine kF ?_ ?_ ?_);exact rfl;exact fun _ => rfl)|((with_reducible refine gW ?_ ?_);exact fun _ => rfl)|with_reducible refine pO ?_))
    refine tcall_append hT3.s (by rw [sizeLine_eq]; simp; (first|lia|omega)) ?_
    repeat (first|with_reducible refine kW ?_|(first|with_reducible (first|refine pB ?_|refine pF ?_|refine pA ?_|refine kX ?_|refine kY ?_|refine gH ?_|refine gG ?_|refine kD ?_|refine gY ?_|refine kJ ?_|refine gX ?_|refine kL ?_|refine kE ?_|refine kK ?_|refine kC ?_|refine kI ?_|refine kO ?_|refine kP ?_|refine kN ?_|refine pJ ?_|refine pG ?_|refine gB ?_|refine gA ?_|refine pM ?_|refine gJ ?_|refine gN ?_|refine gU ?_|refine gQ ?_|refine gO ?_|refine gV ?_|refine pN ?_)|((with_reducible refine And.intro ?_ ?_);(first|(rw [sizeLine_eq];exact of_decide_eq_true rfl)|omega))|((with_reducible first|refine kZ ?_ ?_|refine kQ ?_ ?_|refine kS ?_ ?_|refine kB ?_ ?_|refine kM ?_ ?_|refine pH ?_ ?_|refine pK ?_ ?_);exact rfl)|((with_reducible first|refine kR ?_ ?_ ?_|refine kT ?_ ?_ ?_|apply kG);exact rfl;exact rfl)|((with_reducible apply gZ);assumption;exact rfl;decide +kernel;exact rfl)|((with_reducible apply kA);assumption;exact rfl;decide +kernel;exact rfl;(first|exact .type _|exact .builtin _);exact rfl)|((with_reducible refine gL ?_ ?_);decide)|((with_reducible refine gK ?_ ?_ ?_);decide;exact PyProof.noPylong_small (by decide))|((with_reducible refine gM ?_ ?_);(first|exact IntMulOk.of_right (intBits_le_64 (by omega) (by omega))|exact IntMulOk.of_left (intBits_le_64 (by omega) (by omega))))|((with_reducible refine kF ?_ ?_ ?_);exact rfl;exact fun _ => rfl)|((with_reducible refine gW ?_ ?_);exact fun _ => rfl)|with_reducible refine pO ?_))
    refine ⟨s2, isc2, ?_, hT3.stack (by rw [hs2]; simp), e2, by rw [hs2]; simp; (first|lia|omega), by (first|lia|omega)⟩
    rw [ht2]
    (repeat (first | exact LE.nil | refine LE.cons (by exact rfl) ?_))
  · rintro m' σ1 ⟨s1, isc, le, hT, hrun, hsl, hcl⟩
    rw [List.length_map, hx.r.length, List.drop_length] at hrun
    cases hrun
    have hst := hT.s
    rw [hroot] at hst
    refine TX.forget le ?_
    repeat (first|with_reducible refine kW ?_|(first|with_reducible (first|refine pB ?_|refine pF ?_|refine pA ?_|refine kX ?_|refine kY ?_|refine gH ?_|refine gG ?_|refine kD ?_|refine gY ?_|refine kJ ?_|refine gX ?_|refine kL ?_|refine kE ?_|refine kK ?_|refine kC ?_|refine kI ?_|refine kO ?_|refine kP ?_|refine kN ?_|refine pJ ?_|refine pG ?_|refine gB ?_|refine gA ?_|refine pM ?_|refine gJ ?_|refine gN ?_|refine gU ?_|refine gQ ?_|refine gO ?_|refine gV ?_|refine pN ?_)|((with_reducible refine And.intro ?_ ?_);(first|(rw [sizeLine_eq];exact of_decide_eq_true rfl)|omega))|((with_reducible first|refine kZ ?_ ?_|refine kQ ?_ ?_|refine kS ?_ ?_|refine kB ?_ ?_|refine kM ?_ ?_|refine pH ?_ ?_|refine pK ?_ ?_);exact rfl)|((with_reducible first|refine kR ?_ ?_ ?_|refine kT ?_ ?_ ?_|apply kG);exact rfl;exact rfl)|((with_reducible apply gZ);assumption;exact rfl;decide +kernel;exact rfl)|((with_reducible apply kA);assumption;exact rfl;decide +kernel;exact rfl;(first|exact .type _|exact .builtin _);exact rfl)|((with_reducible refine gL ?_ ?_);decide)|((with_reducible refine gK ?_ ?_ ?_);decide;exact PyProof.noPylong_small (by decide))|((with_reducible refine gM ?_ ?_);(first|exact IntMulOk.of_right (intBits_le_64 (by omega) (by omega))|exact IntMulOk.of_left (intBits_le_64 (by omega) (by omega))))|((with_reducible refine kF ?_ ?_ ?_);exact rfl;exact fun _ => rfl)|((with_reducible refine gW ?_ ?_);exact fun _ => rfl)|with_reducible refine pO ?_))
    refine tidx_list rfl hst (j := 0) (x := .int root) rfl rfl (by decide) ?_
    repeat (first|with_reducible refine kW ?_|(first|with_reducible (first|refine pB ?_|refine pF ?_|refine pA ?_|refine kX ?_|refine kY ?_|refine gH ?_|refine gG ?_|refine kD ?_|refine gY ?_|refine kJ ?_|refine gX ?_|refine kL ?_|refine kE ?_|refine kK ?_|refine kC ?_|refine kI ?_|refine kO ?_|refine kP ?_|refine kN ?_|refine pJ ?_|refine pG ?_|refine gB ?_|refine gA ?_|refine pM ?_|refine gJ ?_|refine gN ?_|refine gU ?_|refine gQ ?_|refine gO ?_|refine gV ?_|refine pN ?_)|((with_reducible refine And.intro ?_ ?_);(first|(rw [sizeLine_eq];exact of_decide_eq_true rfl)|omega))|((with_reducible first|refine kZ ?_ ?_|refine kQ ?_ ?_|refine kS ?_ ?_|refine kB ?_ ?_|refine kM ?_ ?_|refine pH ?_ ?_|refine pK ?_ ?_);exact rfl)|((with_reducible first|refine kR ?_ ?_ ?_|refine kT ?_ ?_ ?_|apply kG);exact rfl;exact rfl)|((with_reducible apply gZ);assumption;exact rfl;decide +kernel;exact rfl)|((with_reducible apply kA);assumption;exact rfl;decide +kernel;exact rfl;(first|exact .type _|exact .builtin _);exact rfl)|((with_reducible refine gL ?_ ?_);decide)|((with_reducible refine gK ?_ ?_ ?_);decide;exact PyProof.noPylong_small (by decide))|((with_reducible refine gM ?_ ?_);(first|exact IntMulOk.of_right (intBits_le_64 (by omega) (by omega))|exact IntMulOk.of_left (intBits_le_64 (by omega) (by omega))))|((with_reducible refine kF ?_ ?_ ?_);exact rfl;exact fun _ => rfl)|((with_reducible refine gW ?_ ?_);exact fun _ => rfl)|with_reducible refine pO ?_))
    exact h _ _ _ isc (hT.sub.trans (Sub.snoc _ _)) (get_snoc _ _) (hT.r.sub (Sub.snoc _ _))
theorem oper_spec {W : Wd} {f : Addr} (F : FnIs W f ["c"] (fnBody pw 13) (fnScope pw 13)) {lv : Nat} {c : Int} {σ : AH} {Q : AV → AH → Prop} (h : ∀ o, (o = Op.and ∨ o = Op.or) → Q (.ref σ.length) (σ ++ [.tuple [.str (opK o), .int (opV o)]])) : TCode W (lv + 1) (.stat (.ref f)) [.int c] Q σ := by
  refine code_fn F rfl ?_
  refine kW ?_
  repeat (first|with_reducible refine kW ?_|(first|with_reducible (first|refine pB ?_|refine pF ?_|refine pA ?_|refine kX ?_|refine kY ?_|refine gH ?_|refine gG ?_|refine kD ?_|refine gY ?_|refine kJ ?_|refine gX ?_|refine kL ?_|refine kE ?_|refine kK ?_|refine kC ?_|refine kI ?_|refine kO ?_|refine kP ?_|refine kN ?_|refine pJ ?_|refine pG ?_|refine gB ?_|refine gA ?_|refine pM ?_|refine gJ ?_|refine gN ?_|refine gU ?_|refine gQ ?_|refine gO ?_|refine gV ?_|refine pN ?_)|((with_reducible refine And.intro ?_ ?_);(first|(rw [sizeLine_eq];exact of_decide_eq_true rfl)|omega))|((with_reducible first|refine kZ ?_ ?_|refine kQ ?_ ?_|refine kS ?_ ?_|refine kB ?_ ?_|refine kM ?_ ?_|refine pH ?_ ?_|refine pK ?_ ?_);exact rfl)|((with_reducible first|refine kR ?_ ?_ ?_|refine kT ?_ ?_ ?_|apply kG);exact rfl;exact rfl)|((with_reducible apply gZ);assumption;exact rfl;decide +kernel;exact rfl)|((with_reducible apply kA);assumption;exact rfl;decide +kernel;exact rfl;(first|exact .type _|exact .builtin _);exact rfl)|((with_reducible refine gL ?_ ?_);decide)|((with_reducible refine gK ?_ ?_ ?_);decide;exact PyProof.noPylong_small (by decide))|((with_reducible refine gM ?_ ?_);(first|exact IntMulOk.of_right (intBits_le_64 (by omega) (by omega))|exact IntMulOk.of_left (intBits_le_64 (by omega) (by omega))))|((with_reducible refine kF ?_ ?_ ?_);exact rfl;exact fun _ => rfl)|((with_reducible refine gW ?_ ?_);exact fun _ => rfl)|with_reducible refine pO ?_))
  split
  · repeat (first|with_reducible refine kW ?_|(first|with_reducible (first|refine pB ?_|refine pF ?_|refine pA ?_|refine kX ?_|refine kY ?_|refine gH ?_|refine gG ?_|refine kD ?_|refine gY ?_|refine kJ ?_|refine gX ?_|refine kL ?_|refine kE ?_|refine kK ?_|refine kC ?_|refine kI ?_|refine kO ?_|refine kP ?_|refine kN ?_|refine pJ ?_|refine pG ?_|refine gB ?_|refine gA ?_|refine pM ?_|refine gJ ?_|refine gN ?_|refine gU ?_|refine gQ ?_|refine gO ?_|refine gV ?_|refine pN ?_)|((with_reducible refine And.intro ?_ ?_);(first|(rw [sizeLine_eq];exact of_decide_eq_true rfl)|omega))|((with_reducible first|refine kZ ?_ ?_|refine kQ ?_ ?_|refine kS ?_ ?_|refine kB ?_ ?_|refine kM ?_ ?_|refine pH ?_ ?_|refine pK ?_ ?_);exact rfl)|((with_reducible first|refine kR ?_ ?_ ?_|refine kT ?_ ?_ ?_|apply kG);exact rfl;exact rfl)|((with_reducible apply gZ);assumption;exact rfl;decide +kernel;exact rfl)|((with_reducible apply kA);assumption;exact rfl;decide +kernel;exact rfl;(first|exact .type _|exact .builtin _);exact rfl)|((with_reducible refine gL ?_ ?_);decide)|((with_reducible refine gK ?_ ?_ ?_);decide;exact PyProof.noPylong_small (by decide))|((with_reducible refine gM ?_ ?_);(first|exact IntMulOk.of_right (intBits_le_64 (by omega) (by omega))|exact IntMulOk.of_left (intBits_le_64 (by omega) (by omega))))|((with_reducible refine kF ?_ ?_ ?_);exact rfl;exact fun _ => rfl)|((with_reducible refine gW ?_ ?_);exact fun _ => rfl)|with_reducible refine pO ?_))
    exact h .and (.inl rfl)
  · repeat (first|with_reducible refine kW ?_|(first|with_reducible (first|refine pB ?_|refine pF ?_|refine pA ?_|refine kX ?_|refine kY ?_|refine gH ?_|refine gG ?_|refine kD ?_|refine gY ?_|refine kJ ?_|refine gX ?_|refine kL ?_|refine kE ?_|refine kK ?_|refine kC ?_|refine kI ?_|refine kO ?_|refine kP ?_|refine kN ?_|refine pJ ?_|refine pG ?_|refine gB ?_|refine gA ?_|refine pM ?_|refine gJ ?_|refine gN ?_|refine gU ?_|refine gQ ?_|refine gO ?_|refine gV ?_|refine pN ?_)|((with_reducible refine And.intro ?_ ?_);(first|(rw [sizeLine_eq];exact of_decide_eq_true rfl)|omega))|((with_reducible first|refine kZ ?_ ?_|refine kQ ?_ ?_|refine kS ?_ ?_|refine kB ?_ ?_|refine kM ?_ ?_|refine pH ?_ ?_|refine pK ?_ ?_);exact rfl)|((with_reducible first|refine kR ?_ ?_ ?_|refine kT ?_ ?_ ?_|apply kG);exact rfl;exact rfl)|((with_reducible apply gZ);assumption;exact rfl;decide +kernel;exact rfl)|((with_reducible apply kA);assumption;exact rfl;decide +kernel;exact rfl;(first|exact .type _|exact .builtin _);exact rfl)|((with_reducible refine gL ?_ ?_);decide)|((with_reducible refine gK ?_ ?_ ?_);decide;exact PyProof.noPylong_small (by decide))|((with_reducible refine gM ?_ ?_);(first|exact IntMulOk.of_right (intBits_le_64 (by omega) (by omega))|exact IntMulOk.of_left (intBits_le_64 (by omega) (by omega))))|((with_reducible refine kF ?_ ?_ ?_);exact rfl;exact fun _ => rfl)|((with_reducible refine gW ?_ ?_);exact fun _ => rfl)|with_reducible refine pO ?_))
    exact h .or (.inr rfl)
theorem h_bin {n k : Nat} {o : Op} (h : o = Op.and ∨ o = Op.or) (hk : 2 ≤ k) : hStep n o k = some (k - 1) := by
  rcases h with rfl | rfl <;> exact if_pos hk
theorem expr_spec {W : Wd} {f fc fo : Addr} (F : FnIs W f ["script", "n"] (fnBody pw 14) (fnScope pw 14)) (Fc : FnIs W fc ["script", "i"] (fnBody pw 12) (fnScope pw 12)) (Fo : FnIs W fo ["c"] (fnBody pw 13) (fnScope pw 13)) (gc : W.mg "_law_cell" = some (.ref fc)) (go : W.mg "_law_operator" = some (.ref fo)) (hlen : W.mg "len" = none) (hr : W.mg "range" = none) {lv n : Nat} {ns : List Int} {σ : AH} {Q : AV → AH → Prop} (hs : σ[0]? = some (.ints ns)) (hz : ns.length < 2 ^ 62) (hn : 1 ≤ n ∧ n ≤ 3)
    (h : ∀ σ' l is es, Sub σ σ' → ExprP σ' l is es → hRun n es 0 = some 1 → es.length ≤ 9 → Q (.ref l) σ') :
    TCode W (lv + 2) (.stat (.ref f)) [.ref 0, .int n] Q σ := by
  refine code_fn F rfl ?_
  refine kW ?_
  repeat (first|with_reducible refine kW ?_|(first|with_reducible (first|refine pB ?_|refine pF ?_|refine pA ?_|refine kX ?_|refine kY ?_|refine gH ?_|refine gG ?_|refine kD ?_|refine gY ?_|refine kJ ?_|refine gX ?_|refine kL ?_|refine kE ?_|refine kK ?_|refine kC ?_|refine kI ?_|refine kO ?_|refine kP ?_|refine kN ?_|refine pJ ?_|refine pG ?_|refine gB ?_|refine gA ?_|refine pM ?_|refine gJ ?_|refine gN ?_|refine gU ?_|refine gQ ?_|refine gO ?_|refine gV ?_|refine pN ?_)|((with_reducible refine And.intro ?_ ?_);(first|(rw [sizeLine_eq];exact of_decide_eq_true rfl)|omega))|((with_reducible first|refine kZ ?_ ?_|refine kQ ?_ ?_|refine kS ?_ ?_|refine kB ?_ ?_|refine kM ?_ ?_|refine pH ?_ ?_|refine pK ?_ ?_);exact rfl)|((with_reducible first|refine kR ?_ ?_ ?_|refine kT ?_ ?_ ?_|apply kG);exact rfl;exact rfl)|((with_reducible apply gZ);assumption;exact rfl;decide +kernel;exact rfl)|((with_reducible apply kA);assumption;exact rfl;decide +kernel;exact rfl;(first|exact .type _|exact .builtin _);exact rfl)|((with_reducible refine gL ?_ ?_);decide)|((with_reducible refine gK ?_ ?_ ?_);decide;exact PyProof.noPylong_small (by decide))|((with_reducible refine gM ?_ ?_);(first|exact IntMulOk.of_right (intBits_le_64 (by omega) (by omega))|exact IntMulOk.of_left (intBits_le_64 (by omega) (by omega))))|((with_reducible refine kF ?_ ?_ ?_);exact rfl;exact fun _ => rfl)|((with_reducible refine gW ?_ ?_);exact fun _ => rfl)|with_reducible refine pO ?_))
  refine te_callG gc rfl Fc.keeps rfl ?_
  repeat (first|with_reducible refine kW ?_|(first|with_reducible (first|refine pB ?_|refine pF ?_|refine pA ?_|refine kX ?_|refine kY ?_|refine gH ?_|refine gG ?_|refine kD ?_|refine gY ?_|refine kJ ?_|refine gX ?_|refine kL ?_|refine kE ?_|refine kK ?_|refine kC ?_|refine kI ?_|refine kO ?_|refine kP ?_|refine kN ?_|refine pJ ?_|refine pG ?_|refine gB ?_|refine gA ?_|refine pM ?_|refine gJ ?_|refine gN ?_|refine gU ?_|refine gQ ?_|refine gO ?_|refine gV ?_|refine pN ?_)|((with_reducible refine And.intro ?_ ?_);(first|(rw [sizeLine_eq];exact of_decide_eq_true rfl)|omega))|((with_reducible first|refine kZ ?_ ?_|refine kQ ?_ ?_|refine kS ?_ ?_|refine kB ?_ ?_|refine kM ?_ ?_|refine pH ?_ ?_|refine pK ?_ ?_);exact rfl)|((with_reducible first|refine kR ?_ ?_ ?_|refine kT ?_ ?_ ?_|apply kG);exact rfl;exact rfl)|((with_reducible apply gZ);assumption;exact rfl;decide +kernel;exact rfl)|((with_reducible apply kA);assumption;exact rfl;decide +kernel;exact rfl;(first|exact .type _|exact .builtin _);exact rfl)|((with_reducible refine gL ?_ ?_);decide)|((with_reducible refine gK ?_ ?_ ?_);decide;exact PyProof.noPylong_small (by decide))|((with_reducible refine gM ?_ ?_);(first|exact IntMulOk.of_right (intBits_le_64 (by omega) (by omega))|exact IntMulOk.of_left (intBits_le_64 (by omega) (by omega))))|((with_reducible refine kF ?_ ?_ ?_);exact rfl;exact fun _ => rfl)|((with_reducible refine gW ?_ ?_);exact fun _ => rfl)|with_reducible refine pO ?_))
  refine (cell_spec Fc hlen (i := 2) rfl hs hz ?_).call
  repeat (first|with_reducible refine kW ?_|(first|with_reducible (first|refine pB ?_|refine pF ?_|refine pA ?_|refine kX ?_|refine kY ?_|refine gH ?_|refine gG ?_|refine kD ?_|refine gY ?_|refine kJ ?_|refine gX ?_|refine kL ?_|refine kE ?_|refine kK ?_|refine kC ?_|refine kI ?_|refine kO ?_|refine kP ?_|refine kN ?_|refine pJ ?_|refine pG ?_|refine gB ?_|refine gA ?_|refine pM ?_|refine gJ ?_|refine gN ?_|refine gU ?_|refine gQ ?_|refine gO ?_|refine gV ?_|refine pN ?_)|((with_reducible refine And.intro ?_ ?_);(first|(rw [sizeLine_eq];exact of_decide_eq_true rfl)|omega))|((with_reducible first|refine kZ ?_ ?_|refine kQ ?_ ?_|refine kS ?_ ?_|refine kB ?_ ?_|refine kM ?_ ?_|refine pH ?_ ?_|refine pK ?_ ?_);exact rfl)|((with_reducible first|refine kR ?_ ?_ ?_|refine kT ?_ ?_ ?_|apply kG);exact rfl;exact rfl)|((with_reducible apply gZ);assumption;exact rfl;decide +kernel;exact rfl)|((with_reducible apply kA);assumption;exact rfl;decide +kernel;exact rfl;(first|exact .type _|exact .builtin _);exact rfl)|((with_reducible refine gL ?_ ?_);decide)|((with_reducible refine gK ?_ ?_ ?_);decide;exact PyProof.noPylong_small (by decide))|((with_reducible refine gM ?_ ?_);(first|exact IntMulOk.of_right (intBits_le_64 (by omega) (by omega))|exact IntMulOk.of_left (intBits_le_64 (by omega) (by omega))))|((with_reducible refine kF ?_ ?_ ?_);exact rfl;exact fun _ => rfl)|((with_reducible refine gW ?_ ?_);exact fun _ => rfl)|with_reducible refine pO ?_))
  refine gL (by (first|lia|omega)) ?_
  obtain ⟨v0, hv0, hv0n⟩ := fmod_nat (cellA ns 2) n (by (first|lia|omega))
  refine gJ ?_
  rw [show 1 + (cellA ns 2).fmod n = ((1 + v0 : Nat) : Int) by rw [hv0]; (first|lia|omega)]
  repeat (first|with_reducible (first|refine pB ?_|refine pF ?_|refine pA ?_|refine kX ?_|refine kY ?_|refine gH ?_|refine gG ?_|refine kD ?_|refine gY ?_|refine kJ ?_|refine gX ?_|refine kL ?_|refine kE ?_|refine kK ?_|refine kC ?_|refine kI ?_|refine kO ?_|refine kP ?_|refine kN ?_|refine pJ ?_|refine pG ?_|refine gB ?_|refine gA ?_|refine pM ?_|refine gJ ?_|refine gN ?_|refine gU ?_|refine gQ ?_|refine gO ?_|refine gV ?_|refine pN ?_)|((with_reducible refine And.intro ?_ ?_);(first|(rw [sizeLine_eq];exact of_decide_eq_true rfl)|omega))|((with_reducible first|refine kZ ?_ ?_|refine kQ ?_ ?_|refine kS ?_ ?_|refine kB ?_ ?_|refine kM ?_ ?_|refine pH ?_ ?_|refine pK ?_ ?_);exact rfl)|((with_reducible first|refine kR ?_ ?_ ?_|refine kT ?_ ?_ ?_|apply kG);exact rfl;exact rfl)|((with_reducible apply gZ);assumption;exact rfl;decide +kernel;exact rfl)|((with_reducible apply kA);assumption;exact rfl;decide +kernel;exact rfl;(first|exact .type _|exact .builtin _);exact rfl)|((with_reducible refine gL ?_ ?_);decide)|((with_reducible refine gK ?_ ?_ ?_);decide;exact PyProof.noPylong_small (by decide))|((with_reducible refine gM ?_ ?_);(first|exact IntMulOk.of_right (intBits_le_64 (by omega) (by omega))|exact IntMulOk.of_left (intBits_le_64 (by omega) (by omega))))|((with_reducible refine kF ?_ ?_ ?_);exact rfl;exact fun _ => rfl)|((with_reducible refine gW ?_ ?_);exact fun _ => rfl)|with_reducible refine pO ?_)
  have hX : ExprP (σ ++ [AO.tuple [.str "var", .int ((1 + v0 : Nat) : Int)]] ++ [.list [.ref σ.length]]) (σ ++ [AO.tuple [.str "var", .int ((1 + v0 : Nat) : Int)]]).length [σ.length] [.var (1 + v0)] := ⟨get_snoc _ _, Sub.snoc _ _ _ _ (get_snoc _ _), trivial⟩
  have sub0 : Sub σ (σ ++ [AO.tuple [.str "var", .int ((1 + v0 : Nat) : Int)]] ++ [.list [.ref σ.length]]) := by (repeat (first | exact Sub.refl _ | assumption | refine Sub.trans ?_ (Sub.snoc _ _)))
  have hlx : σ.length ≤ (σ ++ [AO.tuple [.str "var", .int ((1 + v0 : Nat) : Int)]]).length := by simp
  generalize (σ ++ [AO.tuple [AV.str "var", AV.int ((1 + v0 : Nat) : Int)]] ++ [AO.list [AV.ref σ.length]]) = σ0 at hX sub0 ⊢
  generalize (σ ++ [AO.tuple [AV.str "var", AV.int ((1 + v0 : Nat) : Int)]]).length = lx at hX hlx ⊢
  repeat (first|with_reducible refine kW ?_|(first|with_reducible (first|refine pB ?_|refine pF ?_|refine pA ?_|refine kX ?_|refine kY ?_|refine gH ?_|refine gG ?_|refine kD ?_|refine gY ?_|refine kJ ?_|refine gX ?_|refine kL ?_|refine kE ?_|refine kK ?_|refine kC ?_|refine kI ?_|refine kO ?_|refine kP ?_|refine kN ?_|refine pJ ?_|refine pG ?_|refine gB ?_|refine gA ?_|refine pM ?_|refine gJ ?_|refine gN ?_|refine gU ?_|refine gQ ?_|refine gO ?_|refine gV ?_|refine pN ?_)|((with_reducible refine And.intro ?_ ?_);(first|(rw [sizeLine_eq];exact of_decide_eq_true rfl)|omega))|((with_reducible first|refine kZ ?_ ?_|refine kQ ?_ ?_|refine kS ?_ ?_|refine kB ?_ ?_|refine kM ?_ ?_|refine pH ?_ ?_|refine pK ?_ ?_);exact rfl)|((with_reducible first|refine kR ?_ ?_ ?_|refine kT ?_ ?_ ?_|apply kG);exact rfl;exact rfl)|((with_reducible apply gZ);assumption;exact rfl;decide +kernel;exact rfl)|((with_reducible apply kA);assumption;exact rfl;decide +kernel;exact rfl;(first|exact .type _|exact .builtin _);exact rfl)|((with_reducible refine gL ?_ ?_);decide)|((with_reducible refine gK ?_ ?_ ?_);decide;exact PyProof.noPylong_small (by decide))|((with_reducible refine gM ?_ ?_);(first|exact IntMulOk.of_right (intBits_le_64 (by omega) (by omega))|exact IntMulOk.of_left (intBits_le_64 (by omega) (by omega))))|((with_reducible refine kF ?_ ?_ ?_);exact rfl;exact fun _ => rfl)|((with_reducible refine gW ?_ ?_);exact fun _ => rfl)|with_reducible refine pO ?_))
  refine ts_for_range rfl rfl ?_
  repeat (first|with_reducible refine kW ?_|(first|with_reducible (first|refine pB ?_|refine pF ?_|refine pA ?_|refine kX ?_|refine kY ?_|refine gH ?_|refine gG ?_|refine kD ?_|refine gY ?_|refine kJ ?_|refine gX ?_|refine kL ?_|refine kE ?_|refine kK ?_|refine kC ?_|refine kI ?_|refine kO ?_|refine kP ?_|refine kN ?_|refine pJ ?_|refine pG ?_|refine gB ?_|refine gA ?_|refine pM ?_|refine gJ ?_|refine gN ?_|refine gU ?_|refine gQ ?_|refine gO ?_|refine gV ?_|refine pN ?_)|((with_reducible refine And.intro ?_ ?_);(first|(rw [sizeLine_eq];exact of_decide_eq_true rfl)|omega))|((with_reducible first|refine kZ ?_ ?_|refine kQ ?_ ?_|refine kS ?_ ?_|refine kB ?_ ?_|refine kM ?_ ?_|refine pH ?_ ?_|refine pK ?_ ?_);exact rfl)|((with_reducible first|refine kR ?_ ?_ ?_|refine kT ?_ ?_ ?_|apply kG);exact rfl;exact rfl)|((with_reducible apply gZ);assumption;exact rfl;decide +kernel;exact rfl)|((with_reducible apply kA);assumption;exact rfl;decide +kernel;exact rfl;(first|exact .type _|exact .builtin _);exact rfl)|((with_reducible refine gL ?_ ?_);decide)|((with_reducible refine gK ?_ ?_ ?_);decide;exact PyProof.noPylong_small (by decide))|((with_reducible refine gM ?_ ?_);(first|exact IntMulOk.of_right (intBits_le_64 (by omega) (by omega))|exact IntMulOk.of_left (intBits_le_64 (by omega) (by omega))))|((with_reducible refine kF ?_ ?_ ?_);exact rfl;exact fun _ => rfl)|((with_reducible refine gW ?_ ?_);exact fun _ => rfl)|with_reducible refine pO ?_))
  refine te_callG gc rfl Fc.keeps rfl ?_
  repeat (first|with_reducible refine kW ?_|(first|with_reducible (first|refine pB ?_|refine pF ?_|refine pA ?_|refine kX ?_|refine kY ?_|refine gH ?_|refine gG ?_|refine kD ?_|refine gY ?_|refine kJ ?_|refine gX ?_|refine kL ?_|refine kE ?_|refine kK ?_|refine kC ?_|refine kI ?_|refine kO ?_|refine kP ?_|refine kN ?_|refine pJ ?_|refine pG ?_|refine gB ?_|refine gA ?_|refine pM ?_|refine gJ ?_|refine gN ?_|refine gU ?_|refine gQ ?_|refine gO ?_|refine gV ?_|refine pN ?_)|((with_reducible refine And.intro ?_ ?_);(first|(rw [sizeLine_eq];exact of_decide_eq_true rfl)|omega))|((with_reducible first|refine kZ ?_ ?_|refine kQ ?_ ?_|refine kS ?_ ?_|refine kB ?_ ?_|refine kM ?_ ?_|refine pH ?_ ?_|refine pK ?_ ?_);exact rfl)|((with_reducible first|refine kR ?_ ?_ ?_|refine kT ?_ ?_ ?_|apply kG);exact rfl;exact rfl)|((with_reducible apply gZ);assumption;exact rfl;decide +kernel;exact rfl)|((with_reducible apply kA);assumption;exact rfl;decide +kernel;exact rfl;(first|exact .type _|exact .builtin _);exact rfl)|((with_reducible refine gL ?_ ?_);decide)|((with_reducible refine gK ?_ ?_ ?_);decide;exact PyProof.noPylong_small (by decide))|((with_reducible refine gM ?_ ?_);(first|exact IntMulOk.of_right (intBits_le_64 (by omega) (by omega))|exact IntMulOk.of_left (intBits_le_64 (by omega) (by omega))))|((with_reducible refine kF ?_ ?_ ?_);exact rfl;exact fun _ => rfl)|((with_reducible refine gW ?_ ?_);exact fun _ => rfl)|with_reducible refine pO ?_))
  refine (cell_spec Fc hlen (i := 3) rfl (sub0 _ _ hs) hz ?_).call
  obtain ⟨ct, hct, hct5⟩ := fmod_nat (cellA ns 3) 5 (by decide)
  repeat (first|with_reducible refine kW ?_|(first|with_reducible (first|refine pB ?_|refine pF ?_|refine pA ?_|refine kX ?_|refine kY ?_|refine gH ?_|refine gG ?_|refine kD ?_|refine gY ?_|refine kJ ?_|refine gX ?_|refine kL ?_|refine kE ?_|refine kK ?_|refine kC ?_|refine kI ?_|refine kO ?_|refine kP ?_|refine kN ?_|refine pJ ?_|refine pG ?_|refine gB ?_|refine gA ?_|refine pM ?_|refine gJ ?_|refine gN ?_|refine gU ?_|refine gQ ?_|refine gO ?_|refine gV ?_|refine pN ?_)|((with_reducible refine And.intro ?_ ?_);(first|(rw [sizeLine_eq];exact of_decide_eq_true rfl)|omega))|((with_reducible first|refine kZ ?_ ?_|refine kQ ?_ ?_|refine kS ?_ ?_|refine kB ?_ ?_|refine kM ?_ ?_|refine pH ?_ ?_|refine pK ?_ ?_);exact rfl)|((with_reducible first|refine kR ?_ ?_ ?_|refine kT ?_ ?_ ?_|apply kG);exact rfl;exact rfl)|((with_reducible apply gZ);assumption;exact rfl;decide +kernel;exact rfl)|((with_reducible apply kA);assumption;exact rfl;decide +kernel;exact rfl;(first|exact .type _|exact .builtin _);exact rfl)|((with_reducible refine gL ?_ ?_);decide)|((with_reducible refine gK ?_ ?_ ?_);decide;exact PyProof.noPylong_small (by decide))|((with_reducible refine gM ?_ ?_);(first|exact IntMulOk.of_right (intBits_le_64 (by omega) (by omega))|exact IntMulOk.of_left (intBits_le_64 (by omega) (by omega))))|((with_reducible refine kF ?_ ?_ ?_);exact rfl;exact fun _ => rfl)|((with_reducible refine gW ?_ ?_);exact fun _ => rfl)|with_reducible refine pO ?_))
  rw [show (cellA ns 3).fmod 5 = (ct : Int) from hct]
  refine tcall_range1 ?_
  refine ⟨_, 0, (ct : Int), 1, ct, fun i m' σ' => ∃ (is : List Nat) (es : List Op) (hg : Nat), LE [("script", .ref 0), ("n", .int n), ("expr", .ref lx), ("height", .int hg)] m' ∧ Sub σ σ' ∧ ExprP σ' lx is es ∧ hRun n es 0 = some hg ∧ 1 ≤ hg ∧ hg ≤ i + 1 ∧ es.length = i + 1, rfl, by simp, range_up (by (first|lia|omega)), ⟨[σ.length], [.var (1 + v0)], 1, by (repeat (first | exact LE.nil | refine LE.cons (by exact rfl) ?_)), sub0.trans (Sub.snoc _ _), hX.sub (Sub.snoc _ _), ?_, by (first|lia|omega), by (first|lia|omega), rfl⟩, ?_, ?_⟩
  · show (hStep n (.var (1 + v0)) 0).bind (hRun n []) = some 1
    rw [show hStep n (.var (1 + v0)) 0 = some 1 from if_pos (by (first|lia|omega))]; rfl
  · rintro i m' σ1 hi ⟨is, es, hg, le, sub1, hE, hrun, hg1, hg2, hel⟩
    have hisl := hE.r.length
    have fin : ∀ (σ2 : AH) (o : Op) (t : Nat), Sub σ σ2 → OpAt σ2 t o → ExprP σ2 lx is es → Sub σ (σ2.set lx (.list (is.map .ref ++ [.ref t]))) ∧ ExprP (σ2.set lx (.list (is.map .ref ++ [.ref t]))) lx (is ++ [t]) (es ++ [o]) := fun σ2 o t s2 ho hE2 => ⟨fun j q e => get_ne (by have := lt_of_get e; (first|lia|omega)) (s2 j q e), hE2.push ho⟩
    refine TA.forget le (ta_name rfl ?_)
    repeat (first|with_reducible refine kW ?_|(first|with_reducible (first|refine pB ?_|refine pF ?_|refine pA ?_|refine kX ?_|refine kY ?_|refine gH ?_|refine gG ?_|refine kD ?_|refine gY ?_|refine kJ ?_|refine gX ?_|refine kL ?_|refine kE ?_|refine kK ?_|refine kC ?_|refine kI ?_|refine kO ?_|refine kP ?_|refine kN ?_|refine pJ ?_|refine pG ?_|refine gB ?_|refine gA ?_|refine pM ?_|refine gJ ?_|refine gN ?_|refine gU ?_|refine gQ ?_|refine gO ?_|refine gV ?_|refine pN ?_)|((with_reducible refine And.intro ?_ ?_);(first|(rw [sizeLine_eq];exact of_decide_eq_true rfl)|omega))|((with_reducible first|refine kZ ?_ ?_|refine kQ ?_ ?_|refine kS ?_ ?_|refine kB ?_ ?_|refine kM ?_ ?_|refine pH ?_ ?_|refine pK ?_ ?_);exact rfl)|((with_reducible first|refine kR ?_ ?_ ?_|refine kT ?_ ?_ ?_|apply kG);exact rfl;exact rfl)|((with_reducible apply gZ);assumption;exact rfl;decide +kernel;exact rfl)|((with_reducible apply kA);assumption;exact rfl;decide +kernel;exact rfl;(first|exact .type _|exact .builtin _);exact rfl)|((with_reducible refine gL ?_ ?_);decide)|((with_reducible refine gK ?_ ?_ ?_);decide;exact PyProof.noPylong_small (by decide))|((with_reducible refine gM ?_ ?_);(first|exact IntMulOk.of_right (intBits_le_64 (by omega) (by omega))|exact IntMulOk.of_left (intBits_le_64 (by omega) (by omega))))|((with_reducible refine kF ?_ ?_ ?_);exact rfl;exact fun _ => rfl)|((with_reducible refine gW ?_ ?_);exact fun _ => rfl)|with_reducible refine pO ?_))
    refine te_callG gc rfl Fc.keeps rfl ?_
    repeat (first|with_reducible refine kW ?_|(first|with_reducible (first|refine pB ?_|refine pF ?_|refine pA ?_|refine kX ?_|refine kY ?_|refine gH ?_|refine gG ?_|refine kD ?_|refine gY ?_|refine kJ ?_|refine gX ?_|refine kL ?_|refine kE ?_|refine kK ?_|refine kC ?_|refine kI ?_|refine kO ?_|refine kP ?_|refine kN ?_|refine pJ ?_|refine pG ?_|refine gB ?_|refine gA ?_|refine pM ?_|refine gJ ?_|refine gN ?_|refine gU ?_|refine gQ ?_|refine gO ?_|refine gV ?_|refine pN ?_)|((with_reducible refine And.intro ?_ ?_);(first|(rw [sizeLine_eq];exact of_decide_eq_true rfl)|omega))|((with_reducible first|refine kZ ?_ ?_|refine kQ ?_ ?_|refine kS ?_ ?_|refine kB ?_ ?_|refine kM ?_ ?_|refine pH ?_ ?_|refine pK ?_ ?_);exact rfl)|((with_reducible first|refine kR ?_ ?_ ?_|refine kT ?_ ?_ ?_|apply kG);exact rfl;exact rfl)|((with_reducible apply gZ);assumption;exact rfl;decide +kernel;exact rfl)|((with_reducible apply kA);assumption;exact rfl;decide +kernel;exact rfl;(first|exact .type _|exact .builtin _);exact rfl)|((with_reducible refine gL ?_ ?_);decide)|((with_reducible refine gK ?_ ?_ ?_);decide;exact PyProof.noPylong_small (by decide))|((with_reducible refine gM ?_ ?_);(first|exact IntMulOk.of_right (intBits_le_64 (by omega) (by omega))|exact IntMulOk.of_left (intBits_le_64 (by omega) (by omega))))|((with_reducible refine kF ?_ ?_ ?_);exact rfl;exact fun _ => rfl)|((with_reducible refine gW ?_ ?_);exact fun _ => rfl)|with_reducible refine pO ?_))
    refine (cell_spec Fc hlen (i := 4 + i) (by (first|lia|omega)) (sub1 _ _ hs) hz ?_).call
    generalize cellA ns (4 + i) = c
    repeat (first|with_reducible refine kW ?_|(first|with_reducible (first|refine pB ?_|refine pF ?_|refine pA ?_|refine kX ?_|refine kY ?_|refine gH ?_|refine gG ?_|refine kD ?_|refine gY ?_|refine kJ ?_|refine gX ?_|refine kL ?_|refine kE ?_|refine kK ?_|refine kC ?_|refine kI ?_|refine kO ?_|refine kP ?_|refine kN ?_|refine pJ ?_|refine pG ?_|refine gB ?_|refine gA ?_|refine pM ?_|refine gJ ?_|refine gN ?_|refine gU ?_|refine gQ ?_|refine gO ?_|refine gV ?_|refine pN ?_)|((with_reducible refine And.intro ?_ ?_);(first|(rw [sizeLine_eq];exact of_decide_eq_true rfl)|omega))|((with_reducible first|refine kZ ?_ ?_|refine kQ ?_ ?_|refine kS ?_ ?_|refine kB ?_ ?_|refine kM ?_ ?_|refine pH ?_ ?_|refine pK ?_ ?_);exact rfl)|((with_reducible first|refine kR ?_ ?_ ?_|refine kT ?_ ?_ ?_|apply kG);exact rfl;exact rfl)|((with_reducible apply gZ);assumption;exact rfl;decide +kernel;exact rfl)|((with_reducible apply kA);assumption;exact rfl;decide +kernel;exact rfl;(first|exact .type _|exact .builtin _);exact rfl)|((with_reducible refine gL ?_ ?_);decide)|((with_reducible refine gK ?_ ?_ ?_);decide;exact PyProof.noPylong_small (by decide))|((with_reducible refine gM ?_ ?_);(first|exact IntMulOk.of_right (intBits_le_64 (by omega) (by omega))|exact IntMulOk.of_left (intBits_le_64 (by omega) (by omega))))|((with_reducible refine kF ?_ ?_ ?_);exact rfl;exact fun _ => rfl)|((with_reducible refine gW ?_ ?_);exact fun _ => rfl)|with_reducible refine pO ?_))
    split
    · repeat (first|with_reducible refine kW ?_|(first|with_reducible (first|refine pB ?_|refine pF ?_|refine pA ?_|refine kX ?_|refine kY ?_|refine gH ?_|refine gG ?_|refine kD ?_|refine gY ?_|refine kJ ?_|refine gX ?_|refine kL ?_|refine kE ?_|refine kK ?_|refine kC ?_|refine kI ?_|refine kO ?_|refine kP ?_|refine kN ?_|refine pJ ?_|refine pG ?_|refine gB ?_|refine gA ?_|refine pM ?_|refine gJ ?_|refine gN ?_|refine gU ?_|refine gQ ?_|refine gO ?_|refine gV ?_|refine pN ?_)|((with_reducible refine And.intro ?_ ?_);(first|(rw [sizeLine_eq];exact of_decide_eq_true rfl)|omega))|((with_reducible first|refine kZ ?_ ?_|refine kQ ?_ ?_|refine kS ?_ ?_|refine kB ?_ ?_|refine kM ?_ ?_|refine pH ?_ ?_|refine pK ?_ ?_);exact rfl)|((with_reducible first|refine kR ?_ ?_ ?_|refine kT ?_ ?_ ?_|apply kG);exact rfl;exact rfl)|((with_reducible apply gZ);assumption;exact rfl;decide +kernel;exact rfl)|((with_reducible apply kA);assumption;exact rfl;decide +kernel;exact rfl;(first|exact .type _|exact .builtin _);exact rfl)|((with_reducible refine gL ?_ ?_);decide)|((with_reducible refine gK ?_ ?_ ?_);decide;exact PyProof.noPylong_small (by decide))|((with_reducible refine gM ?_ ?_);(first|exact IntMulOk.of_right (intBits_le_64 (by omega) (by omega))|exact IntMulOk.of_left (intBits_le_64 (by omega) (by omega))))|((with_reducible refine kF ?_ ?_ ?_);exact rfl;exact fun _ => rfl)|((with_reducible refine gW ?_ ?_);exact fun _ => rfl)|with_reducible refine pO ?_))
      refine tmeth_append hE.g ?_
      repeat (first|with_reducible refine kW ?_|(first|with_reducible (first|refine pB ?_|refine pF ?_|refine pA ?_|refine kX ?_|refine kY ?_|refine gH ?_|refine gG ?_|refine kD ?_|refine gY ?_|refine kJ ?_|refine gX ?_|refine kL ?_|refine kE ?_|refine kK ?_|refine kC ?_|refine kI ?_|refine kO ?_|refine kP ?_|refine kN ?_|refine pJ ?_|refine pG ?_|refine gB ?_|refine gA ?_|refine pM ?_|refine gJ ?_|refine gN ?_|refine gU ?_|refine gQ ?_|refine gO ?_|refine gV ?_|refine pN ?_)|((with_reducible refine And.intro ?_ ?_);(first|(rw [sizeLine_eq];exact of_decide_eq_true rfl)|omega))|((with_reducible first|refine kZ ?_ ?_|refine kQ ?_ ?_|refine kS ?_ ?_|refine kB ?_ ?_|refine kM ?_ ?_|refine pH ?_ ?_|refine pK ?_ ?_);exact rfl)|((with_reducible first|refine kR ?_ ?_ ?_|refine kT ?_ ?_ ?_|apply kG);exact rfl;exact rfl)|((with_reducible apply gZ);assumption;exact rfl;decide +kernel;exact rfl)|((with_reducible apply kA);assumption;exact rfl;decide +kernel;exact rfl;(first|exact .type _|exact .builtin _);exact rfl)|((with_reducible refine gL ?_ ?_);decide)|((with_reducible refine gK ?_ ?_ ?_);decide;exact PyProof.noPylong_small (by decide))|((with_reducible refine gM ?_ ?_);(first|exact IntMulOk.of_right (intBits_le_64 (by omega) (by omega))|exact IntMulOk.of_left (intBits_le_64 (by omega) (by omega))))|((with_reducible refine kF ?_ ?_ ?_);exact rfl;exact fun _ => rfl)|((with_reducible refine gW ?_ ?_);exact fun _ => rfl)|with_reducible refine pO ?_))
      have hE2 := hE.sub (Sub.snoc σ1 [.tuple [.str "not", .int 0]])
      obtain ⟨f1, f2⟩ := fin _ .not σ1.length (sub1.trans (Sub.snoc σ1 [.tuple [.str "not", .int 0]])) (get_snoc _ _) hE2
      refine tcall_append hE2.g (by rw [sizeLine_eq]; simp; (first|lia|omega)) ?_
      repeat (first|with_reducible refine kW ?_|(first|with_reducible (first|refine pB ?_|refine pF ?_|refine pA ?_|refine kX ?_|refine kY ?_|refine gH ?_|refine gG ?_|refine kD ?_|refine gY ?_|refine kJ ?_|refine gX ?_|refine kL ?_|refine kE ?_|refine kK ?_|refine kC ?_|refine kI ?_|refine kO ?_|refine kP ?_|refine kN ?_|refine pJ ?_|refine pG ?_|refine gB ?_|refine gA ?_|refine pM ?_|refine gJ ?_|refine gN ?_|refine gU ?_|refine gQ ?_|refine gO ?_|refine gV ?_|refine pN ?_)|((with_reducible refine And.intro ?_ ?_);(first|(rw [sizeLine_eq];exact of_decide_eq_true rfl)|omega))|((with_reducible first|refine kZ ?_ ?_|refine kQ ?_ ?_|refine kS ?_ ?_|refine kB ?_ ?_|refine kM ?_ ?_|refine pH ?_ ?_|refine pK ?_ ?_);exact rfl)|((with_reducible first|refine kR ?_ ?_ ?_|refine kT ?_ ?_ ?_|apply kG);exact rfl;exact rfl)|((with_reducible apply gZ);assumption;exact rfl;decide +kernel;exact rfl)|((with_reducible apply kA);assumption;exact rfl;decide +kernel;exact rfl;(first|exact .type _|exact .builtin _);exact rfl)|((with_reducible refine gL ?_ ?_);decide)|((with_reducible refine gK ?_ ?_ ?_);decide;exact PyProof.noPylong_small (by decide))|((with_reducible refine gM ?_ ?_);(first|exact IntMulOk.of_right (intBits_le_64 (by omega) (by omega))|exact IntMulOk.of_left (intBits_le_64 (by omega) (by omega))))|((with_reducible refine kF ?_ ?_ ?_);exact rfl;exact fun _ => rfl)|((with_reducible refine gW ?_ ?_);exact fun _ => rfl)|with_reducible refine pO ?_))
      exact ⟨_, _, hg, by (repeat (first | exact LE.nil | refine LE.cons (by exact rfl) ?_)), f1, f2, hRun_snoc hrun (if_pos hg1), hg1, by (first|lia|omega), by simp; (first|lia|omega)⟩
    · repeat (first|with_reducible refine kW ?_|(first|with_reducible (first|refine pB ?_|refine pF ?_|refine pA ?_|refine kX ?_|refine kY ?_|refine gH ?_|refine gG ?_|refine kD ?_|refine gY ?_|refine kJ ?_|refine gX ?_|refine kL ?_|refine kE ?_|refine kK ?_|refine kC ?_|refine kI ?_|refine kO ?_|refine kP ?_|refine kN ?_|refine pJ ?_|refine pG ?_|refine gB ?_|refine gA ?_|refine pM ?_|refine gJ ?_|refine gN ?_|refine gU ?_|refine gQ ?_|refine gO ?_|refine gV ?_|refine pN ?_)|((with_reducible refine And.intro ?_ ?_);(first|(rw [sizeLine_eq];exact of_decide_eq_true rfl)|omega))|((with_reducible first|refine kZ ?_ ?_|refine kQ ?_ ?_|refine kS ?_ ?_|refine kB ?_ ?_|refine kM ?_ ?_|refine pH ?_ ?_|refine pK ?_ ?_);exact rfl)|((with_reducible first|refine kR ?_ ?_ ?_|refine kT ?_ ?_ ?_|apply kG);exact rfl;exact rfl)|((with_reducible apply gZ);assumption;exact rfl;decide +kernel;exact rfl)|((with_reducible apply kA);assumption;exact rfl;decide +kernel;exact rfl;(first|exact .type _|exact .builtin _);exact rfl)|((with_reducible refine gL ?_ ?_);decide)|((with_reducible refine gK ?_ ?_ ?_);decide;exact PyProof.noPylong_small (by decide))|((with_reducible refine gM ?_ ?_);(first|exact IntMulOk.of_right (intBits_le_64 (by omega) (by omega))|exact IntMulOk.of_left (intBits_le_64 (by omega) (by omega))))|((with_reducible refine kF ?_ ?_ ?_);exact rfl;exact fun _ => rfl)|((with_reducible refine gW ?_ ?_);exact fun _ => rfl)|with_reducible refine pO ?_))
      split
      · repeat (first|with_reducible refine kW ?_|(first|with_reducible (first|refine pB ?_|refine pF ?_|refine pA ?_|refine kX ?_|refine kY ?_|refine gH ?_|refine gG ?_|refine kD ?_|refine gY ?_|refine kJ ?_|refine gX ?_|refine kL ?_|refine kE ?_|refine kK ?_|refine kC ?_|refine kI ?_|refine kO ?_|refine kP ?_|refine kN ?_|refine pJ ?_|refine pG ?_|refine gB ?_|refine gA ?_|refine pM ?_|refine gJ ?_|refine gN ?_|refine gU ?_|refine gQ ?_|refine gO ?_|refine gV ?_|refine pN ?_)|((with_reducible refine And.intro ?_ ?_);(first|(rw [sizeLine_eq];exact of_decide_eq_true rfl)|omega))|((with_reducible first|refine kZ ?_ ?_|refine kQ ?_ ?_|refine kS ?_ ?_|refine kB ?_ ?_|refine kM ?_ ?_|refine pH ?_ ?_|refine pK ?_ ?_);exact rfl)|((with_reducible first|refine kR ?_ ?_ ?_|refine kT ?_ ?_ ?_|apply kG);exact rfl;exact rfl)|((with_reducible apply gZ);assumption;exact rfl;decide +kernel;exact rfl)|((with_reducible apply kA);assumption;exact rfl;decide +kernel;exact rfl;(first|exact .type _|exact .builtin _);exact rfl)|((with_reducible refine gL ?_ ?_);decide)|((with_reducible refine gK ?_ ?_ ?_);decide;exact PyProof.noPylong_small (by decide))|((with_reducible refine gM ?_ ?_);(first|exact IntMulOk.of_right (intBits_le_64 (by omega) (by omega))|exact IntMulOk.of_left (intBits_le_64 (by omega) (by omega))))|((with_reducible refine kF ?_ ?_ ?_);exact rfl;exact fun _ => rfl)|((with_reducible refine gW ?_ ?_);exact fun _ => rfl)|with_reducible refine pO ?_))
        split
        · rename_i hq
          have hq : (1 : Int) < hg := by simpa using hq
          repeat (first|with_reducible refine kW ?_|(first|with_reducible (first|refine pB ?_|refine pF ?_|refine pA ?_|refine kX ?_|refine kY ?_|refine gH ?_|refine gG ?_|refine kD ?_|refine gY ?_|refine kJ ?_|refine gX ?_|refine kL ?_|refine kE ?_|refine kK ?_|refine kC ?_|refine kI ?_|refine kO ?_|refine kP ?_|refine kN ?_|refine pJ ?_|refine pG ?_|refine gB ?_|refine gA ?_|refine pM ?_|refine gJ ?_|refine gN ?_|refine gU ?_|refine gQ ?_|refine gO ?_|refine gV ?_|refine pN ?_)|((with_reducible refine And.intro ?_ ?_);(first|(rw [sizeLine_eq];exact of_decide_eq_true rfl)|omega))|((with_reducible first|refine kZ ?_ ?_|refine kQ ?_ ?_|refine kS ?_ ?_|refine kB ?_ ?_|refine kM ?_ ?_|refine pH ?_ ?_|refine pK ?_ ?_);exact rfl)|((with_reducible first|refine kR ?_ ?_ ?_|refine kT ?_ ?_ ?_|apply kG);exact rfl;exact rfl)|((with_reducible apply gZ);assumption;exact rfl;decide +kernel;exact rfl)|((with_reducible apply kA);assumption;exact rfl;decide +kernel;exact rfl;(first|exact .type _|exact .builtin _);exact rfl)|((with_reducible refine gL ?_ ?_);decide)|((with_reducible refine gK ?_ ?_ ?_);decide;exact PyProof.noPylong_small (by decide))|((with_reducible refine gM ?_ ?_);(first|exact IntMulOk.of_right (intBits_le_64 (by omega) (by omega))|exact IntMulOk.of_left (intBits_le_64 (by omega) (by omega))))|((with_reducible refine kF ?_ ?_ ?_);exact rfl;exact fun _ => rfl)|((with_reducible refine gW ?_ ?_);exact fun _ => rfl)|with_reducible refine pO ?_))
          rw [if_pos rfl]
          repeat (first|with_reducible refine kW ?_|(first|with_reducible (first|refine pB ?_|refine pF ?_|refine pA ?_|refine kX ?_|refine kY ?_|refine gH ?_|refine gG ?_|refine kD ?_|refine gY ?_|refine kJ ?_|refine gX ?_|refine kL ?_|refine kE ?_|refine kK ?_|refine kC ?_|refine kI ?_|refine kO ?_|refine kP ?_|refine kN ?_|refine pJ ?_|refine pG ?_|refine gB ?_|refine gA ?_|refine pM ?_|refine gJ ?_|refine gN ?_|refine gU ?_|refine gQ ?_|refine gO ?_|refine gV ?_|refine pN ?_)|((with_reducible refine And.intro ?_ ?_);(first|(rw [sizeLine_eq];exact of_decide_eq_true rfl)|omega))|((with_reducible first|refine kZ ?_ ?_|refine kQ ?_ ?_|refine kS ?_ ?_|refine kB ?_ ?_|refine kM ?_ ?_|refine pH ?_ ?_|refine pK ?_ ?_);exact rfl)|((with_reducible first|refine kR ?_ ?_ ?_|refine kT ?_ ?_ ?_|apply kG);exact rfl;exact rfl)|((with_reducible apply gZ);assumption;exact rfl;decide +kernel;exact rfl)|((with_reducible apply kA);assumption;exact rfl;decide +kernel;exact rfl;(first|exact .type _|exact .builtin _);exact rfl)|((with_reducible refine gL ?_ ?_);decide)|((with_reducible refine gK ?_ ?_ ?_);decide;exact PyProof.noPylong_small (by decide))|((with_reducible refine gM ?_ ?_);(first|exact IntMulOk.of_right (intBits_le_64 (by omega) (by omega))|exact IntMulOk.of_left (intBits_le_64 (by omega) (by omega))))|((with_reducible refine kF ?_ ?_ ?_);exact rfl;exact fun _ => rfl)|((with_reducible refine gW ?_ ?_);exact fun _ => rfl)|with_reducible refine pO ?_))
          refine tmeth_append hE.g ?_
          repeat (first|with_reducible refine kW ?_|(first|with_reducible (first|refine pB ?_|refine pF ?_|refine pA ?_|refine kX ?_|refine kY ?_|refine gH ?_|refine gG ?_|refine kD ?_|refine gY ?_|refine kJ ?_|refine gX ?_|refine kL ?_|refine kE ?_|refine kK ?_|refine kC ?_|refine kI ?_|refine kO ?_|refine kP ?_|refine kN ?_|refine pJ ?_|refine pG ?_|refine gB ?_|refine gA ?_|refine pM ?_|refine gJ ?_|refine gN ?_|refine gU ?_|refine gQ ?_|refine gO ?_|refine gV ?_|refine pN ?_)|((with_reducible refine And.intro ?_ ?_);(first|(rw [sizeLine_eq];exact of_decide_eq_true rfl)|omega))|((with_reducible first|refine kZ ?_ ?_|refine kQ ?_ ?_|refine kS ?_ ?_|refine kB ?_ ?_|refine kM ?_ ?_|refine pH ?_ ?_|refine pK ?_ ?_);exact rfl)|((with_reducible first|refine kR ?_ ?_ ?_|refine kT ?_ ?_ ?_|apply kG);exact rfl;exact rfl)|((with_reducible apply gZ);assumption;exact rfl;decide +kernel;exact rfl)|((with_reducible apply kA);assumption;exact rfl;decide +kernel;exact rfl;(first|exact .type _|exact .builtin _);exact rfl)|((with_reducible refine gL ?_ ?_);decide)|((with_reducible refine gK ?_ ?_ ?_);decide;exact PyProof.noPylong_small (by decide))|((with_reducible refine gM ?_ ?_);(first|exact IntMulOk.of_right (intBits_le_64 (by omega) (by omega))|exact IntMulOk.of_left (intBits_le_64 (by omega) (by omega))))|((with_reducible refine kF ?_ ?_ ?_);exact rfl;exact fun _ => rfl)|((with_reducible refine gW ?_ ?_);exact fun _ => rfl)|with_reducible refine pO ?_))
          refine te_callG go rfl Fo.keeps rfl ?_
          repeat (first|with_reducible refine kW ?_|(first|with_reducible (first|refine pB ?_|refine pF ?_|refine pA ?_|refine kX ?_|refine kY ?_|refine gH ?_|refine gG ?_|refine kD ?_|refine gY ?_|refine kJ ?_|refine gX ?_|refine kL ?_|refine kE ?_|refine kK ?_|refine kC ?_|refine kI ?_|refine kO ?_|refine kP ?_|refine kN ?_|refine pJ ?_|refine pG ?_|refine gB ?_|refine gA ?_|refine pM ?_|refine gJ ?_|refine gN ?_|refine gU ?_|refine gQ ?_|refine gO ?_|refine gV ?_|refine pN ?_)|((with_reducible refine And.intro ?_ ?_);(first|(rw [sizeLine_eq];exact of_decide_eq_true rfl)|omega))|((with_reducible first|refine kZ ?_ ?_|refine kQ ?_ ?_|refine kS ?_ ?_|refine kB ?_ ?_|refine kM ?_ ?_|refine pH ?_ ?_|refine pK ?_ ?_);exact rfl)|((with_reducible first|refine kR ?_ ?_ ?_|refine kT ?_ ?_ ?_|apply kG);exact rfl;exact rfl)|((with_reducible apply gZ);assumption;exact rfl;decide +kernel;exact rfl)|((with_reducible apply kA);assumption;exact rfl;decide +kernel;exact rfl;(first|exact .type _|exact .builtin _);exact rfl)|((with_reducible refine gL ?_ ?_);decide)|((with_reducible refine gK ?_ ?_ ?_);decide;exact PyProof.noPylong_small (by decide))|((with_reducible refine gM ?_ ?_);(first|exact IntMulOk.of_right (intBits_le_64 (by omega) (by omega))|exact IntMulOk.of_left (intBits_le_64 (by omega) (by omega))))|((with_reducible refine kF ?_ ?_ ?_);exact rfl;exact fun _ => rfl)|((with_reducible refine gW ?_ ?_);exact fun _ => rfl)|with_reducible refine pO ?_))
          refine (oper_spec Fo fun o ho => ?_).call
          have hE2 := hE.sub (Sub.snoc σ1 [.tuple [.str (opK o), .int (opV o)]])
          obtain ⟨f1, f2⟩ := fin _ o σ1.length (sub1.trans (Sub.snoc σ1 [.tuple [.str (opK o), .int (opV o)]])) (get_snoc _ _) hE2
          repeat (first|with_reducible refine kW ?_|(first|with_reducible (first|refine pB ?_|refine pF ?_|refine pA ?_|refine kX ?_|refine kY ?_|refine gH ?_|refine gG ?_|refine kD ?_|refine gY ?_|refine kJ ?_|refine gX ?_|refine kL ?_|refine kE ?_|refine kK ?_|refine kC ?_|refine kI ?_|refine kO ?_|refine kP ?_|refine kN ?_|refine pJ ?_|refine pG ?_|refine gB ?_|refine gA ?_|refine pM ?_|refine gJ ?_|refine gN ?_|refine gU ?_|refine gQ ?_|refine gO ?_|refine gV ?_|refine pN ?_)|((with_reducible refine And.intro ?_ ?_);(first|(rw [sizeLine_eq];exact of_decide_eq_true rfl)|omega))|((with_reducible first|refine kZ ?_ ?_|refine kQ ?_ ?_|refine kS ?_ ?_|refine kB ?_ ?_|refine kM ?_ ?_|refine pH ?_ ?_|refine pK ?_ ?_);exact rfl)|((with_reducible first|refine kR ?_ ?_ ?_|refine kT ?_ ?_ ?_|apply kG);exact rfl;exact rfl)|((with_reducible apply gZ);assumption;exact rfl;decide +kernel;exact rfl)|((with_reducible apply kA);assumption;exact rfl;decide +kernel;exact rfl;(first|exact .type _|exact .builtin _);exact rfl)|((with_reducible refine gL ?_ ?_);decide)|((with_reducible refine gK ?_ ?_ ?_);decide;exact PyProof.noPylong_small (by decide))|((with_reducible refine gM ?_ ?_);(first|exact IntMulOk.of_right (intBits_le_64 (by omega) (by omega))|exact IntMulOk.of_left (intBits_le_64 (by omega) (by omega))))|((with_reducible refine kF ?_ ?_ ?_);exact rfl;exact fun _ => rfl)|((with_reducible refine gW ?_ ?_);exact fun _ => rfl)|with_reducible refine pO ?_))
          refine tcall_append hE2.g (by rw [sizeLine_eq]; simp; (first|lia|omega)) ?_
          repeat (first|with_reducible refine kW ?_|(first|with_reducible (first|refine pB ?_|refine pF ?_|refine pA ?_|refine kX ?_|refine kY ?_|refine gH ?_|refine gG ?_|refine kD ?_|refine gY ?_|refine kJ ?_|refine gX ?_|refine kL ?_|refine kE ?_|refine kK ?_|refine kC ?_|refine kI ?_|refine kO ?_|refine kP ?_|refine kN ?_|refine pJ ?_|refine pG ?_|refine gB ?_|refine gA ?_|refine pM ?_|refine gJ ?_|refine gN ?_|refine gU ?_|refine gQ ?_|refine gO ?_|refine gV ?_|refine pN ?_)|((with_reducible refine And.intro ?_ ?_);(first|(rw [sizeLine_eq];exact of_decide_eq_true rfl)|omega))|((with_reducible first|refine kZ ?_ ?_|refine kQ ?_ ?_|refine kS ?_ ?_|refine kB ?_ ?_|refine kM ?_ ?_|refine pH ?_ ?_|refine pK ?_ ?_);exact rfl)|((with_reducible first|refine kR ?_ ?_ ?_|refine kT ?_ ?_ ?_|apply kG);exact rfl;exact rfl)|((with_reducible apply gZ);assumption;exact rfl;decide +kernel;exact rfl)|((with_reducible apply kA);assumption;exact rfl;decide +kernel;exact rfl;(first|exact .type _|exact .builtin _);exact rfl)|((with_reducible refine gL ?_ ?_);decide)|((with_reducible refine gK ?_ ?_ ?_);decide;exact PyProof.noPylong_small (by decide))|((with_reducible refine gM ?_ ?_);(first|exact IntMulOk.of_right (intBits_le_64 (by omega) (by omega))|exact IntMulOk.of_left (intBits_le_64 (by omega) (by omega))))|((with_reducible refine kF ?_ ?_ ?_);exact rfl;exact fun _ => rfl)|((with_reducible refine gW ?_ ?_);exact fun _ => rfl)|with_reducible refine pO ?_))
          rw [show (hg : Int) - 1 = ((hg - 1 : Nat) : Int) by (first|lia|omega)]
          exact ⟨_, _, hg - 1, by (repeat (first | exact LE.nil | refine LE.cons (by exact rfl) ?_)), f1, f2, hRun_snoc hrun (h_bin ho (by (first|lia|omega))), by (first|lia|omega), by (first|lia|omega), by simp; (first|lia|omega)⟩
        · repeat (first|with_reducible refine kW ?_|(first|with_reducible (first|refine pB ?_|refine pF ?_|refine pA ?_|refine kX ?_|refine kY ?_|refine gH ?_|refine gG ?_|refine kD ?_|refine gY ?_|refine kJ ?_|refine gX ?_|refine kL ?_|refine kE ?_|refine kK ?_|refine kC ?_|refine kI ?_|refine kO ?_|refine kP ?_|refine kN ?_|refine pJ ?_|refine pG ?_|refine gB ?_|refine gA ?_|refine pM ?_|refine gJ ?_|refine gN ?_|refine gU ?_|refine gQ ?_|refine gO ?_|refine gV ?_|refine pN ?_)|((with_reducible refine And.intro ?_ ?_);(first|(rw [sizeLine_eq];exact of_decide_eq_true rfl)|omega))|((with_reducible first|refine kZ ?_ ?_|refine kQ ?_ ?_|refine kS ?_ ?_|refine kB ?_ ?_|refine kM ?_ ?_|refine pH ?_ ?_|refine pK ?_ ?_);exact rfl)|((with_reducible first|refine kR ?_ ?_ ?_|refine kT ?_ ?_ ?_|apply kG);exact rfl;exact rfl)|((with_reducible apply gZ);assumption;exact rfl;decide +kernel;exact rfl)|((with_reducible apply kA);assumption;exact rfl;decide +kernel;exact rfl;(first|exact .type _|exact .builtin _);exact rfl)|((with_reducible refine gL ?_ ?_);decide)|((with_reducible refine gK ?_ ?_ ?_);decide;exact PyProof.noPylong_small (by decide))|((with_reducible refine gM ?_ ?_);(first|exact IntMulOk.of_right (intBits_le_64 (by omega) (by omega))|exact IntMulOk.of_left (intBits_le_64 (by omega) (by omega))))|((with_reducible refine kF ?_ ?_ ?_);exact rfl;exact fun _ => rfl)|((with_reducible refine gW ?_ ?_);exact fun _ => rfl)|with_reducible refine pO ?_))
          rw [if_neg (by decide)]
          repeat (first|with_reducible refine kW ?_|(first|with_reducible (first|refine pB ?_|refine pF ?_|refine pA ?_|refine kX ?_|refine kY ?_|refine gH ?_|refine gG ?_|refine kD ?_|refine gY ?_|refine kJ ?_|refine gX ?_|refine kL ?_|refine kE ?_|refine kK ?_|refine kC ?_|refine kI ?_|refine kO ?_|refine kP ?_|refine kN ?_|refine pJ ?_|refine pG ?_|refine gB ?_|refine gA ?_|refine pM ?_|refine gJ ?_|refine gN ?_|refine gU ?_|refine gQ ?_|refine gO ?_|refine gV ?_|refine pN ?_)|((with_reducible refine And.intro ?_ ?_);(first|(rw [sizeLine_eq];exact of_decide_eq_true rfl)|omega))|((with_reducible first|refine kZ ?_ ?_|refine kQ ?_ ?_|refine kS ?_ ?_|refine kB ?_ ?_|refine kM ?_ ?_|refine pH ?_ ?_|refine pK ?_ ?_);exact rfl)|((with_reducible first|refine kR ?_ ?_ ?_|refine kT ?_ ?_ ?_|apply kG);exact rfl;exact rfl)|((with_reducible apply gZ);assumption;exact rfl;decide +kernel;exact rfl)|((with_reducible apply kA);assumption;exact rfl;decide +kernel;exact rfl;(first|exact .type _|exact .builtin _);exact rfl)|((with_reducible refine gL ?_ ?_);decide)|((with_reducible refine gK ?_ ?_ ?_);decide;exact PyProof.noPylong_small (by decide))|((with_reducible refine gM ?_ ?_);(first|exact IntMulOk.of_right (intBits_le_64 (by omega) (by omega))|exact IntMulOk.of_left (intBits_le_64 (by omega) (by omega))))|((with_reducible refine kF ?_ ?_ ?_);exact rfl;exact fun _ => rfl)|((with_reducible refine gW ?_ ?_);exact fun _ => rfl)|with_reducible refine pO ?_))
          refine tmeth_append hE.g ?_
          repeat (first|with_reducible refine kW ?_|(first|with_reducible (first|refine pB ?_|refine pF ?_|refine pA ?_|refine kX ?_|refine kY ?_|refine gH ?_|refine gG ?_|refine kD ?_|refine gY ?_|refine kJ ?_|refine gX ?_|refine kL ?_|refine kE ?_|refine kK ?_|refine kC ?_|refine kI ?_|refine kO ?_|refine kP ?_|refine kN ?_|refine pJ ?_|refine pG ?_|refine gB ?_|refine gA ?_|refine pM ?_|refine gJ ?_|refine gN ?_|refine gU ?_|refine gQ ?_|refine gO ?_|refine gV ?_|refine pN ?_)|((with_reducible refine And.intro ?_ ?_);(first|(rw [sizeLine_eq];exact of_decide_eq_true rfl)|omega))|((with_reducible first|refine kZ ?_ ?_|refine kQ ?_ ?_|refine kS ?_ ?_|refine kB ?_ ?_|refine kM ?_ ?_|refine pH ?_ ?_|refine pK ?_ ?_);exact rfl)|((with_reducible first|refine kR ?_ ?_ ?_|refine kT ?_ ?_ ?_|apply kG);exact rfl;exact rfl)|((with_reducible apply gZ);assumption;exact rfl;decide +kernel;exact rfl)|((with_reducible apply kA);assumption;exact rfl;decide +kernel;exact rfl;(first|exact .type _|exact .builtin _);exact rfl)|((with_reducible refine gL ?_ ?_);decide)|((with_reducible refine gK ?_ ?_ ?_);decide;exact PyProof.noPylong_small (by decide))|((with_reducible refine gM ?_ ?_);(first|exact IntMulOk.of_right (intBits_le_64 (by omega) (by omega))|exact IntMulOk.of_left (intBits_le_64 (by omega) (by omega))))|((with_reducible refine kF ?_ ?_ ?_);exact rfl;exact fun _ => rfl)|((with_reducible refine gW ?_ ?_);exact fun _ => rfl)|with_reducible refine pO ?_))
          refine gL (by (first|lia|omega)) ?_
          obtain ⟨v, hv, hvn⟩ := fmod_nat (c.fdiv 4) n (by (first|lia|omega))
          refine gJ ?_
          rw [show 1 + (c.fdiv 4).fmod n = ((1 + v : Nat) : Int) by rw [hv]; (first|lia|omega)]
          repeat (first|with_reducible refine kW ?_|(first|with_reducible (first|refine pB ?_|refine pF ?_|refine pA ?_|refine kX ?_|refine kY ?_|refine gH ?_|refine gG ?_|refine kD ?_|refine gY ?_|refine kJ ?_|refine gX ?_|refine kL ?_|refine kE ?_|refine kK ?_|refine kC ?_|refine kI ?_|refine kO ?_|refine kP ?_|refine kN ?_|refine pJ ?_|refine pG ?_|refine gB ?_|refine gA ?_|refine pM ?_|refine gJ ?_|refine gN ?_|refine gU ?_|refine gQ ?_|refine gO ?_|refine gV ?_|refine pN ?_)|((with_reducible refine And.intro ?_ ?_);(first|(rw [sizeLine_eq];exact of_decide_eq_true rfl)|omega))|((with_reducible first|refine kZ ?_ ?_|refine kQ ?_ ?_|refine kS ?_ ?_|refine kB ?_ ?_|refine kM ?_ ?_|refine pH ?_ ?_|refine pK ?_ ?_);exact rfl)|((with_reducible first|refine kR ?_ ?_ ?_|refine kT ?_ ?_ ?_|apply kG);exact rfl;exact rfl)|((with_reducible apply gZ);assumption;exact rfl;decide +kernel;exact rfl)|((with_reducible apply kA);assumption;exact rfl;decide +kernel;exact rfl;(first|exact .type _|exact .builtin _);exact rfl)|((with_reducible refine gL ?_ ?_);decide)|((with_reducible refine gK ?_ ?_ ?_);decide;exact PyProof.noPylong_small (by decide))|((with_reducible refine gM ?_ ?_);(first|exact IntMulOk.of_right (intBits_le_64 (by omega) (by omega))|exact IntMulOk.of_left (intBits_le_64 (by omega) (by omega))))|((with_reducible refine kF ?_ ?_ ?_);exact rfl;exact fun _ => rfl)|((with_reducible refine gW ?_ ?_);exact fun _ => rfl)|with_reducible refine pO ?_))
          have hE2 := hE.sub (Sub.snoc σ1 [.tuple [.str "var", .int ((1 + v : Nat) : Int)]])
          obtain ⟨f1, f2⟩ := fin _ (.var (1 + v)) σ1.length (sub1.trans (Sub.snoc σ1 [.tuple [.str "var", .int ((1 + v : Nat) : Int)]])) (get_snoc _ _) hE2
          refine tcall_append hE2.g (by rw [sizeLine_eq]; simp; (first|lia|omega)) ?_
          repeat (first|with_reducible refine kW ?_|(first|with_reducible (first|refine pB ?_|refine pF ?_|refine pA ?_|refine kX ?_|refine kY ?_|refine gH ?_|refine gG ?_|refine kD ?_|refine gY ?_|refine kJ ?_|refine gX ?_|refine kL ?_|refine kE ?_|refine kK ?_|refine kC ?_|refine kI ?_|refine kO ?_|refine kP ?_|refine kN ?_|refine pJ ?_|refine pG ?_|refine gB ?_|refine gA ?_|refine pM ?_|refine gJ ?_|refine gN ?_|refine gU ?_|refine gQ ?_|refine gO ?_|refine gV ?_|refine pN ?_)|((with_reducible refine And.intro ?_ ?_);(first|(rw [sizeLine_eq];exact of_decide_eq_true rfl)|omega))|((with_reducible first|refine kZ ?_ ?_|refine kQ ?_ ?_|refine kS ?_ ?_|refine kB ?_ ?_|refine kM ?_ ?_|refine pH ?_ ?_|refine pK ?_ ?_);exact rfl)|((with_reducible first|refine kR ?_ ?_ ?_|refine kT ?_ ?_ ?_|apply kG);exact rfl;exact rfl)|((with_reducible apply gZ);assumption;exact rfl;decide +kernel;exact rfl)|((with_reducible apply kA);assumption;exact rfl;decide +kernel;exact rfl;(first|exact .type _|exact .builtin _);exact rfl)|((with_reducible refine gL ?_ ?_);decide)|((with_reducible refine gK ?_ ?_ ?_);decide;exact PyProof.noPylong_small (by decide))|((with_reducible refine gM ?_ ?_);(first|exact IntMulOk.of_right (intBits_le_64 (by omega) (by omega))|exact IntMulOk.of_left (intBits_le_64 (by omega) (by omega))))|((with_reducible refine kF ?_ ?_ ?_);exact rfl;exact fun _ => rfl)|((with_reducible refine gW ?_ ?_);exact fun _ => rfl)|with_reducible refine pO ?_))
          exact ⟨_, _, hg + 1, by (repeat (first | exact LE.nil | refine LE.cons (by exact rfl) ?_)), f1, f2, hRun_snoc hrun (if_pos (by (first|lia|omega))), by (first|lia|omega), by (first|lia|omega), by simp; (first|lia|omega)⟩
      · repeat (first|with_reducible refine kW ?_|(first|with_reducible (first|refine pB ?_|refine pF ?_|refine pA ?_|refine kX ?_|refine kY ?_|refine gH ?_|refine gG ?_|refine kD ?_|refine gY ?_|refine kJ ?_|refine gX ?_|refine kL ?_|refine kE ?_|refine kK ?_|refine kC ?_|refine kI ?_|refine kO ?_|refine kP ?_|refine kN ?_|refine pJ ?_|refine pG ?_|refine gB ?_|refine gA ?_|refine pM ?_|refine gJ ?_|refine gN ?_|refine gU ?_|refine gQ ?_|refine gO ?_|refine gV ?_|refine pN ?_)|((with_reducible refine And.intro ?_ ?_);(first|(rw [sizeLine_eq];exact of_decide_eq_true rfl)|omega))|((with_reducible first|refine kZ ?_ ?_|refine kQ ?_ ?_|refine kS ?_ ?_|refine kB ?_ ?_|refine kM ?_ ?_|refine pH ?_ ?_|refine pK ?_ ?_);exact rfl)|((with_reducible first|refine kR ?_ ?_ ?_|refine kT ?_ ?_ ?_|apply kG);exact rfl;exact rfl)|((with_reducible apply gZ);assumption;exact rfl;decide +kernel;exact rfl)|((with_reducible apply kA);assumption;exact rfl;decide +kernel;exact rfl;(first|exact .type _|exact .builtin _);exact rfl)|((with_reducible refine gL ?_ ?_);decide)|((with_reducible refine gK ?_ ?_ ?_);decide;exact PyProof.noPylong_small (by decide))|((with_reducible refine gM ?_ ?_);(first|exact IntMulOk.of_right (intBits_le_64 (by omega) (by omega))|exact IntMulOk.of_left (intBits_le_64 (by omega) (by omega))))|((with_reducible refine kF ?_ ?_ ?_);exact rfl;exact fun _ => rfl)|((with_reducible refine gW ?_ ?_);exact fun _ => rfl)|with_reducible refine pO ?_))
        rw [if_neg (by decide)]
        repeat (first|with_reducible refine kW ?_|(first|with_reducible (first|refine pB ?_|refine pF ?_|refine pA ?_|refine kX ?_|refine kY ?_|refine gH ?_|refine gG ?_|refine kD ?_|refine gY ?_|refine kJ ?_|refine gX ?_|refine kL ?_|refine kE ?_|refine kK ?_|refine kC ?_|refine kI ?_|refine kO ?_|refine kP ?_|refine kN ?_|refine pJ ?_|refine pG ?_|refine gB ?_|refine gA ?_|refine pM ?_|refine gJ ?_|refine gN ?_|refine gU ?_|refine gQ ?_|refine gO ?_|refine gV ?_|refine pN ?_)|((with_reducible refine And.intro ?_ ?_);(first|(rw [sizeLine_eq];exact of_decide_eq_true rfl)|omega))|((with_reducible first|refine kZ ?_ ?_|refine kQ ?_ ?_|refine kS ?_ ?_|refine kB ?_ ?_|refine kM ?_ ?_|refine pH ?_ ?_|refine pK ?_ ?_);exact rfl)|((with_reducible first|refine kR ?_ ?_ ?_|refine kT ?_ ?_ ?_|apply kG);exact rfl;exact rfl)|((with_reducible apply gZ);assumption;exact rfl;decide +kernel;exact rfl)|((with_reducible apply kA);assumption;exact rfl;decide +kernel;exact rfl;(first|exact .type _|exact .builtin _);exact rfl)|((with_reducible refine gL ?_ ?_);decide)|((with_reducible refine gK ?_ ?_ ?_);decide;exact PyProof.noPylong_small (by decide))|((with_reducible refine gM ?_ ?_);(first|exact IntMulOk.of_right (intBits_le_64 (by omega) (by omega))|exact IntMulOk.of_left (intBits_le_64 (by omega) (by omega))))|((with_reducible refine kF ?_ ?_ ?_);exact rfl;exact fun _ => rfl)|((with_reducible refine gW ?_ ?_);exact fun _ => rfl)|with_reducible refine pO ?_))
        refine tmeth_append hE.g ?_
        repeat (first|with_reducible refine kW ?_|(first|with_reducible (first|refine pB ?_|refine pF ?_|refine pA ?_|refine kX ?_|refine kY ?_|refine gH ?_|refine gG ?_|refine kD ?_|refine gY ?_|refine kJ ?_|refine gX ?_|refine kL ?_|refine kE ?_|refine kK ?_|refine kC ?_|refine kI ?_|refine kO ?_|refine kP ?_|refine kN ?_|refine pJ ?_|refine pG ?_|refine gB ?_|refine gA ?_|refine pM ?_|refine gJ ?_|refine gN ?_|refine gU ?_|refine gQ ?_|refine gO ?_|refine gV ?_|refine pN ?_)|((with_reducible refine And.intro ?_ ?_);(first|(rw [sizeLine_eq];exact of_decide_eq_true rfl)|omega))|((with_reducible first|refine kZ ?_ ?_|refine kQ ?_ ?_|refine kS ?_ ?_|refine kB ?_ ?_|refine kM ?_ ?_|refine pH ?_ ?_|refine pK ?_ ?_);exact rfl)|((with_reducible first|refine kR ?_ ?_ ?_|refine kT ?_ ?_ ?_|apply kG);exact rfl;exact rfl)|((with_reducible apply gZ);assumption;exact rfl;decide +kernel;exact rfl)|((with_reducible apply kA);assumption;exact rfl;decide +kernel;exact rfl;(first|exact .type _|exact .builtin _);exact rfl)|((with_reducible refine gL ?_ ?_);decide)|((with_reducible refine gK ?_ ?_ ?_);decide;exact PyProof.noPylong_small (by decide))|((with_reducible refine gM ?_ ?_);(first|exact IntMulOk.of_right (intBits_le_64 (by omega) (by omega))|exact IntMulOk.of_left (intBits_le_64 (by omega) (by omega))))|((with_reducible refine kF ?_ ?_ ?_);exact rfl;exact fun _ => rfl)|((with_reducible refine gW ?_ ?_);exact fun _ => rfl)|with_reducible refine pO ?_))
        refine gL (by (first|lia|omega)) ?_
        obtain ⟨v, hv, hvn⟩ := fmod_nat (c.fdiv 4) n (by (first|lia|omega))
        refine gJ ?_
        rw [show 1 + (c.fdiv 4).fmod n = ((1 + v : Nat) : Int) by rw [hv]; (first|lia|omega)]
        repeat (first|with_reducible refine kW ?_|(first|with_reducible (first|refine pB ?_|refine pF ?_|refine pA ?_|refine kX ?_|refine kY ?_|refine gH ?_|refine gG ?_|refine kD ?_|refine gY ?_|refine kJ ?_|refine gX ?_|refine kL ?_|refine kE ?_|refine kK ?_|refine kC ?_|refine kI ?_|refine kO ?_|refine kP ?_|refine kN ?_|refine pJ ?_|refine pG ?_|refine gB ?_|refine gA ?_|refine pM ?_|refine gJ ?_|refine gN ?_|refine gU ?_|refine gQ ?_|refine gO ?_|refine gV ?_|refine pN ?_)|((with_reducible refine And.intro ?_ ?_);(first|(rw [sizeLine_eq];exact of_decide_eq_true rfl)|omega))|((with_reducible first|refine kZ ?_ ?_|refine kQ ?_ ?_|refine kS ?_ ?_|refine kB ?_ ?_|refine kM ?_ ?_|refine pH ?_ ?_|refine pK ?_ ?_);exact rfl)|((with_reducible first|refine kR ?_ ?_ ?_|refine kT ?_ ?_ ?_|apply kG);exact rfl;exact rfl)|((with_reducible apply gZ);assumption;exact rfl;decide +kernel;exact rfl)|((with_reducible apply kA);assumption;exact rfl;decide +kernel;exact rfl;(first|exact .type _|exact .builtin _);exact rfl)|((with_reducible refine gL ?_ ?_);decide)|((with_reducible refine gK ?_ ?_ ?_);decide;exact PyProof.noPylong_small (by decide))|((with_reducible refine gM ?_ ?_);(first|exact IntMulOk.of_right (intBits_le_64 (by omega) (by omega))|exact IntMulOk.of_left (intBits_le_64 (by omega) (by omega))))|((with_reducible refine kF ?_ ?_ ?_);exact rfl;exact fun _ => rfl)|((with_reducible refine gW ?_ ?_);exact fun _ => rfl)|with_reducible refine pO ?_))
        have hE2 := hE.sub (Sub.snoc σ1 [.tuple [.str "var", .int ((1 + v : Nat) : Int)]])
        obtain ⟨f1, f2⟩ := fin _ (.var (1 + v)) σ1.length (sub1.trans (Sub.snoc σ1 [.tuple [.str "var", .int ((1 + v : Nat) : Int)]])) (get_snoc _ _) hE2
        refine tcall_append hE2.g (by rw [sizeLine_eq]; simp; (first|lia|omega)) ?_
        repeat (first|with_reducible refine kW ?_|(first|with_reducible (first|refine pB ?_|refine pF ?_|refine pA ?_|refine kX ?_|refine kY ?_|refine gH ?_|refine gG ?_|refine kD ?_|refine gY ?_|refine kJ ?_|refine gX ?_|refine kL ?_|refine kE ?_|refine kK ?_|refine kC ?_|refine kI ?_|refine kO ?_|refine kP ?_|refine kN ?_|refine pJ ?_|refine pG ?_|refine gB ?_|refine gA ?_|refine pM ?_|refine gJ ?_|refine gN ?_|refine gU ?_|refine gQ ?_|refine gO ?_|refine gV ?_|refine pN ?_)|((with_reducible refine And.intro ?_ ?_);(first|(rw [sizeLine_eq];exact of_decide_eq_true rfl)|omega))|((with_reducible first|refine kZ ?_ ?_|refine kQ ?_ ?_|refine kS ?_ ?_|refine kB ?_ ?_|refine kM ?_ ?_|refine pH ?_ ?_|refine pK ?_ ?_);exact rfl)|((with_reducible first|refine kR ?_ ?_ ?_|refine kT ?_ ?_ ?_|apply kG);exact rfl;exact rfl)|((with_reducible apply gZ);assumption;exact rfl;decide +kernel;exact rfl)|((with_reducible apply kA);assumption;exact rfl;decide +kernel;exact rfl;(first|exact .type _|exact .builtin _);exact rfl)|((with_reducible refine gL ?_ ?_);decide)|((with_reducible refine gK ?_ ?_ ?_);decide;exact PyProof.noPylong_small (by decide))|((with_reducible refine gM ?_ ?_);(first|exact IntMulOk.of_right (intBits_le_64 (by omega) (by omega))|exact IntMulOk.of_left (intBits_le_64 (by omega) (by omega))))|((with_reducible refine kF ?_ ?_ ?_);exact rfl;exact fun _ => rfl)|((with_reducible refine gW ?_ ?_);exact fun _ => rfl)|with_reducible refine pO ?_))
        exact ⟨_, _, hg + 1, by (repeat (first | exact LE.nil | refine LE.cons (by exact rfl) ?_)), f1, f2, hRun_snoc hrun (if_pos (by (first|lia|omega))), by (first|lia|omega), by (first|lia|omega), by simp; (first|lia|omega)⟩
  · rintro m' σ1 ⟨is, es, hg, le, sub1, hE, hrun, hg1, hg2, hel⟩
    refine TX.forget le ?_
    refine kW ?_
    refine ts_for_range rfl rfl ?_
    repeat (first|with_reducible refine kW ?_|(first|with_reducible (first|refine pB ?_|refine pF ?_|refine pA ?_|refine kX ?_|refine kY ?_|refine gH ?_|refine gG ?_|refine kD ?_|refine gY ?_|refine kJ ?_|refine gX ?_|refine kL ?_|refine kE ?_|refine kK ?_|refine kC ?_|refine kI ?_|refine kO ?_|refine kP ?_|refine kN ?_|refine pJ ?_|refine pG ?_|refine gB ?_|refine gA ?_|refine pM ?_|refine gJ ?_|refine gN ?_|refine gU ?_|refine gQ ?_|refine gO ?_|refine gV ?_|refine pN ?_)|((with_reducible refine And.intro ?_ ?_);(first|(rw [sizeLine_eq];exact of_decide_eq_true rfl)|omega))|((with_reducible first|refine kZ ?_ ?_|refine kQ ?_ ?_|refine kS ?_ ?_|refine kB ?_ ?_|refine kM ?_ ?_|refine pH ?_ ?_|refine pK ?_ ?_);exact rfl)|((with_reducible first|refine kR ?_ ?_ ?_|refine kT ?_ ?_ ?_|apply kG);exact rfl;exact rfl)|((with_reducible apply gZ);assumption;exact rfl;decide +kernel;exact rfl)|((with_reducible apply kA);assumption;exact rfl;decide +kernel;exact rfl;(first|exact .type _|exact .builtin _);exact rfl)|((with_reducible refine gL ?_ ?_);decide)|((with_reducible refine gK ?_ ?_ ?_);decide;exact PyProof.noPylong_small (by decide))|((with_reducible refine gM ?_ ?_);(first|exact IntMulOk.of_right (intBits_le_64 (by omega) (by omega))|exact IntMulOk.of_left (intBits_le_64 (by omega) (by omega))))|((with_reducible refine kF ?_ ?_ ?_);exact rfl;exact fun _ => rfl)|((with_reducible refine gW ?_ ?_);exact fun _ => rfl)|with_reducible refine pO ?_))
    refine tcall_range1 ?_
    refine ⟨_, 0, (hg : Int) - 1, 1, hg - 1, fun j m' σ' => ∃ (is : List Nat) (es : List Op), LE [("script", .ref 0), ("n", .int n), ("expr", .ref lx)] m' ∧ Sub σ σ' ∧ ExprP σ' lx is es ∧ hRun n es 0 = some (hg - j) ∧ es.length = ct + 1 + j, rfl, by simp, range_up (by (first|lia|omega)), ⟨is, es, by (repeat (first | exact LE.nil | refine LE.cons (by exact rfl) ?_)), sub1.trans (Sub.snoc _ _), hE.sub (Sub.snoc _ _), hrun, by (first|lia|omega)⟩, ?_, ?_⟩
    · rintro j m' σ2 hj ⟨is2, es2, le2, sub2, hE2, hrun2, hel2⟩
      have hisl := hE2.r.length
      refine TA.forget le2 (ta_name rfl ?_)
      repeat (first|with_reducible refine kW ?_|(first|with_reducible (first|refine pB ?_|refine pF ?_|refine pA ?_|refine kX ?_|refine kY ?_|refine gH ?_|refine gG ?_|refine kD ?_|refine gY ?_|refine kJ ?_|refine gX ?_|refine kL ?_|refine kE ?_|refine kK ?_|refine kC ?_|refine kI ?_|refine kO ?_|refine kP ?_|refine kN ?_|refine pJ ?_|refine pG ?_|refine gB ?_|refine gA ?_|refine pM ?_|refine gJ ?_|refine gN ?_|refine gU ?_|refine gQ ?_|refine gO ?_|refine gV ?_|refine pN ?_)|((with_reducible refine And.intro ?_ ?_);(first|(rw [sizeLine_eq];exact of_decide_eq_true rfl)|omega))|((with_reducible first|refine kZ ?_ ?_|refine kQ ?_ ?_|refine kS ?_ ?_|refine kB ?_ ?_|refine kM ?_ ?_|refine pH ?_ ?_|refine pK ?_ ?_);exact rfl)|((with_reducible first|refine kR ?_ ?_ ?_|refine kT ?_ ?_ ?_|apply kG);exact rfl;exact rfl)|((with_reducible apply gZ);assumption;exact rfl;decide +kernel;exact rfl)|((with_reducible apply kA);assumption;exact rfl;decide +kernel;exact rfl;(first|exact .type _|exact .builtin _);exact rfl)|((with_reducible refine gL ?_ ?_);decide)|((with_reducible refine gK ?_ ?_ ?_);decide;exact PyProof.noPylong_small (by decide))|((with_reducible refine gM ?_ ?_);(first|exact IntMulOk.of_right (intBits_le_64 (by omega) (by omega))|exact IntMulOk.of_left (intBits_le_64 (by omega) (by omega))))|((with_reducible refine kF ?_ ?_ ?_);exact rfl;exact fun _ => rfl)|((with_reducible refine gW ?_ ?_);exact fun _ => rfl)|with_reducible refine pO ?_))
      refine tmeth_append hE2.g ?_
      repeat (first|with_reducible refine kW ?_|(first|with_reducible (first|refine pB ?_|refine pF ?_|refine pA ?_|refine kX ?_|refine kY ?_|refine gH ?_|refine gG ?_|refine kD ?_|refine gY ?_|refine kJ ?_|refine gX ?_|refine kL ?_|refine kE ?_|refine kK ?_|refine kC ?_|refine kI ?_|refine kO ?_|refine kP ?_|refine kN ?_|refine pJ ?_|refine pG ?_|refine gB ?_|refine gA ?_|refine pM ?_|refine gJ ?_|refine gN ?_|refine gU ?_|refine gQ ?_|refine gO ?_|refine gV ?_|refine pN ?_)|((with_reducible refine And.intro ?_ ?_);(first|(rw [sizeLine_eq];exact of_decide_eq_true rfl)|omega))|((with_reducible first|refine kZ ?_ ?_|refine kQ ?_ ?_|refine kS ?_ ?_|refine kB ?_ ?_|refine kM ?_ ?_|refine pH ?_ ?_|refine pK ?_ ?_);exact rfl)|((with_reducible first|refine kR ?_ ?_ ?_|refine kT ?_ ?_ ?_|apply kG);exact rfl;exact rfl)|((with_reducible apply gZ);assumption;exact rfl;decide +kernel;exact rfl)|((with_reducible apply kA);assumption;exact rfl;decide +kernel;exact rfl;(first|exact .type _|exact .builtin _);exact rfl)|((with_reducible refine gL ?_ ?_);decide)|((with_reducible refine gK ?_ ?_ ?_);decide;exact PyProof.noPylong_small (by decide))|((with_reducible refine gM ?_ ?_);(first|exact IntMulOk.of_right (intBits_le_64 (by omega) (by omega))|exact IntMulOk.of_left (intBits_le_64 (by omega) (by omega))))|((with_reducible refine kF ?_ ?_ ?_);exact rfl;exact fun _ => rfl)|((with_reducible refine gW ?_ ?_);exact fun _ => rfl)|with_reducible refine pO ?_))
      refine te_callG go rfl Fo.keeps rfl ?_
      repeat (first|with_reducible refine kW ?_|(first|with_reducible (first|refine pB ?_|refine pF ?_|refine pA ?_|refine kX ?_|refine kY ?_|refine gH ?_|refine gG ?_|refine kD ?_|refine gY ?_|refine kJ ?_|refine gX ?_|refine kL ?_|refine kE ?_|refine kK ?_|refine kC ?_|refine kI ?_|refine kO ?_|refine kP ?_|refine kN ?_|refine pJ ?_|refine pG ?_|refine gB ?_|refine gA ?_|refine pM ?_|refine gJ ?_|refine gN ?_|refine gU ?_|refine gQ ?_|refine gO ?_|refine gV ?_|refine pN ?_)|((with_reducible refine And.intro ?_ ?_);(first|(rw [sizeLine_eq];exact of_decide_eq_true rfl)|omega))|((with_reducible first|refine kZ ?_ ?_|refine kQ ?_ ?_|refine kS ?_ ?_|refine kB ?_ ?_|refine kM ?_ ?_|refine pH ?_ ?_|refine pK ?_ ?_);exact rfl)|((with_reducible first|refine kR ?_ ?_ ?_|refine kT ?_ ?_ ?_|apply kG);exact rfl;exact rfl)|((with_reducible apply gZ);assumption;exact rfl;decide +kernel;exact rfl)|((with_reducible apply kA);assumption;exact rfl;decide +kernel;exact rfl;(first|exact .type _|exact .builtin _);exact rfl)|((with_reducible refine gL ?_ ?_);decide)|((with_reducible refine gK ?_ ?_ ?_);decide;exact PyProof.noPylong_small (by decide))|((with_reducible refine gM ?_ ?_);(first|exact IntMulOk.of_right (intBits_le_64 (by omega) (by omega))|exact IntMulOk.of_left (intBits_le_64 (by omega) (by omega))))|((with_reducible refine kF ?_ ?_ ?_);exact rfl;exact fun _ => rfl)|((with_reducible refine gW ?_ ?_);exact fun _ => rfl)|with_reducible refine pO ?_))
      refine te_callG gc rfl Fc.keeps rfl ?_
      repeat (first|with_reducible refine kW ?_|(first|with_reducible (first|refine pB ?_|refine pF ?_|refine pA ?_|refine kX ?_|refine kY ?_|refine gH ?_|refine gG ?_|refine kD ?_|refine gY ?_|refine kJ ?_|refine gX ?_|refine kL ?_|refine kE ?_|refine kK ?_|refine kC ?_|refine kI ?_|refine kO ?_|refine kP ?_|refine kN ?_|refine pJ ?_|refine pG ?_|refine gB ?_|refine gA ?_|refine pM ?_|refine gJ ?_|refine gN ?_|refine gU ?_|refine gQ ?_|refine gO ?_|refine gV ?_|refine pN ?_)|((with_reducible refine And.intro ?_ ?_);(first|(rw [sizeLine_eq];exact of_decide_eq_true rfl)|omega))|((with_reducible first|refine kZ ?_ ?_|refine kQ ?_ ?_|refine kS ?_ ?_|refine kB ?_ ?_|refine kM ?_ ?_|refine pH ?_ ?_|refine pK ?_ ?_);exact rfl)|((with_reducible first|refine kR ?_ ?_ ?_|refine kT ?_ ?_ ?_|apply kG);exact rfl;exact rfl)|((with_reducible apply gZ);assumption;exact rfl;decide +kernel;exact rfl)|((with_reducible apply kA);assumption;exact rfl;decide +kernel;exact rfl;(first|exact .type _|exact .builtin _);exact rfl)|((with_reducible refine gL ?_ ?_);decide)|((with_reducible refine gK ?_ ?_ ?_);decide;exact PyProof.noPylong_small (by decide))|((with_reducible refine gM ?_ ?_);(first|exact IntMulOk.of_right (intBits_le_64 (by omega) (by omega))|exact IntMulOk.of_left (intBits_le_64 (by omega) (by omega))))|((with_reducible refine kF ?_ ?_ ?_);exact rfl;exact fun _ => rfl)|((with_reducible refine gW ?_ ?_);exact fun _ => rfl)|with_reducible refine pO ?_))
      refine (cell_spec Fc hlen (i := 8 + j) (by (first|lia|omega)) (sub2 _ _ hs) hz ?_).call
      repeat (first|with_reducible refine kW ?_|(first|with_reducible (first|refine pB ?_|refine pF ?_|refine pA ?_|refine kX ?_|refine kY ?_|refine gH ?_|refine gG ?_|refine kD ?_|refine gY ?_|refine kJ ?_|refine gX ?_|refine kL ?_|refine kE ?_|refine kK ?_|refine kC ?_|refine kI ?_|refine kO ?_|refine kP ?_|refine kN ?_|refine pJ ?_|refine pG ?_|refine gB ?_|refine gA ?_|refine pM ?_|refine gJ ?_|refine gN ?_|refine gU ?_|refine gQ ?_|refine gO ?_|refine gV ?_|refine pN ?_)|((with_reducible refine And.intro ?_ ?_);(first|(rw [sizeLine_eq];exact of_decide_eq_true rfl)|omega))|((with_reducible first|refine kZ ?_ ?_|refine kQ ?_ ?_|refine kS ?_ ?_|refine kB ?_ ?_|refine kM ?_ ?_|refine pH ?_ ?_|refine pK ?_ ?_);exact rfl)|((with_reducible first|refine kR ?_ ?_ ?_|refine kT ?_ ?_ ?_|apply kG);exact rfl;exact rfl)|((with_reducible apply gZ);assumption;exact rfl;decide +kernel;exact rfl)|((with_reducible apply kA);assumption;exact rfl;decide +kernel;exact rfl;(first|exact .type _|exact .builtin _);exact rfl)|((with_reducible refine gL ?_ ?_);decide)|((with_reducible refine gK ?_ ?_ ?_);decide;exact PyProof.noPylong_small (by decide))|((with_reducible refine gM ?_ ?_);(first|exact IntMulOk.of_right (intBits_le_64 (by omega) (by omega))|exact IntMulOk.of_left (intBits_le_64 (by omega) (by omega))))|((with_reducible refine kF ?_ ?_ ?_);exact rfl;exact fun _ => rfl)|((with_reducible refine gW ?_ ?_);exact fun _ => rfl)|with_reducible refine pO ?_))
      refine (oper_spec Fo fun o ho => ?_).call
      have hE3 := hE2.sub (Sub.snoc σ2 [.tuple [.str (opK o), .int (opV o)]])
      repeat (first|with_reducible refine kW ?_|(first|with_reducible (first|refine pB ?_|refine pF ?_|refine pA ?_|refine kX ?_|refine kY ?_|refine gH ?_|refine gG ?_|refine kD ?_|refine gY ?_|refine kJ ?_|refine gX ?_|refine kL ?_|refine kE ?_|refine kK ?_|refine kC ?_|refine kI ?_|refine kO ?_|refine kP ?_|refine kN ?_|refine pJ ?_|refine pG ?_|refine gB ?_|refine gA ?_|refine pM ?_|refine gJ ?_|refine gN ?_|refine gU ?_|refine gQ ?_|refine gO ?_|refine gV ?_|refine pN ?_)|((with_reducible refine And.intro ?_ ?_);(first|(rw [sizeLine_eq];exact of_decide_eq_true rfl)|omega))|((with_reducible first|refine kZ ?_ ?_|refine kQ ?_ ?_|refine kS ?_ ?_|refine kB ?_ ?_|refine kM ?_ ?_|refine pH ?_ ?_|refine pK ?_ ?_);exact rfl)|((with_reducible first|refine kR ?_ ?_ ?_|refine kT ?_ ?_ ?_|apply kG);exact rfl;exact rfl)|((with_reducible apply gZ);assumption;exact rfl;decide +kernel;exact rfl)|((with_reducible apply kA);assumption;exact rfl;decide +kernel;exact rfl;(first|exact .type _|exact .builtin _);exact rfl)|((with_reducible refine gL ?_ ?_);decide)|((with_reducible refine gK ?_ ?_ ?_);decide;exact PyProof.noPylong_small (by decide))|((with_reducible refine gM ?_ ?_);(first|exact IntMulOk.of_right (intBits_le_64 (by omega) (by omega))|exact IntMulOk.of_left (intBits_le_64 (by omega) (by omega))))|((with_reducible refine kF ?_ ?_ ?_);exact rfl;exact fun _ => rfl)|((with_reducible refine gW ?_ ?_);exact fun _ => rfl)|with_reducible refine pO ?_))
      refine tcall_append hE3.g (by rw [sizeLine_eq]; simp; (first|lia|omega)) ?_
      repeat (first|with_reducible refine kW ?_|(first|with_reducible (first|refine pB ?_|refine pF ?_|refine pA ?_|refine kX ?_|refine kY ?_|refine gH ?_|refine gG ?_|refine kD ?_|refine gY ?_|refine kJ ?_|refine gX ?_|refine kL ?_|refine kE ?_|refine kK ?_|refine kC ?_|refine kI ?_|refine kO ?_|refine kP ?_|refine kN ?_|refine pJ ?_|refine pG ?_|refine gB ?_|refine gA ?_|refine pM ?_|refine gJ ?_|refine gN ?_|refine gU ?_|refine gQ ?_|refine gO ?_|refine gV ?_|refine pN ?_)|((with_reducible refine And.intro ?_ ?_);(first|(rw [sizeLine_eq];exact of_decide_eq_true rfl)|omega))|((with_reducible first|refine kZ ?_ ?_|refine kQ ?_ ?_|refine kS ?_ ?_|refine kB ?_ ?_|refine kM ?_ ?_|refine pH ?_ ?_|refine pK ?_ ?_);exact rfl)|((with_reducible first|refine kR ?_ ?_ ?_|refine kT ?_ ?_ ?_|apply kG);exact rfl;exact rfl)|((with_reducible apply gZ);assumption;exact rfl;decide +kernel;exact rfl)|((with_reducible apply kA);assumption;exact rfl;decide +kernel;exact rfl;(first|exact .type _|exact .builtin _);exact rfl)|((with_reducible refine gL ?_ ?_);decide)|((with_reducible refine gK ?_ ?_ ?_);decide;exact PyProof.noPylong_small (by decide))|((with_reducible refine gM ?_ ?_);(first|exact IntMulOk.of_right (intBits_le_64 (by omega) (by omega))|exact IntMulOk.of_left (intBits_le_64 (by omega) (by omega))))|((with_reducible refine kF ?_ ?_ ?_);exact rfl;exact fun _ => rfl)|((with_reducible refine gW ?_ ?_);exact fun _ => rfl)|with_reducible refine pO ?_))
      refine ⟨_, _, by (repeat (first | exact LE.nil | refine LE.cons (by exact rfl) ?_)), fun j q e => get_ne (by have := lt_of_get e; (first|lia|omega)) (Sub.snoc _ _ _ _ (sub2 j q e)), hE3.push (get_snoc _ _), ?_, by simp; (first|lia|omega)⟩
      rw [hRun_snoc hrun2 (h_bin ho (by (first|lia|omega)))]
      rfl
    · rintro m' σ2 ⟨is2, es2, le2, sub2, hE2, hrun2, hel2⟩
      refine TX.forget le2 ?_
      repeat (first|with_reducible refine kW ?_|(first|with_reducible (first|refine pB ?_|refine pF ?_|refine pA ?_|refine kX ?_|refine kY ?_|refine gH ?_|refine gG ?_|refine kD ?_|refine gY ?_|refine kJ ?_|refine gX ?_|refine kL ?_|refine kE ?_|refine kK ?_|refine kC ?_|refine kI ?_|refine kO ?_|refine kP ?_|refine kN ?_|refine pJ ?_|refine pG ?_|refine gB ?_|refine gA ?_|refine pM ?_|refine gJ ?_|refine gN ?_|refine gU ?_|refine gQ ?_|refine gO ?_|refine gV ?_|refine pN ?_)|((with_reducible refine And.intro ?_ ?_);(first|(rw [sizeLine_eq];exact of_decide_eq_true rfl)|omega))|((with_reducible first|refine kZ ?_ ?_|refine kQ ?_ ?_|refine kS ?_ ?_|refine kB ?_ ?_|refine kM ?_ ?_|refine pH ?_ ?_|refine pK ?_ ?_);exact rfl)|((with_reducible first|refine kR ?_ ?_ ?_|refine kT ?_ ?_ ?_|apply kG);exact rfl;exact rfl)|((with_reducible apply gZ);assumption;exact rfl;decide +kernel;exact rfl)|((with_reducible apply kA);assumption;exact rfl;decide +kernel;exact rfl;(first|exact .type _|exact .builtin _);exact rfl)|((with_reducible refine gL ?_ ?_);decide)|((with_reducible refine gK ?_ ?_ ?_);decide;exact PyProof.noPylong_small (by decide))|((with_reducible refine gM ?_ ?_);(first|exact IntMulOk.of_right (intBits_le_64 (by omega) (by omega))|exact IntMulOk.of_left (intBits_le_64 (by omega) (by omega))))|((with_reducible refine kF ?_ ?_ ?_);exact rfl;exact fun _ => rfl)|((with_reducible refine gW ?_ ?_);exact fun _ => rfl)|with_reducible refine pO ?_))
      refine h _ _ is2 es2 sub2 hE2 ?_ (by (first|lia|omega))
      rw [hrun2]; congr 1; (first|lia|omega)
def bitsOf : Int → Nat → List Int
  | _, 0 => []
  | k, n + 1 => (if (k.fmod 2 == 1) = true then 1 else -1) :: bitsOf (k.fdiv 2) n
theorem fdiv2 {r : Int} (r0 : 0 ≤ r) (r1 : r < 2 ^ 60) : 0 ≤ r.fdiv 2 ∧ r.fdiv 2 < 2 ^ 60 := by
  rw [Int.fdiv_eq_ediv_of_nonneg _ (by decide)]; (first|lia|omega)
theorem len_bits : ∀ (n : Nat) (k : Int), (bitsOf k n).length = n
  | 0, _ => rfl
  | n + 1, k => by rw [bitsOf, List.length_cons, len_bits n]
theorem bits_pm : ∀ (n : Nat) (k : Int), ∀ x ∈ bitsOf k n, x = 1 ∨ x = -1
  | n + 1, k, x, h => by
    rw [bitsOf] at h
    rcases List.mem_cons.mp h with q | q
    · subst q; split <;> simp
    · exact bits_pm n _ x q
theorem von_spec {W : Wd} {f : Addr} (F : FnIs W f ["k", "n"] (fnBody pw 1) (fnScope pw 1)) (hr : W.mg "range" = none) {lv : Nat} {k : Int} {n : Nat} {σ : AH} {Q : AV → AH → Prop} (hn : n ≤ 100) (hk : 0 ≤ k ∧ k < 2 ^ 60)
    (h : ∀ σ', Sub σ σ' → σ'[σ.length]? = some (.list ((0 :: bitsOf k n).map .int)) → Q (.ref σ.length) σ') : TCode W (lv + 1) (.stat (.ref f)) [.int k, .int n] Q σ := by
  refine code_fn F rfl ?_
  refine kW ?_
  repeat (first|with_reducible refine kW ?_|(first|with_reducible (first|refine pB ?_|refine pF ?_|refine pA ?_|refine kX ?_|refine kY ?_|refine gH ?_|refine gG ?_|refine kD ?_|refine gY ?_|refine kJ ?_|refine gX ?_|refine kL ?_|refine kE ?_|refine kK ?_|refine kC ?_|refine kI ?_|refine kO ?_|refine kP ?_|refine kN ?_|refine pJ ?_|refine pG ?_|refine gB ?_|refine gA ?_|refine pM ?_|refine gJ ?_|refine gN ?_|refine gU ?_|refine gQ ?_|refine gO ?_|refine gV ?_|refine pN ?_)|((with_reducible refine And.intro ?_ ?_);(first|(rw [sizeLine_eq];exact of_decide_eq_true rfl)|omega))|((with_reducible first|refine kZ ?_ ?_|refine kQ ?_ ?_|refine kS ?_ ?_|refine kB ?_ ?_|refine kM ?_ ?_|refine pH ?_ ?_|refine pK ?_ ?_);exact rfl)|((with_reducible first|refine kR ?_ ?_ ?_|refine kT ?_ ?_ ?_|apply kG);exact rfl;exact rfl)|((with_reducible apply gZ);assumption;exact rfl;decide +kernel;exact rfl)|((with_reducible apply kA);assumption;exact rfl;decide +kernel;exact rfl;(first|exact .type _|exact .builtin _);exact rfl)|((with_reducible refine gL ?_ ?_);decide)|((with_reducible refine gK ?_ ?_ ?_);decide;exact PyProof.noPylong_small (by decide))|((with_reducible refine gM ?_ ?_);(first|exact IntMulOk.of_right (intBits_le_64 (by omega) (by omega))|exact IntMulOk.of_left (intBits_le_64 (by omega) (by omega))))|((with_reducible refine kF ?_ ?_ ?_);exact rfl;exact fun _ => rfl)|((with_reducible refine gW ?_ ?_);exact fun _ => rfl)|with_reducible refine pO ?_))
  refine ts_for_range rfl rfl ?_
  repeat (first|with_reducible refine kW ?_|(first|with_reducible (first|refine pB ?_|refine pF ?_|refine pA ?_|refine kX ?_|refine kY ?_|refine gH ?_|refine gG ?_|refine kD ?_|refine gY ?_|refine kJ ?_|refine gX ?_|refine kL ?_|refine kE ?_|refine kK ?_|refine kC ?_|refine kI ?_|refine kO ?_|refine kP ?_|refine kN ?_|refine pJ ?_|refine pG ?_|refine gB ?_|refine gA ?_|refine pM ?_|refine gJ ?_|refine gN ?_|refine gU ?_|refine gQ ?_|refine gO ?_|refine gV ?_|refine pN ?_)|((with_reducible refine And.intro ?_ ?_);(first|(rw [sizeLine_eq];exact of_decide_eq_true rfl)|omega))|((with_reducible first|refine kZ ?_ ?_|refine kQ ?_ ?_|refine kS ?_ ?_|refine kB ?_ ?_|refine kM ?_ ?_|refine pH ?_ ?_|refine pK ?_ ?_);exact rfl)|((with_reducible first|refine kR ?_ ?_ ?_|refine kT ?_ ?_ ?_|apply kG);exact rfl;exact rfl)|((with_reducible apply gZ);assumption;exact rfl;decide +kernel;exact rfl)|((with_reducible apply kA);assumption;exact rfl;decide +kernel;exact rfl;(first|exact .type _|exact .builtin _);exact rfl)|((with_reducible refine gL ?_ ?_);decide)|((with_reducible refine gK ?_ ?_ ?_);decide;exact PyProof.noPylong_small (by decide))|((with_reducible refine gM ?_ ?_);(first|exact IntMulOk.of_right (intBits_le_64 (by omega) (by omega))|exact IntMulOk.of_left (intBits_le_64 (by omega) (by omega))))|((with_reducible refine kF ?_ ?_ ?_);exact rfl;exact fun _ => rfl)|((with_reducible refine gW ?_ ?_);exact fun _ => rfl)|with_reducible refine pO ?_))
  refine tcall_range2 ?_
  refine ⟨_, 1, (n : Int) + 1, 1, n, fun i m' σ' => ∃ r, LE [("values", .ref σ.length), ("rest", .int r)] m' ∧ 0 ≤ r ∧ r < 2 ^ 60 ∧ Sub σ σ' ∧ ∃ ys : List Int, σ'[σ.length]? = some (.list (ys.map .int)) ∧ ys.length = i + 1 ∧ ys ++ bitsOf r (n - i) = 0 :: bitsOf k n, rfl, by simp, range_up (by (first|lia|omega)), ?_, ?_, ?_⟩
  · refine ⟨k, by (repeat (first | exact LE.nil | refine LE.cons (by exact rfl) ?_)), hk.1, hk.2, (Sub.snoc _ _).trans (Sub.snoc _ _), [0], by simp, rfl, rfl⟩
  · rintro i m' σ' hi ⟨r, le, r0, r1, sub, ys, hy, hl, hb⟩
    have e : n - i = (n - (i + 1)) + 1 := by (first|lia|omega)
    rw [e, bitsOf] at hb
    have stp : ∀ x : Int, x = (if (r.fmod 2 == 1) = true then 1 else -1) → ∃ ys' : List Int, (σ'.set σ.length (.list (ys.map .int ++ [.int x])))[σ.length]? = some (.list (ys'.map .int)) ∧ ys'.length = i + 1 + 1 ∧ ys' ++ bitsOf (r.fdiv 2) (n - (i + 1)) = 0 :: bitsOf k n := fun x hx =>
      ⟨ys ++ [x], by rw [get_set hy]; simp, by simp [hl], by rw [List.append_assoc]; subst hx; exact hb⟩
    have sb : ∀ o, Sub σ (σ'.set σ.length o) := fun o j q e => by rw [List.getElem?_set_ne (by have := lt_of_get e; (first|lia|omega))]; exact sub j q e
    refine TA.forget le (ta_name rfl ?_)
    repeat (first|with_reducible refine kW ?_|(first|with_reducible (first|refine pB ?_|refine pF ?_|refine pA ?_|refine kX ?_|refine kY ?_|refine gH ?_|refine gG ?_|refine kD ?_|refine gY ?_|refine kJ ?_|refine gX ?_|refine kL ?_|refine kE ?_|refine kK ?_|refine kC ?_|refine kI ?_|refine kO ?_|refine kP ?_|refine kN ?_|refine pJ ?_|refine pG ?_|refine gB ?_|refine gA ?_|refine pM ?_|refine gJ ?_|refine gN ?_|refine gU ?_|refine gQ ?_|refine gO ?_|refine gV ?_|refine pN ?_)|((with_reducible refine And.intro ?_ ?_);(first|(rw [sizeLine_eq];exact of_decide_eq_true rfl)|omega))|((with_reducible first|refine kZ ?_ ?_|refine kQ ?_ ?_|refine kS ?_ ?_|refine kB ?_ ?_|refine kM ?_ ?_|refine pH ?_ ?_|refine pK ?_ ?_);exact rfl)|((with_reducible first|refine kR ?_ ?_ ?_|refine kT ?_ ?_ ?_|apply kG);exact rfl;exact rfl)|((with_reducible apply gZ);assumption;exact rfl;decide +kernel;exact rfl)|((with_reducible apply kA);assumption;exact rfl;decide +kernel;exact rfl;(first|exact .type _|exact .builtin _);exact rfl)|((with_reducible refine gL ?_ ?_);decide)|((with_reducible refine gK ?_ ?_ ?_);decide;exact PyProof.noPylong_small (by decide))|((with_reducible refine gM ?_ ?_);(first|exact IntMulOk.of_right (intBits_le_64 (by omega) (by omega))|exact IntMulOk.of_left (intBits_le_64 (by omega) (by omega))))|((with_reducible refine kF ?_ ?_ ?_);exact rfl;exact fun _ => rfl)|((with_reducible refine gW ?_ ?_);exact fun _ => rfl)|with_reducible refine pO ?_))
    split
    · rename_i hc
      repeat (first|with_reducible refine kW ?_|(first|with_reducible (first|refine pB ?_|refine pF ?_|refine pA ?_|refine kX ?_|refine kY ?_|refine gH ?_|refine gG ?_|refine kD ?_|refine gY ?_|refine kJ ?_|refine gX ?_|refine kL ?_|refine kE ?_|refine kK ?_|refine kC ?_|refine kI ?_|refine kO ?_|refine kP ?_|refine kN ?_|refine pJ ?_|refine pG ?_|refine gB ?_|refine gA ?_|refine pM ?_|refine gJ ?_|refine gN ?_|refine gU ?_|refine gQ ?_|refine gO ?_|refine gV ?_|refine pN ?_)|((with_reducible refine And.intro ?_ ?_);(first|(rw [sizeLine_eq];exact of_decide_eq_true rfl)|omega))|((with_reducible first|refine kZ ?_ ?_|refine kQ ?_ ?_|refine kS ?_ ?_|refine kB ?_ ?_|refine kM ?_ ?_|refine pH ?_ ?_|refine pK ?_ ?_);exact rfl)|((with_reducible first|refine kR ?_ ?_ ?_|refine kT ?_ ?_ ?_|apply kG);exact rfl;exact rfl)|((with_reducible apply gZ);assumption;exact rfl;decide +kernel;exact rfl)|((with_reducible apply kA);assumption;exact rfl;decide +kernel;exact rfl;(first|exact .type _|exact .builtin _);exact rfl)|((with_reducible refine gL ?_ ?_);decide)|((with_reducible refine gK ?_ ?_ ?_);decide;exact PyProof.noPylong_small (by decide))|((with_reducible refine gM ?_ ?_);(first|exact IntMulOk.of_right (intBits_le_64 (by omega) (by omega))|exact IntMulOk.of_left (intBits_le_64 (by omega) (by omega))))|((with_reducible refine kF ?_ ?_ ?_);exact rfl;exact fun _ => rfl)|((with_reducible refine gW ?_ ?_);exact fun _ => rfl)|with_reducible refine pO ?_))
      refine tmeth_append hy ?_
      repeat (first|with_reducible refine kW ?_|(first|with_reducible (first|refine pB ?_|refine pF ?_|refine pA ?_|refine kX ?_|refine kY ?_|refine gH ?_|refine gG ?_|refine kD ?_|refine gY ?_|refine kJ ?_|refine gX ?_|refine kL ?_|refine kE ?_|refine kK ?_|refine kC ?_|refine kI ?_|refine kO ?_|refine kP ?_|refine kN ?_|refine pJ ?_|refine pG ?_|refine gB ?_|refine gA ?_|refine pM ?_|refine gJ ?_|refine gN ?_|refine gU ?_|refine gQ ?_|refine gO ?_|refine gV ?_|refine pN ?_)|((with_reducible refine And.intro ?_ ?_);(first|(rw [sizeLine_eq];exact of_decide_eq_true rfl)|omega))|((with_reducible first|refine kZ ?_ ?_|refine kQ ?_ ?_|refine kS ?_ ?_|refine kB ?_ ?_|refine kM ?_ ?_|refine pH ?_ ?_|refine pK ?_ ?_);exact rfl)|((with_reducible first|refine kR ?_ ?_ ?_|refine kT ?_ ?_ ?_|apply kG);exact rfl;exact rfl)|((with_reducible apply gZ);assumption;exact rfl;decide +kernel;exact rfl)|((with_reducible apply kA);assumption;exact rfl;decide +kernel;exact rfl;(first|exact .type _|exact .builtin _);exact rfl)|((with_reducible refine gL ?_ ?_);decide)|((with_reducible refine gK ?_ ?_ ?_);decide;exact PyProof.noPylong_small (by decide))|((with_reducible refine gM ?_ ?_);(first|exact IntMulOk.of_right (intBits_le_64 (by omega) (by omega))|exact IntMulOk.of_left (intBits_le_64 (by omega) (by omega))))|((with_reducible refine kF ?_ ?_ ?_);exact rfl;exact fun _ => rfl)|((with_reducible refine gW ?_ ?_);exact fun _ => rfl)|with_reducible refine pO ?_))
      refine tcall_append hy (by rw [sizeLine_eq]; simp; (first|lia|omega)) ?_
      repeat (first|with_reducible refine kW ?_|(first|with_reducible (first|refine pB ?_|refine pF ?_|refine pA ?_|refine kX ?_|refine kY ?_|refine gH ?_|refine gG ?_|refine kD ?_|refine gY ?_|refine kJ ?_|refine gX ?_|refine kL ?_|refine kE ?_|refine kK ?_|refine kC ?_|refine kI ?_|refine kO ?_|refine kP ?_|refine kN ?_|refine pJ ?_|refine pG ?_|refine gB ?_|refine gA ?_|refine pM ?_|refine gJ ?_|refine gN ?_|refine gU ?_|refine gQ ?_|refine gO ?_|refine gV ?_|refine pN ?_)|((with_reducible refine And.intro ?_ ?_);(first|(rw [sizeLine_eq];exact of_decide_eq_true rfl)|omega))|((with_reducible first|refine kZ ?_ ?_|refine kQ ?_ ?_|refine kS ?_ ?_|refine kB ?_ ?_|refine kM ?_ ?_|refine pH ?_ ?_|refine pK ?_ ?_);exact rfl)|((with_reducible first|refine kR ?_ ?_ ?_|refine kT ?_ ?_ ?_|apply kG);exact rfl;exact rfl)|((with_reducible apply gZ);assumption;exact rfl;decide +kernel;exact rfl)|((with_reducible apply kA);assumption;exact rfl;decide +kernel;exact rfl;(first|exact .type _|exact .builtin _);exact rfl)|((with_reducible refine gL ?_ ?_);decide)|((with_reducible refine gK ?_ ?_ ?_);decide;exact PyProof.noPylong_small (by decide))|((with_reducible refine gM ?_ ?_);(first|exact IntMulOk.of_right (intBits_le_64 (by omega) (by omega))|exact IntMulOk.of_left (intBits_le_64 (by omega) (by omega))))|((with_reducible refine kF ?_ ?_ ?_);exact rfl;exact fun _ => rfl)|((with_reducible refine gW ?_ ?_);exact fun _ => rfl)|with_reducible refine pO ?_))
      exact ⟨r.fdiv 2, by (repeat (first | exact LE.nil | refine LE.cons (by exact rfl) ?_)), (fdiv2 r0 r1).1, (fdiv2 r0 r1).2, sb _, stp 1 (by rw [if_pos hc])⟩
    · rename_i hc
      repeat (first|with_reducible refine kW ?_|(first|with_reducible (first|refine pB ?_|refine pF ?_|refine pA ?_|refine kX ?_|refine kY ?_|refine gH ?_|refine gG ?_|refine kD ?_|refine gY ?_|refine kJ ?_|refine gX ?_|refine kL ?_|refine kE ?_|refine kK ?_|refine kC ?_|refine kI ?_|refine kO ?_|refine kP ?_|refine kN ?_|refine pJ ?_|refine pG ?_|refine gB ?_|refine gA ?_|refine pM ?_|refine gJ ?_|refine gN ?_|refine gU ?_|refine gQ ?_|refine gO ?_|refine gV ?_|refine pN ?_)|((with_reducible refine And.intro ?_ ?_);(first|(rw [sizeLine_eq];exact of_decide_eq_true rfl)|omega))|((with_reducible first|refine kZ ?_ ?_|refine kQ ?_ ?_|refine kS ?_ ?_|refine kB ?_ ?_|refine kM ?_ ?_|refine pH ?_ ?_|refine pK ?_ ?_);exact rfl)|((with_reducible first|refine kR ?_ ?_ ?_|refine kT ?_ ?_ ?_|apply kG);exact rfl;exact rfl)|((with_reducible apply gZ);assumption;exact rfl;decide +kernel;exact rfl)|((with_reducible apply kA);assumption;exact rfl;decide +kernel;exact rfl;(first|exact .type _|exact .builtin _);exact rfl)|((with_reducible refine gL ?_ ?_);decide)|((with_reducible refine gK ?_ ?_ ?_);decide;exact PyProof.noPylong_small (by decide))|((with_reducible refine gM ?_ ?_);(first|exact IntMulOk.of_right (intBits_le_64 (by omega) (by omega))|exact IntMulOk.of_left (intBits_le_64 (by omega) (by omega))))|((with_reducible refine kF ?_ ?_ ?_);exact rfl;exact fun _ => rfl)|((with_reducible refine gW ?_ ?_);exact fun _ => rfl)|with_reducible refine pO ?_))
      refine tmeth_append hy ?_
      repeat (first|with_reducible refine kW ?_|(first|with_reducible (first|refine pB ?_|refine pF ?_|refine pA ?_|refine kX ?_|refine kY ?_|refine gH ?_|refine gG ?_|refine kD ?_|refine gY ?_|refine kJ ?_|refine gX ?_|refine kL ?_|refine kE ?_|refine kK ?_|refine kC ?_|refine kI ?_|refine kO ?_|refine kP ?_|refine kN ?_|refine pJ ?_|refine pG ?_|refine gB ?_|refine gA ?_|refine pM ?_|refine gJ ?_|refine gN ?_|refine gU ?_|refine gQ ?_|refine gO ?_|refine gV ?_|refine pN ?_)|((with_reducible refine And.intro ?_ ?_);(first|(rw [sizeLine_eq];exact of_decide_eq_true rfl)|omega))|((with_reducible first|refine kZ ?_ ?_|refine kQ ?_ ?_|refine kS ?_ ?_|refine kB ?_ ?_|refine kM ?_ ?_|refine pH ?_ ?_|refine pK ?_ ?_);exact rfl)|((with_reducible first|refine kR ?_ ?_ ?_|refine kT ?_ ?_ ?_|apply kG);exact rfl;exact rfl)|((with_reducible apply gZ);assumption;exact rfl;decide +kernel;exact rfl)|((with_reducible apply kA);assumption;exact rfl;decide +kernel;exact rfl;(first|exact .type _|exact .builtin _);exact rfl)|((with_reducible refine gL ?_ ?_);decide)|((with_reducible refine gK ?_ ?_ ?_);decide;exact PyProof.noPylong_small (by decide))|((with_reducible refine gM ?_ ?_);(first|exact IntMulOk.of_right (intBits_le_64 (by omega) (by omega))|exact IntMulOk.of_left (intBits_le_64 (by omega) (by omega))))|((with_reducible refine kF ?_ ?_ ?_);exact rfl;exact fun _ => rfl)|((with_reducible refine gW ?_ ?_);exact fun _ => rfl)|with_reducible refine pO ?_))
      refine tcall_append hy (by rw [sizeLine_eq]; simp; (first|lia|omega)) ?_
      repeat (first|with_reducible refine kW ?_|(first|with_reducible (first|refine pB ?_|refine pF ?_|refine pA ?_|refine kX ?_|refine kY ?_|refine gH ?_|refine gG ?_|refine kD ?_|refine gY ?_|refine kJ ?_|refine gX ?_|refine kL ?_|refine kE ?_|refine kK ?_|refine kC ?_|refine kI ?_|refine kO ?_|refine kP ?_|refine kN ?_|refine pJ ?_|refine pG ?_|refine gB ?_|refine gA ?_|refine pM ?_|refine gJ ?_|refine gN ?_|refine gU ?_|refine gQ ?_|refine gO ?_|refine gV ?_|refine pN ?_)|((with_reducible refine And.intro ?_ ?_);(first|(rw [sizeLine_eq];exact of_decide_eq_true rfl)|omega))|((with_reducible first|refine kZ ?_ ?_|refine kQ ?_ ?_|refine kS ?_ ?_|refine kB ?_ ?_|refine kM ?_ ?_|refine pH ?_ ?_|refine pK ?_ ?_);exact rfl)|((with_reducible first|refine kR ?_ ?_ ?_|refine kT ?_ ?_ ?_|apply kG);exact rfl;exact rfl)|((with_reducible apply gZ);assumption;exact rfl;decide +kernel;exact rfl)|((with_reducible apply kA);assumption;exact rfl;decide +kernel;exact rfl;(first|exact .type _|exact .builtin _);exact rfl)|((with_reducible refine gL ?_ ?_);decide)|((with_reducible refine gK ?_ ?_ ?_);decide;exact PyProof.noPylong_small (by decide))|((with_reducible refine gM ?_ ?_);(first|exact IntMulOk.of_right (intBits_le_64 (by omega) (by omega))|exact IntMulOk.of_left (intBits_le_64 (by omega) (by omega))))|((with_reducible refine kF ?_ ?_ ?_);exact rfl;exact fun _ => rfl)|((with_reducible refine gW ?_ ?_);exact fun _ => rfl)|with_reducible refine pO ?_))
      exact ⟨r.fdiv 2, by (repeat (first | exact LE.nil | refine LE.cons (by exact rfl) ?_)), (fdiv2 r0 r1).1, (fdiv2 r0 r1).2, sb _, stp (-1) (by rw [if_neg hc])⟩
  · rintro m' σ' ⟨r, le, r0, r1, sub, ys, hy, hl, hb⟩
    refine TX.forget le ?_
    repeat (first|with_reducible refine kW ?_|(first|with_reducible (first|refine pB ?_|refine pF ?_|refine pA ?_|refine kX ?_|refine kY ?_|refine gH ?_|refine gG ?_|refine kD ?_|refine gY ?_|refine kJ ?_|refine gX ?_|refine kL ?_|refine kE ?_|refine kK ?_|refine kC ?_|refine kI ?_|refine kO ?_|refine kP ?_|refine kN ?_|refine pJ ?_|refine pG ?_|refine gB ?_|refine gA ?_|refine pM ?_|refine gJ ?_|refine gN ?_|refine gU ?_|refine gQ ?_|refine gO ?_|refine gV ?_|refine pN ?_)|((with_reducible refine And.intro ?_ ?_);(first|(rw [sizeLine_eq];exact of_decide_eq_true rfl)|omega))|((with_reducible first|refine kZ ?_ ?_|refine kQ ?_ ?_|refine kS ?_ ?_|refine kB ?_ ?_|refine kM ?_ ?_|refine pH ?_ ?_|refine pK ?_ ?_);exact rfl)|((with_reducible first|refine kR ?_ ?_ ?_|refine kT ?_ ?_ ?_|apply kG);exact rfl;exact rfl)|((with_reducible apply gZ);assumption;exact rfl;decide +kernel;exact rfl)|((with_reducible apply kA);assumption;exact rfl;decide +kernel;exact rfl;(first|exact .type _|exact .builtin _);exact rfl)|((with_reducible refine gL ?_ ?_);decide)|((with_reducible refine gK ?_ ?_ ?_);decide;exact PyProof.noPylong_small (by decide))|((with_reducible refine gM ?_ ?_);(first|exact IntMulOk.of_right (intBits_le_64 (by omega) (by omega))|exact IntMulOk.of_left (intBits_le_64 (by omega) (by omega))))|((with_reducible refine kF ?_ ?_ ?_);exact rfl;exact fun _ => rfl)|((with_reducible refine gW ?_ ?_);exact fun _ => rfl)|with_reducible refine pO ?_))
    rw [Nat.sub_self, bitsOf, List.append_nil] at hb
    subst hb
    exact h _ sub hy
theorem ans_ok {n : Nat} {cs : List (List Int)} : ∀ (k : Nat) (s : St), PyData.strOk (solveM n cs k s).1 = true
  | 0, s => by show PyData.strOk "fuel" = true; decide +kernel
  | k + 1, s => by
    unfold solveM
    split
    · show PyData.strOk "unsat" = true; decide +kernel
    · show PyData.strOk "sat" = true; decide +kernel
    · exact ans_ok k _
theorem ok_sat : PyData.strOk "sat" = true := by decide +kernel
theorem unsat_ne : (("unsat" : Str) == "sat") = false := by decide +kernel
theorem sat_eq : (("sat" : Str) == "sat") = true := by decide +kernel
theorem units_len (ws : List Int) (n : Nat) : (unitsM ws n).length = n := by unfold unitsM; simp
theorem units_take {ws : List Int} {n j : Nat} (h : j < n) : (unitsM ws n).take (j + 1) = (unitsM ws n).take j ++ [[((j : Int) + 1) * (ws[j + 1]?).getD 0]] := by
  rw [List.take_add_one]
  congr 1
  unfold unitsM
  rw [List.getElem?_map, List.getElem?_range h]; rfl
theorem ltk_spec {W : Wd} {K : Frag} {Cs Ct f fn fe ft fv a0 a1 a2 a3 a4 a5 a6 a7 a8 a9 a10 a11 a12 a13 : Addr} (S : SolM W K Cs Ct a0 a1 a2 a3 a4 a5 a6 a7 a8 a9 a10 a11 a12 a13) (F : FnIs W f ["expr", "n", "k"] (fnBody pw 10) (fnScope pw 10)) (Fn : FnIs W fn ["k", "n"] (fnBody pw 1) (fnScope pw 1)) (Fe : FnIs W fe ["expr", "values"] (fnBody pw 4) (fnScope pw 4)) (Ft : FnIs W ft ["expr", "n"] (fnBody pw 5) (fnScope pw 5)) (Fv : FnIs W fv ["clauses", "n"] (fnBody pw 9) (fnScope pw 9)) (gn : W.mg "values_of_number" = some (.ref fn)) (ge : W.mg "evaluate" = some (.ref fe)) (gt : W.mg "tseitin" = some (.ref ft)) (gv : W.mg "verdict" = some (.ref fv))
    {lv n lx : Nat} {k : Int} {is : List Nat} {es : List Op} {σ : AH} {Q : AV → AH → Prop} (hx : ExprP σ lx is es) (hrun : hRun n es 0 = some 1) (hel : es.length ≤ 9) (hn : 1 ≤ n ∧ n ≤ 3) (hk : 0 ≤ k ∧ k < 2 ^ 60)
    (h : ∀ σ', Sub σ σ' → Q (.bool true) σ') : TCode W (lv + 7) (.stat (.ref f)) [.ref lx, .int n, .int k] Q σ := by
  have hr := S.hrange
  generalize hws : (0 :: bitsOf k n) = ws
  have hwl : ws.length = n + 1 := by rw [← hws, List.length_cons, len_bits]
  have hpm : ∀ v, 1 ≤ v → v ≤ n → (ws[v]?).getD 0 = 1 ∨ (ws[v]?).getD 0 = -1 := fun v h1 h2 => by
    rw [List.getElem?_eq_getElem (by (first|lia|omega) : v < ws.length)]
    obtain ⟨w, rfl⟩ : ∃ w, v = w + 1 := ⟨v - 1, by (first|lia|omega)⟩
    subst hws
    exact bits_pm n k _ (List.getElem_mem (by rw [len_bits]; (first|lia|omega)))
  obtain ⟨s, bs, p1, p2, p3, p4, p5, p6, p7, p8⟩ := run_all (n := n) (val := fun v => (ws[v]?).getD 0 == 1) (s := ⟨[], n, []⟩) (bs := []) rfl rfl (TsI.nil _ _) hrun
  obtain ⟨root, hroot⟩ := List.length_eq_one_iff.mp p3
  obtain ⟨b, rfl⟩ := List.length_eq_one_iff.mp p4
  have p6 : s.tot ≤ n + es.length := p6
  have p7 : s.cls.length ≤ 0 + 3 * es.length := p7
  have p8 := p8 (fun c hc => by cases hc)
  have hsat := ts_sat hpm p5 hroot
  have hrt := p5.st root (by rw [hroot]; exact .head _)
  have hokall : okCls s.tot (s.cls ++ unitsM ws n ++ [[root]]) := by
    intro c hc l hl
    have hle := p5.le
    rcases List.mem_append.mp hc with q | q
    · rcases List.mem_append.mp q with q | q
      · exact p5.ok c q l hl
      · unfold unitsM at q
        obtain ⟨j, hj, rfl⟩ := List.mem_map.mp q
        have := List.mem_range.mp hj
        rw [List.mem_singleton.mp hl]
        unfold inR
        rcases hpm (j + 1) (by (first|lia|omega)) (by (first|lia|omega)) with z | z <;> rw [z] <;> (first|lia|omega)
    · rw [List.mem_singleton.mp q] at hl
      rw [List.mem_singleton.mp hl]
      unfold inR; (first|lia|omega)
  refine code_fn F rfl ?_
  refine kW ?_
  repeat (first|with_reducible refine kW ?_|(first|with_reducible (first|refine pB ?_|refine pF ?_|refine pA ?_|refine kX ?_|refine kY ?_|refine gH ?_|refine gG ?_|refine kD ?_|refine gY ?_|refine kJ ?_|refine gX ?_|refine kL ?_|refine kE ?_|refine kK ?_|refine kC ?_|refine kI ?_|refine kO ?_|refine kP ?_|refine kN ?_|refine pJ ?_|refine pG ?_|refine gB ?_|refine gA ?_|refine pM ?_|refine gJ ?_|refine gN ?_|refine gU ?_|refine gQ ?_|refine gO ?_|refine gV ?_|refine pN ?_)|((with_reducible refine And.intro ?_ ?_);(first|(rw [sizeLine_eq];exact of_decide_eq_true rfl)|omega))|((with_reducible first|refine kZ ?_ ?_|refine kQ ?_ ?_|refine kS ?_ ?_|refine kB ?_ ?_|refine kM ?_ ?_|refine pH ?_ ?_|refine pK ?_ ?_);exact rfl)|((with_reducible first|refine kR ?_ ?_ ?_|refine kT ?_ ?_ ?_|apply kG);exact rfl;exact rfl)|((with_reducible apply gZ);assumption;exact rfl;decide +kernel;exact rfl)|((with_reducible apply kA);assumption;exact rfl;decide +kernel;exact rfl;(first|exact .type _|exact .builtin _);exact rfl)|((with_reducible refine gL ?_ ?_);decide)|((with_reducible refine gK ?_ ?_ ?_);decide;exact PyProof.noPylong_small (by decide))|((with_reducible refine gM ?_ ?_);(first|exact IntMulOk.of_right (intBits_le_64 (by omega) (by omega))|exact IntMulOk.of_left (intBits_le_64 (by omega) (by omega))))|((with_reducible refine kF ?_ ?_ ?_);exact rfl;exact fun _ => rfl)|((with_reducible refine gW ?_ ?_);exact fun _ => rfl)|with_reducible refine pO ?_))
  refine te_callG gn rfl Fn.keeps rfl ?_
  repeat (first|with_reducible refine kW ?_|(first|with_reducible (first|refine pB ?_|refine pF ?_|refine pA ?_|refine kX ?_|refine kY ?_|refine gH ?_|refine gG ?_|refine kD ?_|refine gY ?_|refine kJ ?_|refine gX ?_|refine kL ?_|refine kE ?_|refine kK ?_|refine kC ?_|refine kI ?_|refine kO ?_|refine kP ?_|refine kN ?_|refine pJ ?_|refine pG ?_|refine gB ?_|refine gA ?_|refine pM ?_|refine gJ ?_|refine gN ?_|refine gU ?_|refine gQ ?_|refine gO ?_|refine gV ?_|refine pN ?_)|((with_reducible refine And.intro ?_ ?_);(first|(rw [sizeLine_eq];exact of_decide_eq_true rfl)|omega))|((with_reducible first|refine kZ ?_ ?_|refine kQ ?_ ?_|refine kS ?_ ?_|refine kB ?_ ?_|refine kM ?_ ?_|refine pH ?_ ?_|refine pK ?_ ?_);exact rfl)|((with_reducible first|refine kR ?_ ?_ ?_|refine kT ?_ ?_ ?_|apply kG);exact rfl;exact rfl)|((with_reducible apply gZ);assumption;exact rfl;decide +kernel;exact rfl)|((with_reducible apply kA);assumption;exact rfl;decide +kernel;exact rfl;(first|exact .type _|exact .builtin _);exact rfl)|((with_reducible refine gL ?_ ?_);decide)|((with_reducible refine gK ?_ ?_ ?_);decide;exact PyProof.noPylong_small (by decide))|((with_reducible refine gM ?_ ?_);(first|exact IntMulOk.of_right (intBits_le_64 (by omega) (by omega))|exact IntMulOk.of_left (intBits_le_64 (by omega) (by omega))))|((with_reducible refine kF ?_ ?_ ?_);exact rfl;exact fun _ => rfl)|((with_reducible refine gW ?_ ?_);exact fun _ => rfl)|with_reducible refine pO ?_))
  refine (von_spec Fn hr (by (first|lia|omega)) hk fun σ1 sub1 hw => ?_).call
  rw [hws] at hw
  generalize σ.length = lw at hw ⊢
  repeat (first|with_reducible refine kW ?_|(first|with_reducible (first|refine pB ?_|refine pF ?_|refine pA ?_|refine kX ?_|refine kY ?_|refine gH ?_|refine gG ?_|refine kD ?_|refine gY ?_|refine kJ ?_|refine gX ?_|refine kL ?_|refine kE ?_|refine kK ?_|refine kC ?_|refine kI ?_|refine kO ?_|refine kP ?_|refine kN ?_|refine pJ ?_|refine pG ?_|refine gB ?_|refine gA ?_|refine pM ?_|refine gJ ?_|refine gN ?_|refine gU ?_|refine gQ ?_|refine gO ?_|refine gV ?_|refine pN ?_)|((with_reducible refine And.intro ?_ ?_);(first|(rw [sizeLine_eq];exact of_decide_eq_true rfl)|omega))|((with_reducible first|refine kZ ?_ ?_|refine kQ ?_ ?_|refine kS ?_ ?_|refine kB ?_ ?_|refine kM ?_ ?_|refine pH ?_ ?_|refine pK ?_ ?_);exact rfl)|((with_reducible first|refine kR ?_ ?_ ?_|refine kT ?_ ?_ ?_|apply kG);exact rfl;exact rfl)|((with_reducible apply gZ);assumption;exact rfl;decide +kernel;exact rfl)|((with_reducible apply kA);assumption;exact rfl;decide +kernel;exact rfl;(first|exact .type _|exact .builtin _);exact rfl)|((with_reducible refine gL ?_ ?_);decide)|((with_reducible refine gK ?_ ?_ ?_);decide;exact PyProof.noPylong_small (by decide))|((with_reducible refine gM ?_ ?_);(first|exact IntMulOk.of_right (intBits_le_64 (by omega) (by omega))|exact IntMulOk.of_left (intBits_le_64 (by omega) (by omega))))|((with_reducible refine kF ?_ ?_ ?_);exact rfl;exact fun _ => rfl)|((with_reducible refine gW ?_ ?_);exact fun _ => rfl)|with_reducible refine pO ?_))
  refine te_callG gt rfl Ft.keeps rfl ?_
  repeat (first|with_reducible refine kW ?_|(first|with_reducible (first|refine pB ?_|refine pF ?_|refine pA ?_|refine kX ?_|refine kY ?_|refine gH ?_|refine gG ?_|refine kD ?_|refine gY ?_|refine kJ ?_|refine gX ?_|refine kL ?_|refine kE ?_|refine kK ?_|refine kC ?_|refine kI ?_|refine kO ?_|refine kP ?_|refine kN ?_|refine pJ ?_|refine pG ?_|refine gB ?_|refine gA ?_|refine pM ?_|refine gJ ?_|refine gN ?_|refine gU ?_|refine gQ ?_|refine gO ?_|refine gV ?_|refine pN ?_)|((with_reducible refine And.intro ?_ ?_);(first|(rw [sizeLine_eq];exact of_decide_eq_true rfl)|omega))|((with_reducible first|refine kZ ?_ ?_|refine kQ ?_ ?_|refine kS ?_ ?_|refine kB ?_ ?_|refine kM ?_ ?_|refine pH ?_ ?_|refine pK ?_ ?_);exact rfl)|((with_reducible first|refine kR ?_ ?_ ?_|refine kT ?_ ?_ ?_|apply kG);exact rfl;exact rfl)|((with_reducible apply gZ);assumption;exact rfl;decide +kernel;exact rfl)|((with_reducible apply kA);assumption;exact rfl;decide +kernel;exact rfl;(first|exact .type _|exact .builtin _);exact rfl)|((with_reducible refine gL ?_ ?_);decide)|((with_reducible refine gK ?_ ?_ ?_);decide;exact PyProof.noPylong_small (by decide))|((with_reducible refine gM ?_ ?_);(first|exact IntMulOk.of_right (intBits_le_64 (by omega) (by omega))|exact IntMulOk.of_left (intBits_le_64 (by omega) (by omega))))|((with_reducible refine kF ?_ ?_ ?_);exact rfl;exact fun _ => rfl)|((with_reducible refine gW ?_ ?_);exact fun _ => rfl)|with_reducible refine pO ?_))
  refine (ts_spec Ft (hx.sub sub1) (by (first|lia|omega)) p1 hroot fun σ2 t lc isc sub2 ht hR => ?_).call
  refine ta_tuple rfl ht rfl ?_
  refine gG (ta_name rfl ?_)
  refine gG (ta_name rfl ?_)
  refine gG (ta_name rfl ?_)
  refine gH ?_
  have hw2 := sub2 _ _ hw
  refine kW ?_
  refine ts_assign_comp rfl rfl rfl ?_
  repeat (first|with_reducible refine kW ?_|(first|with_reducible (first|refine pB ?_|refine pF ?_|refine pA ?_|refine kX ?_|refine kY ?_|refine gH ?_|refine gG ?_|refine kD ?_|refine gY ?_|refine kJ ?_|refine gX ?_|refine kL ?_|refine kE ?_|refine kK ?_|refine kC ?_|refine kI ?_|refine kO ?_|refine kP ?_|refine kN ?_|refine pJ ?_|refine pG ?_|refine gB ?_|refine gA ?_|refine pM ?_|refine gJ ?_|refine gN ?_|refine gU ?_|refine gQ ?_|refine gO ?_|refine gV ?_|refine pN ?_)|((with_reducible refine And.intro ?_ ?_);(first|(rw [sizeLine_eq];exact of_decide_eq_true rfl)|omega))|((with_reducible first|refine kZ ?_ ?_|refine kQ ?_ ?_|refine kS ?_ ?_|refine kB ?_ ?_|refine kM ?_ ?_|refine pH ?_ ?_|refine pK ?_ ?_);exact rfl)|((with_reducible first|refine kR ?_ ?_ ?_|refine kT ?_ ?_ ?_|apply kG);exact rfl;exact rfl)|((with_reducible apply gZ);assumption;exact rfl;decide +kernel;exact rfl)|((with_reducible apply kA);assumption;exact rfl;decide +kernel;exact rfl;(first|exact .type _|exact .builtin _);exact rfl)|((with_reducible refine gL ?_ ?_);decide)|((with_reducible refine gK ?_ ?_ ?_);decide;exact PyProof.noPylong_small (by decide))|((with_reducible refine gM ?_ ?_);(first|exact IntMulOk.of_right (intBits_le_64 (by omega) (by omega))|exact IntMulOk.of_left (intBits_le_64 (by omega) (by omega))))|((with_reducible refine kF ?_ ?_ ?_);exact rfl;exact fun _ => rfl)|((with_reducible refine gW ?_ ?_);exact fun _ => rfl)|with_reducible refine pO ?_))
  refine tcall_range2 ?_
  refine ⟨n, fun j => .int (1 + j * 1), fun j acc σ₃ => ∃ js : List Nat, acc = js.map .ref ∧ Sub σ2 σ₃ ∧ RowsIn lc σ₃ js ((unitsM ws n).take j), .inr ⟨_, 1, (n : Int) + 1, 1, rfl, by simp, range_up (by (first|lia|omega)), fun _ _ => rfl⟩, by rw [sizeLine_eq]; (first|lia|omega), ⟨[], rfl, Sub.snoc _ _, trivial⟩, ?_, ?_⟩
  · rintro j acc σ₃ hj ⟨js, rfl, sub3, hin⟩
    have hlt := lt_of_get (sub3 _ _ hR.g)
    refine tifs_nil ?_
    rw [if_pos rfl]
    repeat (first|with_reducible refine kW ?_|(first|with_reducible (first|refine pB ?_|refine pF ?_|refine pA ?_|refine kX ?_|refine kY ?_|refine gH ?_|refine gG ?_|refine kD ?_|refine gY ?_|refine kJ ?_|refine gX ?_|refine kL ?_|refine kE ?_|refine kK ?_|refine kC ?_|refine kI ?_|refine kO ?_|refine kP ?_|refine kN ?_|refine pJ ?_|refine pG ?_|refine gB ?_|refine gA ?_|refine pM ?_|refine gJ ?_|refine gN ?_|refine gU ?_|refine gQ ?_|refine gO ?_|refine gV ?_|refine pN ?_)|((with_reducible refine And.intro ?_ ?_);(first|(rw [sizeLine_eq];exact of_decide_eq_true rfl)|omega))|((with_reducible first|refine kZ ?_ ?_|refine kQ ?_ ?_|refine kS ?_ ?_|refine kB ?_ ?_|refine kM ?_ ?_|refine pH ?_ ?_|refine pK ?_ ?_);exact rfl)|((with_reducible first|refine kR ?_ ?_ ?_|refine kT ?_ ?_ ?_|apply kG);exact rfl;exact rfl)|((with_reducible apply gZ);assumption;exact rfl;decide +kernel;exact rfl)|((with_reducible apply kA);assumption;exact rfl;decide +kernel;exact rfl;(first|exact .type _|exact .builtin _);exact rfl)|((with_reducible refine gL ?_ ?_);decide)|((with_reducible refine gK ?_ ?_ ?_);decide;exact PyProof.noPylong_small (by decide))|((with_reducible refine gM ?_ ?_);(first|exact IntMulOk.of_right (intBits_le_64 (by omega) (by omega))|exact IntMulOk.of_left (intBits_le_64 (by omega) (by omega))))|((with_reducible refine kF ?_ ?_ ?_);exact rfl;exact fun _ => rfl)|((with_reducible refine gW ?_ ?_);exact fun _ => rfl)|with_reducible refine pO ?_))
    refine tidx_nums rfl (sub3 _ _ hw2) (j := j + 1) (by (first|lia|omega)) (by (first|lia|omega)) (by (first|lia|omega)) ?_
    repeat (first|with_reducible refine kW ?_|(first|with_reducible (first|refine pB ?_|refine pF ?_|refine pA ?_|refine kX ?_|refine kY ?_|refine gH ?_|refine gG ?_|refine kD ?_|refine gY ?_|refine kJ ?_|refine gX ?_|refine kL ?_|refine kE ?_|refine kK ?_|refine kC ?_|refine kI ?_|refine kO ?_|refine kP ?_|refine kN ?_|refine pJ ?_|refine pG ?_|refine gB ?_|refine gA ?_|refine pM ?_|refine gJ ?_|refine gN ?_|refine gU ?_|refine gQ ?_|refine gO ?_|refine gV ?_|refine pN ?_)|((with_reducible refine And.intro ?_ ?_);(first|(rw [sizeLine_eq];exact of_decide_eq_true rfl)|omega))|((with_reducible first|refine kZ ?_ ?_|refine kQ ?_ ?_|refine kS ?_ ?_|refine kB ?_ ?_|refine kM ?_ ?_|refine pH ?_ ?_|refine pK ?_ ?_);exact rfl)|((with_reducible first|refine kR ?_ ?_ ?_|refine kT ?_ ?_ ?_|apply kG);exact rfl;exact rfl)|((with_reducible apply gZ);assumption;exact rfl;decide +kernel;exact rfl)|((with_reducible apply kA);assumption;exact rfl;decide +kernel;exact rfl;(first|exact .type _|exact .builtin _);exact rfl)|((with_reducible refine gL ?_ ?_);decide)|((with_reducible refine gK ?_ ?_ ?_);decide;exact PyProof.noPylong_small (by decide))|((with_reducible refine gM ?_ ?_);(first|exact IntMulOk.of_right (intBits_le_64 (by omega) (by omega))|exact IntMulOk.of_left (intBits_le_64 (by omega) (by omega))))|((with_reducible refine kF ?_ ?_ ?_);exact rfl;exact fun _ => rfl)|((with_reducible refine gW ?_ ?_);exact fun _ => rfl)|with_reducible refine pO ?_))
    refine ⟨js ++ [σ₃.length], by simp, sub3.trans (Sub.snoc _ _), ?_⟩
    rw [units_take hj]
    refine (hin.sub (Sub.snoc _ _).x).append (RowsIn.one (by (first|lia|omega)) ?_)
    rw [get_snoc, List.getElem?_eq_getElem (by (first|lia|omega) : j + 1 < ws.length), show (1 + (j : Int) * 1) = (j : Int) + 1 by (first|lia|omega)]
    rfl
  rintro acc σ3 ⟨js, rfl, sub3, hin⟩
  rw [List.take_of_length_le (by rw [units_len]; exact Nat.le_refl _)] at hin
  have hR3 := hR.sub (sub3.trans (Sub.snoc σ3 [.list (js.map .ref)]))
  have hU3 : (σ3 ++ [.list (js.map .ref)])[σ3.length]? = some (.list (js.map .ref)) := get_snoc _ _
  have hin3 := hin.sub (Sub.snoc σ3 [.list (js.map .ref)]).x
  have hw3 := (sub3.trans (Sub.snoc σ3 [.list (js.map .ref)])) _ _ hw2
  have sub4 := (sub1.trans sub2).trans (sub3.trans (Sub.snoc σ3 [.list (js.map .ref)]))
  have hlt3 := lt_of_get (sub3 _ _ hR.g)
  have hisl := hR.r.length
  have hjsl := hin.length
  rw [units_len] at hjsl
  generalize σ3 ++ [AO.list (js.map AV.ref)] = σ4 at *
  generalize σ3.length = lu at *
  repeat (first|with_reducible refine kW ?_|(first|with_reducible (first|refine pB ?_|refine pF ?_|refine pA ?_|refine kX ?_|refine kY ?_|refine gH ?_|refine gG ?_|refine kD ?_|refine gY ?_|refine kJ ?_|refine gX ?_|refine kL ?_|refine kE ?_|refine kK ?_|refine kC ?_|refine kI ?_|refine kO ?_|refine kP ?_|refine kN ?_|refine pJ ?_|refine pG ?_|refine gB ?_|refine gA ?_|refine pM ?_|refine gJ ?_|refine gN ?_|refine gU ?_|refine gQ ?_|refine gO ?_|refine gV ?_|refine pN ?_)|((with_reducible refine And.intro ?_ ?_);(first|(rw [sizeLine_eq];exact of_decide_eq_true rfl)|omega))|((with_reducible first|refine kZ ?_ ?_|refine kQ ?_ ?_|refine kS ?_ ?_|refine kB ?_ ?_|refine kM ?_ ?_|refine pH ?_ ?_|refine pK ?_ ?_);exact rfl)|((with_reducible first|refine kR ?_ ?_ ?_|refine kT ?_ ?_ ?_|apply kG);exact rfl;exact rfl)|((with_reducible apply gZ);assumption;exact rfl;decide +kernel;exact rfl)|((with_reducible apply kA);assumption;exact rfl;decide +kernel;exact rfl;(first|exact .type _|exact .builtin _);exact rfl)|((with_reducible refine gL ?_ ?_);decide)|((with_reducible refine gK ?_ ?_ ?_);decide;exact PyProof.noPylong_small (by decide))|((with_reducible refine gM ?_ ?_);(first|exact IntMulOk.of_right (intBits_le_64 (by omega) (by omega))|exact IntMulOk.of_left (intBits_le_64 (by omega) (by omega))))|((with_reducible refine kF ?_ ?_ ?_);exact rfl;exact fun _ => rfl)|((with_reducible refine gW ?_ ?_);exact fun _ => rfl)|with_reducible refine pO ?_))
  refine te_callG ge rfl Fe.keeps rfl ?_
  repeat (first|with_reducible refine kW ?_|(first|with_reducible (first|refine pB ?_|refine pF ?_|refine pA ?_|refine kX ?_|refine kY ?_|refine gH ?_|refine gG ?_|refine kD ?_|refine gY ?_|refine kJ ?_|refine gX ?_|refine kL ?_|refine kE ?_|refine kK ?_|refine kC ?_|refine kI ?_|refine kO ?_|refine kP ?_|refine kN ?_|refine pJ ?_|refine pG ?_|refine gB ?_|refine gA ?_|refine pM ?_|refine gJ ?_|refine gN ?_|refine gU ?_|refine gQ ?_|refine gO ?_|refine gV ?_|refine pN ?_)|((with_reducible refine And.intro ?_ ?_);(first|(rw [sizeLine_eq];exact of_decide_eq_true rfl)|omega))|((with_reducible first|refine kZ ?_ ?_|refine kQ ?_ ?_|refine kS ?_ ?_|refine kB ?_ ?_|refine kM ?_ ?_|refine pH ?_ ?_|refine pK ?_ ?_);exact rfl)|((with_reducible first|refine kR ?_ ?_ ?_|refine kT ?_ ?_ ?_|apply kG);exact rfl;exact rfl)|((with_reducible apply gZ);assumption;exact rfl;decide +kernel;exact rfl)|((with_reducible apply kA);assumption;exact rfl;decide +kernel;exact rfl;(first|exact .type _|exact .builtin _);exact rfl)|((with_reducible refine gL ?_ ?_);decide)|((with_reducible refine gK ?_ ?_ ?_);decide;exact PyProof.noPylong_small (by decide))|((with_reducible refine gM ?_ ?_);(first|exact IntMulOk.of_right (intBits_le_64 (by omega) (by omega))|exact IntMulOk.of_left (intBits_le_64 (by omega) (by omega))))|((with_reducible refine kF ?_ ?_ ?_);exact rfl;exact fun _ => rfl)|((with_reducible refine gW ?_ ?_);exact fun _ => rfl)|with_reducible refine pO ?_))
  refine (eval_spec Fe (hx.sub sub4) hw3 hwl (by (first|lia|omega)) (hRun_vars hrun) (by (first|lia|omega)) p2 fun σ5 sub5 => ?_).call
  have hR5 := hR3.sub sub5
  have hU5 := sub5 _ _ hU3
  have hin5 := hin3.sub sub5.x
  have hlt5 := lt_of_get hR5.g
  repeat (first|with_reducible refine kW ?_|(first|with_reducible (first|refine pB ?_|refine pF ?_|refine pA ?_|refine kX ?_|refine kY ?_|refine gH ?_|refine gG ?_|refine kD ?_|refine gY ?_|refine kJ ?_|refine gX ?_|refine kL ?_|refine kE ?_|refine kK ?_|refine kC ?_|refine kI ?_|refine kO ?_|refine kP ?_|refine kN ?_|refine pJ ?_|refine pG ?_|refine gB ?_|refine gA ?_|refine pM ?_|refine gJ ?_|refine gN ?_|refine gU ?_|refine gQ ?_|refine gO ?_|refine gV ?_|refine pN ?_)|((with_reducible refine And.intro ?_ ?_);(first|(rw [sizeLine_eq];exact of_decide_eq_true rfl)|omega))|((with_reducible first|refine kZ ?_ ?_|refine kQ ?_ ?_|refine kS ?_ ?_|refine kB ?_ ?_|refine kM ?_ ?_|refine pH ?_ ?_|refine pK ?_ ?_);exact rfl)|((with_reducible first|refine kR ?_ ?_ ?_|refine kT ?_ ?_ ?_|apply kG);exact rfl;exact rfl)|((with_reducible apply gZ);assumption;exact rfl;decide +kernel;exact rfl)|((with_reducible apply kA);assumption;exact rfl;decide +kernel;exact rfl;(first|exact .type _|exact .builtin _);exact rfl)|((with_reducible refine gL ?_ ?_);decide)|((with_reducible refine gK ?_ ?_ ?_);decide;exact PyProof.noPylong_small (by decide))|((with_reducible refine gM ?_ ?_);(first|exact IntMulOk.of_right (intBits_le_64 (by omega) (by omega))|exact IntMulOk.of_left (intBits_le_64 (by omega) (by omega))))|((with_reducible refine kF ?_ ?_ ?_);exact rfl;exact fun _ => rfl)|((with_reducible refine gW ?_ ?_);exact fun _ => rfl)|with_reducible refine pO ?_))
  refine te_callG gv rfl Fv.keeps rfl ?_
  repeat (first|with_reducible refine kW ?_|(first|with_reducible (first|refine pB ?_|refine pF ?_|refine pA ?_|refine kX ?_|refine kY ?_|refine gH ?_|refine gG ?_|refine kD ?_|refine gY ?_|refine kJ ?_|refine gX ?_|refine kL ?_|refine kE ?_|refine kK ?_|refine kC ?_|refine kI ?_|refine kO ?_|refine kP ?_|refine kN ?_|refine pJ ?_|refine pG ?_|refine gB ?_|refine gA ?_|refine pM ?_|refine gJ ?_|refine gN ?_|refine gU ?_|refine gQ ?_|refine gO ?_|refine gV ?_|refine pN ?_)|((with_reducible refine And.intro ?_ ?_);(first|(rw [sizeLine_eq];exact of_decide_eq_true rfl)|omega))|((with_reducible first|refine kZ ?_ ?_|refine kQ ?_ ?_|refine kS ?_ ?_|refine kB ?_ ?_|refine kM ?_ ?_|refine pH ?_ ?_|refine pK ?_ ?_);exact rfl)|((with_reducible first|refine kR ?_ ?_ ?_|refine kT ?_ ?_ ?_|apply kG);exact rfl;exact rfl)|((with_reducible apply gZ);assumption;exact rfl;decide +kernel;exact rfl)|((with_reducible apply kA);assumption;exact rfl;decide +kernel;exact rfl;(first|exact .type _|exact .builtin _);exact rfl)|((with_reducible refine gL ?_ ?_);decide)|((with_reducible refine gK ?_ ?_ ?_);decide;exact PyProof.noPylong_small (by decide))|((with_reducible refine gM ?_ ?_);(first|exact IntMulOk.of_right (intBits_le_64 (by omega) (by omega))|exact IntMulOk.of_left (intBits_le_64 (by omega) (by omega))))|((with_reducible refine kF ?_ ?_ ?_);exact rfl;exact fun _ => rfl)|((with_reducible refine gW ?_ ?_);exact fun _ => rfl)|with_reducible refine pO ?_))
  refine tbin_addL hR5.g hU5 (by rw [sizeLine_eq]; simp; (first|lia|omega)) ?_
  repeat (first|with_reducible refine kW ?_|(first|with_reducible (first|refine pB ?_|refine pF ?_|refine pA ?_|refine kX ?_|refine kY ?_|refine gH ?_|refine gG ?_|refine kD ?_|refine gY ?_|refine kJ ?_|refine gX ?_|refine kL ?_|refine kE ?_|refine kK ?_|refine kC ?_|refine kI ?_|refine kO ?_|refine kP ?_|refine kN ?_|refine pJ ?_|refine pG ?_|refine gB ?_|refine gA ?_|refine pM ?_|refine gJ ?_|refine gN ?_|refine gU ?_|refine gQ ?_|refine gO ?_|refine gV ?_|refine pN ?_)|((with_reducible refine And.intro ?_ ?_);(first|(rw [sizeLine_eq];exact of_decide_eq_true rfl)|omega))|((with_reducible first|refine kZ ?_ ?_|refine kQ ?_ ?_|refine kS ?_ ?_|refine kB ?_ ?_|refine kM ?_ ?_|refine pH ?_ ?_|refine pK ?_ ?_);exact rfl)|((with_reducible first|refine kR ?_ ?_ ?_|refine kT ?_ ?_ ?_|apply kG);exact rfl;exact rfl)|((with_reducible apply gZ);assumption;exact rfl;decide +kernel;exact rfl)|((with_reducible apply kA);assumption;exact rfl;decide +kernel;exact rfl;(first|exact .type _|exact .builtin _);exact rfl)|((with_reducible refine gL ?_ ?_);decide)|((with_reducible refine gK ?_ ?_ ?_);decide;exact PyProof.noPylong_small (by decide))|((with_reducible refine gM ?_ ?_);(first|exact IntMulOk.of_right (intBits_le_64 (by omega) (by omega))|exact IntMulOk.of_left (intBits_le_64 (by omega) (by omega))))|((with_reducible refine kF ?_ ?_ ?_);exact rfl;exact fun _ => rfl)|((with_reducible refine gW ?_ ?_);exact fun _ => rfl)|with_reducible refine pO ?_))
  refine tbin_addL (Sub.snoc _ _ _ _ (Sub.snoc _ _ _ _ (get_snoc _ _))) (get_snoc _ _) (by rw [sizeLine_eq]; simp; (first|lia|omega)) ?_
  have hA : RowsIn lc (σ5 ++ [AO.list (isc.map .ref ++ js.map .ref)] ++ [AO.list [.int root]] ++ [AO.list [.ref (σ5 ++ [AO.list (isc.map .ref ++ js.map .ref)]).length]]) (isc ++ js ++ [(σ5 ++ [AO.list (isc.map .ref ++ js.map .ref)]).length]) (s.cls ++ unitsM ws n ++ [[root]]) :=
    ((((hR5.r.append hin5).sub (Sub.snoc _ _).x).sub (Sub.snoc _ _).x).sub (Sub.snoc _ _).x).append (RowsIn.one (by simp; (first|lia|omega)) (Sub.snoc _ _ _ _ (get_snoc _ _)))
  have hF : RowsP (σ5 ++ [AO.list (isc.map .ref ++ js.map .ref)] ++ [AO.list [.int root]] ++ [AO.list [.ref (σ5 ++ [AO.list (isc.map .ref ++ js.map .ref)]).length]] ++ [AO.list (isc.map .ref ++ js.map .ref ++ [.ref (σ5 ++ [AO.list (isc.map .ref ++ js.map .ref)]).length])]) (σ5 ++ [AO.list (isc.map .ref ++ js.map .ref)] ++ [AO.list [.int root]] ++ [AO.list [.ref (σ5 ++ [AO.list (isc.map .ref ++ js.map .ref)]).length]]).length (isc ++ js ++ [(σ5 ++ [AO.list (isc.map .ref ++ js.map .ref)]).length]) (s.cls ++ unitsM ws n ++ [[root]]) :=
    ⟨by rw [get_snoc, List.map_append, List.map_append]; rfl, (hA.new (Nat.le_refl _)).sub (Sub.snoc _ _).x⟩
  have sub6 : Sub σ5 (σ5 ++ [AO.list (isc.map .ref ++ js.map .ref)] ++ [AO.list [.int root]] ++ [AO.list [.ref (σ5 ++ [AO.list (isc.map .ref ++ js.map .ref)]).length]] ++ [AO.list (isc.map .ref ++ js.map .ref ++ [.ref (σ5 ++ [AO.list (isc.map .ref ++ js.map .ref)]).length])]) := by (repeat (first | exact Sub.refl _ | assumption | refine Sub.trans ?_ (Sub.snoc _ _)))
  generalize (σ5 ++ [AO.list (isc.map AV.ref ++ js.map AV.ref)] ++ [AO.list [AV.int root]] ++ [AO.list [AV.ref (σ5 ++ [AO.list (isc.map AV.ref ++ js.map AV.ref)]).length]] ++ [AO.list (isc.map AV.ref ++ js.map AV.ref ++ [AV.ref (σ5 ++ [AO.list (isc.map AV.ref ++ js.map AV.ref)]).length])]) = σ6 at hF sub6 ⊢
  generalize (σ5 ++ [AO.list (isc.map AV.ref ++ js.map AV.ref)] ++ [AO.list [AV.int root]] ++ [AO.list [AV.ref (σ5 ++ [AO.list (isc.map AV.ref ++ js.map AV.ref)]).length]]).length = lall at hF ⊢
  repeat (first|with_reducible refine kW ?_|(first|with_reducible (first|refine pB ?_|refine pF ?_|refine pA ?_|refine kX ?_|refine kY ?_|refine gH ?_|refine gG ?_|refine kD ?_|refine gY ?_|refine kJ ?_|refine gX ?_|refine kL ?_|refine kE ?_|refine kK ?_|refine kC ?_|refine kI ?_|refine kO ?_|refine kP ?_|refine kN ?_|refine pJ ?_|refine pG ?_|refine gB ?_|refine gA ?_|refine pM ?_|refine gJ ?_|refine gN ?_|refine gU ?_|refine gQ ?_|refine gO ?_|refine gV ?_|refine pN ?_)|((with_reducible refine And.intro ?_ ?_);(first|(rw [sizeLine_eq];exact of_decide_eq_true rfl)|omega))|((with_reducible first|refine kZ ?_ ?_|refine kQ ?_ ?_|refine kS ?_ ?_|refine kB ?_ ?_|refine kM ?_ ?_|refine pH ?_ ?_|refine pK ?_ ?_);exact rfl)|((with_reducible first|refine kR ?_ ?_ ?_|refine kT ?_ ?_ ?_|apply kG);exact rfl;exact rfl)|((with_reducible apply gZ);assumption;exact rfl;decide +kernel;exact rfl)|((with_reducible apply kA);assumption;exact rfl;decide +kernel;exact rfl;(first|exact .type _|exact .builtin _);exact rfl)|((with_reducible refine gL ?_ ?_);decide)|((with_reducible refine gK ?_ ?_ ?_);decide;exact PyProof.noPylong_small (by decide))|((with_reducible refine gM ?_ ?_);(first|exact IntMulOk.of_right (intBits_le_64 (by omega) (by omega))|exact IntMulOk.of_left (intBits_le_64 (by omega) (by omega))))|((with_reducible refine kF ?_ ?_ ?_);exact rfl;exact fun _ => rfl)|((with_reducible refine gW ?_ ?_);exact fun _ => rfl)|with_reducible refine pO ?_))
  refine (verdict_spec S Fv hF (by (first|lia|omega)) hokall (by simp [units_len]; (first|lia|omega)) ?_ fun σ9 t' lw' lp js' sub9 ht' _ _ _ _ => ?_).call
  · intro c hc
    rcases List.mem_append.mp hc with q | q
    · rcases List.mem_append.mp q with q | q
      · have := p8 c q; (first|lia|omega)
      · unfold unitsM at q
        obtain ⟨j, hj, rfl⟩ := List.mem_map.mp q
        simp
    · rw [List.mem_singleton.mp q]; simp
  have hans : ((solveM s.tot (s.cls ++ unitsM ws n ++ [[root]]) (2 ^ (s.tot + 2) + 8) (S0 s.tot)).1 == ("sat" : Str)) = b := by
    rcases verdict_sat hokall with ⟨b1, b2⟩ | ⟨b1, b2⟩
    · rw [show (solveM s.tot (s.cls ++ unitsM ws n ++ [[root]]) (2 ^ (s.tot + 2) + 8) (S0 s.tot)).1 = "sat" from b1, sat_eq]; exact (hsat.mp b2).symm
    · rw [show (solveM s.tot (s.cls ++ unitsM ws n ++ [[root]]) (2 ^ (s.tot + 2) + 8) (S0 s.tot)).1 = "unsat" from b1, unsat_ne]
      cases b with
      | false => rfl
      | true => exact absurd (hsat.mpr rfl) b2
  repeat (first|with_reducible refine kW ?_|(first|with_reducible (first|refine pB ?_|refine pF ?_|refine pA ?_|refine kX ?_|refine kY ?_|refine gH ?_|refine gG ?_|refine kD ?_|refine gY ?_|refine kJ ?_|refine gX ?_|refine kL ?_|refine kE ?_|refine kK ?_|refine kC ?_|refine kI ?_|refine kO ?_|refine kP ?_|refine kN ?_|refine pJ ?_|refine pG ?_|refine gB ?_|refine gA ?_|refine pM ?_|refine gJ ?_|refine gN ?_|refine gU ?_|refine gQ ?_|refine gO ?_|refine gV ?_|refine pN ?_)|((with_reducible refine And.intro ?_ ?_);(first|(rw [sizeLine_eq];exact of_decide_eq_true rfl)|omega))|((with_reducible first|refine kZ ?_ ?_|refine kQ ?_ ?_|refine kS ?_ ?_|refine kB ?_ ?_|refine kM ?_ ?_|refine pH ?_ ?_|refine pK ?_ ?_);exact rfl)|((with_reducible first|refine kR ?_ ?_ ?_|refine kT ?_ ?_ ?_|apply kG);exact rfl;exact rfl)|((with_reducible apply gZ);assumption;exact rfl;decide +kernel;exact rfl)|((with_reducible apply kA);assumption;exact rfl;decide +kernel;exact rfl;(first|exact .type _|exact .builtin _);exact rfl)|((with_reducible refine gL ?_ ?_);decide)|((with_reducible refine gK ?_ ?_ ?_);decide;exact PyProof.noPylong_small (by decide))|((with_reducible refine gM ?_ ?_);(first|exact IntMulOk.of_right (intBits_le_64 (by omega) (by omega))|exact IntMulOk.of_left (intBits_le_64 (by omega) (by omega))))|((with_reducible refine kF ?_ ?_ ?_);exact rfl;exact fun _ => rfl)|((with_reducible refine gW ?_ ?_);exact fun _ => rfl)|with_reducible refine pO ?_))
  refine tidx_tuple rfl ht' (k := 0) (j := 0) rfl rfl (by decide) ?_
  repeat (first|with_reducible refine kW ?_|(first|with_reducible (first|refine pB ?_|refine pF ?_|refine pA ?_|refine kX ?_|refine kY ?_|refine gH ?_|refine gG ?_|refine kD ?_|refine gY ?_|refine kJ ?_|refine gX ?_|refine kL ?_|refine kE ?_|refine kK ?_|refine kC ?_|refine kI ?_|refine kO ?_|refine kP ?_|refine kN ?_|refine pJ ?_|refine pG ?_|refine gB ?_|refine gA ?_|refine pM ?_|refine gJ ?_|refine gN ?_|refine gU ?_|refine gQ ?_|refine gO ?_|refine gV ?_|refine pN ?_)|((with_reducible refine And.intro ?_ ?_);(first|(rw [sizeLine_eq];exact of_decide_eq_true rfl)|omega))|((with_reducible first|refine kZ ?_ ?_|refine kQ ?_ ?_|refine kS ?_ ?_|refine kB ?_ ?_|refine kM ?_ ?_|refine pH ?_ ?_|refine pK ?_ ?_);exact rfl)|((with_reducible first|refine kR ?_ ?_ ?_|refine kT ?_ ?_ ?_|apply kG);exact rfl;exact rfl)|((with_reducible apply gZ);assumption;exact rfl;decide +kernel;exact rfl)|((with_reducible apply kA);assumption;exact rfl;decide +kernel;exact rfl;(first|exact .type _|exact .builtin _);exact rfl)|((with_reducible refine gL ?_ ?_);decide)|((with_reducible refine gK ?_ ?_ ?_);decide;exact PyProof.noPylong_small (by decide))|((with_reducible refine gM ?_ ?_);(first|exact IntMulOk.of_right (intBits_le_64 (by omega) (by omega))|exact IntMulOk.of_left (intBits_le_64 (by omega) (by omega))))|((with_reducible refine kF ?_ ?_ ?_);exact rfl;exact fun _ => rfl)|((with_reducible refine gW ?_ ?_);exact fun _ => rfl)|with_reducible refine pO ?_))
  refine tcmp_eqS (ans_ok _ _) ok_sat ?_
  rw [hans]
  repeat (first|with_reducible refine kW ?_|(first|with_reducible (first|refine pB ?_|refine pF ?_|refine pA ?_|refine kX ?_|refine kY ?_|refine gH ?_|refine gG ?_|refine kD ?_|refine gY ?_|refine kJ ?_|refine gX ?_|refine kL ?_|refine kE ?_|refine kK ?_|refine kC ?_|refine kI ?_|refine kO ?_|refine kP ?_|refine kN ?_|refine pJ ?_|refine pG ?_|refine gB ?_|refine gA ?_|refine pM ?_|refine gJ ?_|refine gN ?_|refine gU ?_|refine gQ ?_|refine gO ?_|refine gV ?_|refine pN ?_)|((with_reducible refine And.intro ?_ ?_);(first|(rw [sizeLine_eq];exact of_decide_eq_true rfl)|omega))|((with_reducible first|refine kZ ?_ ?_|refine kQ ?_ ?_|refine kS ?_ ?_|refine kB ?_ ?_|refine kM ?_ ?_|refine pH ?_ ?_|refine pK ?_ ?_);exact rfl)|((with_reducible first|refine kR ?_ ?_ ?_|refine kT ?_ ?_ ?_|apply kG);exact rfl;exact rfl)|((with_reducible apply gZ);assumption;exact rfl;decide +kernel;exact rfl)|((with_reducible apply kA);assumption;exact rfl;decide +kernel;exact rfl;(first|exact .type _|exact .builtin _);exact rfl)|((with_reducible refine gL ?_ ?_);decide)|((with_reducible refine gK ?_ ?_ ?_);decide;exact PyProof.noPylong_small (by decide))|((with_reducible refine gM ?_ ?_);(first|exact IntMulOk.of_right (intBits_le_64 (by omega) (by omega))|exact IntMulOk.of_left (intBits_le_64 (by omega) (by omega))))|((with_reducible refine kF ?_ ?_ ?_);exact rfl;exact fun _ => rfl)|((with_reducible refine gW ?_ ?_);exact fun _ => rfl)|with_reducible refine pO ?_))
  refine tcmp_eqD (.bool _) (.bool _) rfl rfl (by rw [PyData.depth]; decide) ?_
  rw [SeqAt.eqv_refl _ rfl]
  repeat (first|with_reducible refine kW ?_|(first|with_reducible (first|refine pB ?_|refine pF ?_|refine pA ?_|refine kX ?_|refine kY ?_|refine gH ?_|refine gG ?_|refine kD ?_|refine gY ?_|refine kJ ?_|refine gX ?_|refine kL ?_|refine kE ?_|refine kK ?_|refine kC ?_|refine kI ?_|refine kO ?_|refine kP ?_|refine kN ?_|refine pJ ?_|refine pG ?_|refine gB ?_|refine gA ?_|refine pM ?_|refine gJ ?_|refine gN ?_|refine gU ?_|refine gQ ?_|refine gO ?_|refine gV ?_|refine pN ?_)|((with_reducible refine And.intro ?_ ?_);(first|(rw [sizeLine_eq];exact of_decide_eq_true rfl)|omega))|((with_reducible first|refine kZ ?_ ?_|refine kQ ?_ ?_|refine kS ?_ ?_|refine kB ?_ ?_|refine kM ?_ ?_|refine pH ?_ ?_|refine pK ?_ ?_);exact rfl)|((with_reducible first|refine kR ?_ ?_ ?_|refine kT ?_ ?_ ?_|apply kG);exact rfl;exact rfl)|((with_reducible apply gZ);assumption;exact rfl;decide +kernel;exact rfl)|((with_reducible apply kA);assumption;exact rfl;decide +kernel;exact rfl;(first|exact .type _|exact .builtin _);exact rfl)|((with_reducible refine gL ?_ ?_);decide)|((with_reducible refine gK ?_ ?_ ?_);decide;exact PyProof.noPylong_small (by decide))|((with_reducible refine gM ?_ ?_);(first|exact IntMulOk.of_right (intBits_le_64 (by omega) (by omega))|exact IntMulOk.of_left (intBits_le_64 (by omega) (by omega))))|((with_reducible refine kF ?_ ?_ ?_);exact rfl;exact fun _ => rfl)|((with_reducible refine gW ?_ ?_);exact fun _ => rfl)|with_reducible refine pO ?_))
  exact h _ (((sub4.trans sub5).trans sub6).trans sub9)
def opD (o : Op) : PyData := .tuple [.str (opK o), .int (opV o)]
theorem OpsIn.den {σ : AH} : ∀ {is : List Nat} {es : List Op}, OpsIn σ is es → DenAll σ (is.map .ref) (es.map opD)
  | [], [], _ => .nil
  | _ :: _, o :: _, h => .cons (.tuple h.1 (.cons (.str _) (.cons (.int _) .nil))) (OpsIn.den h.2)
theorem canOps (es : List Op) : (PyData.list (es.map opD)).canLay0 = true := by
  rw [PyData.canLay0]
  induction es with
  | nil => rfl
  | cons o es ih =>
    rw [List.map_cons, PyData.canLayAll0, ih]
    unfold opD
    rw [PyData.canLay0, PyData.canLayAll0, PyData.canLay0, op_ok]; rfl
theorem depOps (es : List Op) : (PyData.list (es.map opD)).depth ≤ 2 := by
  rw [PyData.depth]
  have : PyData.depthAll (es.map opD) ≤ 1 := by
    induction es with
    | nil => decide
    | cons o es ih =>
      rw [List.map_cons, PyData.depthAll]
      have : (opD o).depth ≤ 1 := by
        unfold opD
        rw [PyData.depth, PyData.depthAll, PyData.depthAll, PyData.depth, PyData.depth]; decide
      (first|lia|omega)
  (first|lia|omega)
theorem law_spec {W : Wd} {K : Frag} {Cs Ct fl fc fo fx fk fn fe ft fv a0 a1 a2 a3 a4 a5 a6 a7 a8 a9 a10 a11 a12 a13 : Addr} (Fl : FnIs W fl ["script"] (fnBody pw 15) (fnScope pw 15)) (Fc : FnIs W fc ["script", "i"] (fnBody pw 12) (fnScope pw 12)) (Fo : FnIs W fo ["c"] (fnBody pw 13) (fnScope pw 13)) (Fx : FnIs W fx ["script", "n"] (fnBody pw 14) (fnScope pw 14)) (Fk : FnIs W fk ["expr", "n", "k"] (fnBody pw 10) (fnScope pw 10)) (Fn : FnIs W fn ["k", "n"] (fnBody pw 1) (fnScope pw 1)) (Fe : FnIs W fe ["expr", "values"] (fnBody pw 4) (fnScope pw 4)) (Ft : FnIs W ft ["expr", "n"] (fnBody pw 5) (fnScope pw 5)) (Fv : FnIs W fv ["clauses", "n"] (fnBody pw 9) (fnScope pw 9))
    (gc : W.mg "_law_cell" = some (.ref fc)) (go : W.mg "_law_operator" = some (.ref fo)) (gx : W.mg "_law_expression" = some (.ref fx)) (gk : W.mg "law_tseitin_keeps_the_meaning" = some (.ref fk)) (gn : W.mg "values_of_number" = some (.ref fn)) (ge : W.mg "evaluate" = some (.ref fe)) (gt : W.mg "tseitin" = some (.ref ft)) (gv : W.mg "verdict" = some (.ref fv)) (hlen : W.mg "len" = none) (hr : W.mg "range" = none) (hlist : W.mg "list" = none) (S : SolM W K Cs Ct a0 a1 a2 a3 a4 a5 a6 a7 a8 a9 a10 a11 a12 a13) {ns : List Int} (hz : ns.length < 2 ^ 62) :
    TCode W 20 (.stat (.ref fl)) [.ref 0] (fun v _ => v = .bool true) [.ints ns] := by
  refine code_fn Fl rfl ?_
  refine kW ?_
  repeat (first|with_reducible refine kW ?_|(first|with_reducible (first|refine pB ?_|refine pF ?_|refine pA ?_|refine kX ?_|refine kY ?_|refine gH ?_|refine gG ?_|refine kD ?_|refine gY ?_|refine kJ ?_|refine gX ?_|refine kL ?_|refine kE ?_|refine kK ?_|refine kC ?_|refine kI ?_|refine kO ?_|refine kP ?_|refine kN ?_|refine pJ ?_|refine pG ?_|refine gB ?_|refine gA ?_|refine pM ?_|refine gJ ?_|refine gN ?_|refine gU ?_|refine gQ ?_|refine gO ?_|refine gV ?_|refine pN ?_)|((with_reducible refine And.intro ?_ ?_);(first|(rw [sizeLine_eq];exact of_decide_eq_true rfl)|omega))|((with_reducible first|refine kZ ?_ ?_|refine kQ ?_ ?_|refine kS ?_ ?_|refine kB ?_ ?_|refine kM ?_ ?_|refine pH ?_ ?_|refine pK ?_ ?_);exact rfl)|((with_reducible first|refine kR ?_ ?_ ?_|refine kT ?_ ?_ ?_|apply kG);exact rfl;exact rfl)|((with_reducible apply gZ);assumption;exact rfl;decide +kernel;exact rfl)|((with_reducible apply kA);assumption;exact rfl;decide +kernel;exact rfl;(first|exact .type _|exact .builtin _);exact rfl)|((with_reducible refine gL ?_ ?_);decide)|((with_reducible refine gK ?_ ?_ ?_);decide;exact PyProof.noPylong_small (by decide))|((with_reducible refine gM ?_ ?_);(first|exact IntMulOk.of_right (intBits_le_64 (by omega) (by omega))|exact IntMulOk.of_left (intBits_le_64 (by omega) (by omega))))|((with_reducible refine kF ?_ ?_ ?_);exact rfl;exact fun _ => rfl)|((with_reducible refine gW ?_ ?_);exact fun _ => rfl)|with_reducible refine pO ?_))
  refine te_callG gc rfl Fc.keeps rfl ?_
  repeat (first|with_reducible refine kW ?_|(first|with_reducible (first|refine pB ?_|refine pF ?_|refine pA ?_|refine kX ?_|refine kY ?_|refine gH ?_|refine gG ?_|refine kD ?_|refine gY ?_|refine kJ ?_|refine gX ?_|refine kL ?_|refine kE ?_|refine kK ?_|refine kC ?_|refine kI ?_|refine kO ?_|refine kP ?_|refine kN ?_|refine pJ ?_|refine pG ?_|refine gB ?_|refine gA ?_|refine pM ?_|refine gJ ?_|refine gN ?_|refine gU ?_|refine gQ ?_|refine gO ?_|refine gV ?_|refine pN ?_)|((with_reducible refine And.intro ?_ ?_);(first|(rw [sizeLine_eq];exact of_decide_eq_true rfl)|omega))|((with_reducible first|refine kZ ?_ ?_|refine kQ ?_ ?_|refine kS ?_ ?_|refine kB ?_ ?_|refine kM ?_ ?_|refine pH ?_ ?_|refine pK ?_ ?_);exact rfl)|((with_reducible first|refine kR ?_ ?_ ?_|refine kT ?_ ?_ ?_|apply kG);exact rfl;exact rfl)|((with_reducible apply gZ);assumption;exact rfl;decide +kernel;exact rfl)|((with_reducible apply kA);assumption;exact rfl;decide +kernel;exact rfl;(first|exact .type _|exact .builtin _);exact rfl)|((with_reducible refine gL ?_ ?_);decide)|((with_reducible refine gK ?_ ?_ ?_);decide;exact PyProof.noPylong_small (by decide))|((with_reducible refine gM ?_ ?_);(first|exact IntMulOk.of_right (intBits_le_64 (by omega) (by omega))|exact IntMulOk.of_left (intBits_le_64 (by omega) (by omega))))|((with_reducible refine kF ?_ ?_ ?_);exact rfl;exact fun _ => rfl)|((with_reducible refine gW ?_ ?_);exact fun _ => rfl)|with_reducible refine pO ?_))
  refine (cell_spec Fc hlen (i := 0) rfl rfl hz ?_).call
  obtain ⟨n0, hn0, hn03⟩ := fmod_nat (cellA ns 0) 3 (by decide)
  repeat (first|with_reducible (first|refine pB ?_|refine pF ?_|refine pA ?_|refine kX ?_|refine kY ?_|refine gH ?_|refine gG ?_|refine kD ?_|refine gY ?_|refine kJ ?_|refine gX ?_|refine kL ?_|refine kE ?_|refine kK ?_|refine kC ?_|refine kI ?_|refine kO ?_|refine kP ?_|refine kN ?_|refine pJ ?_|refine pG ?_|refine gB ?_|refine gA ?_|refine pM ?_|refine gJ ?_|refine gN ?_|refine gU ?_|refine gQ ?_|refine gO ?_|refine gV ?_|refine pN ?_)|((with_reducible refine And.intro ?_ ?_);(first|(rw [sizeLine_eq];exact of_decide_eq_true rfl)|omega))|((with_reducible first|refine kZ ?_ ?_|refine kQ ?_ ?_|refine kS ?_ ?_|refine kB ?_ ?_|refine kM ?_ ?_|refine pH ?_ ?_|refine pK ?_ ?_);exact rfl)|((with_reducible first|refine kR ?_ ?_ ?_|refine kT ?_ ?_ ?_|apply kG);exact rfl;exact rfl)|((with_reducible apply gZ);assumption;exact rfl;decide +kernel;exact rfl)|((with_reducible apply kA);assumption;exact rfl;decide +kernel;exact rfl;(first|exact .type _|exact .builtin _);exact rfl)|((with_reducible refine gL ?_ ?_);decide)|((with_reducible refine gK ?_ ?_ ?_);decide;exact PyProof.noPylong_small (by decide))|((with_reducible refine gM ?_ ?_);(first|exact IntMulOk.of_right (intBits_le_64 (by omega) (by omega))|exact IntMulOk.of_left (intBits_le_64 (by omega) (by omega))))|((with_reducible refine kF ?_ ?_ ?_);exact rfl;exact fun _ => rfl)|((with_reducible refine gW ?_ ?_);exact fun _ => rfl)|with_reducible refine pO ?_)
  rw [show 1 + (cellA ns 0).fmod 3 = ((1 + n0 : Nat) : Int) by rw [show (cellA ns 0).fmod 3 = (n0 : Int) from hn0]; (first|lia|omega)]
  generalize hn : 1 + n0 = n
  repeat (first|with_reducible refine kW ?_|(first|with_reducible (first|refine pB ?_|refine pF ?_|refine pA ?_|refine kX ?_|refine kY ?_|refine gH ?_|refine gG ?_|refine kD ?_|refine gY ?_|refine kJ ?_|refine gX ?_|refine kL ?_|refine kE ?_|refine kK ?_|refine kC ?_|refine kI ?_|refine kO ?_|refine kP ?_|refine kN ?_|refine pJ ?_|refine pG ?_|refine gB ?_|refine gA ?_|refine pM ?_|refine gJ ?_|refine gN ?_|refine gU ?_|refine gQ ?_|refine gO ?_|refine gV ?_|refine pN ?_)|((with_reducible refine And.intro ?_ ?_);(first|(rw [sizeLine_eq];exact of_decide_eq_true rfl)|omega))|((with_reducible first|refine kZ ?_ ?_|refine kQ ?_ ?_|refine kS ?_ ?_|refine kB ?_ ?_|refine kM ?_ ?_|refine pH ?_ ?_|refine pK ?_ ?_);exact rfl)|((with_reducible first|refine kR ?_ ?_ ?_|refine kT ?_ ?_ ?_|apply kG);exact rfl;exact rfl)|((with_reducible apply gZ);assumption;exact rfl;decide +kernel;exact rfl)|((with_reducible apply kA);assumption;exact rfl;decide +kernel;exact rfl;(first|exact .type _|exact .builtin _);exact rfl)|((with_reducible refine gL ?_ ?_);decide)|((with_reducible refine gK ?_ ?_ ?_);decide;exact PyProof.noPylong_small (by decide))|((with_reducible refine gM ?_ ?_);(first|exact IntMulOk.of_right (intBits_le_64 (by omega) (by omega))|exact IntMulOk.of_left (intBits_le_64 (by omega) (by omega))))|((with_reducible refine kF ?_ ?_ ?_);exact rfl;exact fun _ => rfl)|((with_reducible refine gW ?_ ?_);exact fun _ => rfl)|with_reducible refine pO ?_))
  refine te_callG gc rfl Fc.keeps rfl ?_
  repeat (first|with_reducible refine kW ?_|(first|with_reducible (first|refine pB ?_|refine pF ?_|refine pA ?_|refine kX ?_|refine kY ?_|refine gH ?_|refine gG ?_|refine kD ?_|refine gY ?_|refine kJ ?_|refine gX ?_|refine kL ?_|refine kE ?_|refine kK ?_|refine kC ?_|refine kI ?_|refine kO ?_|refine kP ?_|refine kN ?_|refine pJ ?_|refine pG ?_|refine gB ?_|refine gA ?_|refine pM ?_|refine gJ ?_|refine gN ?_|refine gU ?_|refine gQ ?_|refine gO ?_|refine gV ?_|refine pN ?_)|((with_reducible refine And.intro ?_ ?_);(first|(rw [sizeLine_eq];exact of_decide_eq_true rfl)|omega))|((with_reducible first|refine kZ ?_ ?_|refine kQ ?_ ?_|refine kS ?_ ?_|refine kB ?_ ?_|refine kM ?_ ?_|refine pH ?_ ?_|refine pK ?_ ?_);exact rfl)|((with_reducible first|refine kR ?_ ?_ ?_|refine kT ?_ ?_ ?_|apply kG);exact rfl;exact rfl)|((with_reducible apply gZ);assumption;exact rfl;decide +kernel;exact rfl)|((with_reducible apply kA);assumption;exact rfl;decide +kernel;exact rfl;(first|exact .type _|exact .builtin _);exact rfl)|((with_reducible refine gL ?_ ?_);decide)|((with_reducible refine gK ?_ ?_ ?_);decide;exact PyProof.noPylong_small (by decide))|((with_reducible refine gM ?_ ?_);(first|exact IntMulOk.of_right (intBits_le_64 (by omega) (by omega))|exact IntMulOk.of_left (intBits_le_64 (by omega) (by omega))))|((with_reducible refine kF ?_ ?_ ?_);exact rfl;exact fun _ => rfl)|((with_reducible refine gW ?_ ?_);exact fun _ => rfl)|with_reducible refine pO ?_))
  refine (cell_spec Fc hlen (i := 1) rfl rfl hz ?_).call
  repeat (first|with_reducible refine kW ?_|(first|with_reducible (first|refine pB ?_|refine pF ?_|refine pA ?_|refine kX ?_|refine kY ?_|refine gH ?_|refine gG ?_|refine kD ?_|refine gY ?_|refine kJ ?_|refine gX ?_|refine kL ?_|refine kE ?_|refine kK ?_|refine kC ?_|refine kI ?_|refine kO ?_|refine kP ?_|refine kN ?_|refine pJ ?_|refine pG ?_|refine gB ?_|refine gA ?_|refine pM ?_|refine gJ ?_|refine gN ?_|refine gU ?_|refine gQ ?_|refine gO ?_|refine gV ?_|refine pN ?_)|((with_reducible refine And.intro ?_ ?_);(first|(rw [sizeLine_eq];exact of_decide_eq_true rfl)|omega))|((with_reducible first|refine kZ ?_ ?_|refine kQ ?_ ?_|refine kS ?_ ?_|refine kB ?_ ?_|refine kM ?_ ?_|refine pH ?_ ?_|refine pK ?_ ?_);exact rfl)|((with_reducible first|refine kR ?_ ?_ ?_|refine kT ?_ ?_ ?_|apply kG);exact rfl;exact rfl)|((with_reducible apply gZ);assumption;exact rfl;decide +kernel;exact rfl)|((with_reducible apply kA);assumption;exact rfl;decide +kernel;exact rfl;(first|exact .type _|exact .builtin _);exact rfl)|((with_reducible refine gL ?_ ?_);decide)|((with_reducible refine gK ?_ ?_ ?_);decide;exact PyProof.noPylong_small (by decide))|((with_reducible refine gM ?_ ?_);(first|exact IntMulOk.of_right (intBits_le_64 (by omega) (by omega))|exact IntMulOk.of_left (intBits_le_64 (by omega) (by omega))))|((with_reducible refine kF ?_ ?_ ?_);exact rfl;exact fun _ => rfl)|((with_reducible refine gW ?_ ?_);exact fun _ => rfl)|with_reducible refine pO ?_))
  refine tbin_pow2 (k := n) rfl (by (first|lia|omega)) ?_
  have hp : (0 : Int) < 2 ^ n ∧ (2 : Int) ^ n ≤ 8 := by
    have : n = 1 ∨ n = 2 ∨ n = 3 := by (first|lia|omega)
    rcases this with e | e | e <;> rw [e] <;> decide
  refine gL (by (first|lia|omega)) ?_
  have hk : 0 ≤ (cellA ns 1).fmod (2 ^ n) ∧ (cellA ns 1).fmod (2 ^ n) < 2 ^ 60 := by
    rw [Int.fmod_eq_emod_of_nonneg _ (by (first|lia|omega))]
    have h1 := Int.emod_nonneg (cellA ns 1) (b := 2 ^ n) (by (first|lia|omega))
    have h2 := Int.emod_lt_of_pos (cellA ns 1) (b := 2 ^ n) (by (first|lia|omega))
    (first|lia|omega)
  generalize (cellA ns 1).fmod (2 ^ n) = k at hk ⊢
  repeat (first|with_reducible refine kW ?_|(first|with_reducible (first|refine pB ?_|refine pF ?_|refine pA ?_|refine kX ?_|refine kY ?_|refine gH ?_|refine gG ?_|refine kD ?_|refine gY ?_|refine kJ ?_|refine gX ?_|refine kL ?_|refine kE ?_|refine kK ?_|refine kC ?_|refine kI ?_|refine kO ?_|refine kP ?_|refine kN ?_|refine pJ ?_|refine pG ?_|refine gB ?_|refine gA ?_|refine pM ?_|refine gJ ?_|refine gN ?_|refine gU ?_|refine gQ ?_|refine gO ?_|refine gV ?_|refine pN ?_)|((with_reducible refine And.intro ?_ ?_);(first|(rw [sizeLine_eq];exact of_decide_eq_true rfl)|omega))|((with_reducible first|refine kZ ?_ ?_|refine kQ ?_ ?_|refine kS ?_ ?_|refine kB ?_ ?_|refine kM ?_ ?_|refine pH ?_ ?_|refine pK ?_ ?_);exact rfl)|((with_reducible first|refine kR ?_ ?_ ?_|refine kT ?_ ?_ ?_|apply kG);exact rfl;exact rfl)|((with_reducible apply gZ);assumption;exact rfl;decide +kernel;exact rfl)|((with_reducible apply kA);assumption;exact rfl;decide +kernel;exact rfl;(first|exact .type _|exact .builtin _);exact rfl)|((with_reducible refine gL ?_ ?_);decide)|((with_reducible refine gK ?_ ?_ ?_);decide;exact PyProof.noPylong_small (by decide))|((with_reducible refine gM ?_ ?_);(first|exact IntMulOk.of_right (intBits_le_64 (by omega) (by omega))|exact IntMulOk.of_left (intBits_le_64 (by omega) (by omega))))|((with_reducible refine kF ?_ ?_ ?_);exact rfl;exact fun _ => rfl)|((with_reducible refine gW ?_ ?_);exact fun _ => rfl)|with_reducible refine pO ?_))
  refine te_callG gx rfl Fx.keeps rfl ?_
  repeat (first|with_reducible refine kW ?_|(first|with_reducible (first|refine pB ?_|refine pF ?_|refine pA ?_|refine kX ?_|refine kY ?_|refine gH ?_|refine gG ?_|refine kD ?_|refine gY ?_|refine kJ ?_|refine gX ?_|refine kL ?_|refine kE ?_|refine kK ?_|refine kC ?_|refine kI ?_|refine kO ?_|refine kP ?_|refine kN ?_|refine pJ ?_|refine pG ?_|refine gB ?_|refine gA ?_|refine pM ?_|refine gJ ?_|refine gN ?_|refine gU ?_|refine gQ ?_|refine gO ?_|refine gV ?_|refine pN ?_)|((with_reducible refine And.intro ?_ ?_);(first|(rw [sizeLine_eq];exact of_decide_eq_true rfl)|omega))|((with_reducible first|refine kZ ?_ ?_|refine kQ ?_ ?_|refine kS ?_ ?_|refine kB ?_ ?_|refine kM ?_ ?_|refine pH ?_ ?_|refine pK ?_ ?_);exact rfl)|((with_reducible first|refine kR ?_ ?_ ?_|refine kT ?_ ?_ ?_|apply kG);exact rfl;exact rfl)|((with_reducible apply gZ);assumption;exact rfl;decide +kernel;exact rfl)|((with_reducible apply kA);assumption;exact rfl;decide +kernel;exact rfl;(first|exact .type _|exact .builtin _);exact rfl)|((with_reducible refine gL ?_ ?_);decide)|((with_reducible refine gK ?_ ?_ ?_);decide;exact PyProof.noPylong_small (by decide))|((with_reducible refine gM ?_ ?_);(first|exact IntMulOk.of_right (intBits_le_64 (by omega) (by omega))|exact IntMulOk.of_left (intBits_le_64 (by omega) (by omega))))|((with_reducible refine kF ?_ ?_ ?_);exact rfl;exact fun _ => rfl)|((with_reducible refine gW ?_ ?_);exact fun _ => rfl)|with_reducible refine pO ?_))
  refine (expr_spec Fx Fc Fo gc go hlen hr rfl hz (by (first|lia|omega)) fun σ1 lx is es sub1 hE hrun hel => ?_).call
  have hisl := hE.r.length
  repeat (first|with_reducible refine kW ?_|(first|with_reducible (first|refine pB ?_|refine pF ?_|refine pA ?_|refine kX ?_|refine kY ?_|refine gH ?_|refine gG ?_|refine kD ?_|refine gY ?_|refine kJ ?_|refine gX ?_|refine kL ?_|refine kE ?_|refine kK ?_|refine kC ?_|refine kI ?_|refine kO ?_|refine kP ?_|refine kN ?_|refine pJ ?_|refine pG ?_|refine gB ?_|refine gA ?_|refine pM ?_|refine gJ ?_|refine gN ?_|refine gU ?_|refine gQ ?_|refine gO ?_|refine gV ?_|refine pN ?_)|((with_reducible refine And.intro ?_ ?_);(first|(rw [sizeLine_eq];exact of_decide_eq_true rfl)|omega))|((with_reducible first|refine kZ ?_ ?_|refine kQ ?_ ?_|refine kS ?_ ?_|refine kB ?_ ?_|refine kM ?_ ?_|refine pH ?_ ?_|refine pK ?_ ?_);exact rfl)|((with_reducible first|refine kR ?_ ?_ ?_|refine kT ?_ ?_ ?_|apply kG);exact rfl;exact rfl)|((with_reducible apply gZ);assumption;exact rfl;decide +kernel;exact rfl)|((with_reducible apply kA);assumption;exact rfl;decide +kernel;exact rfl;(first|exact .type _|exact .builtin _);exact rfl)|((with_reducible refine gL ?_ ?_);decide)|((with_reducible refine gK ?_ ?_ ?_);decide;exact PyProof.noPylong_small (by decide))|((with_reducible refine gM ?_ ?_);(first|exact IntMulOk.of_right (intBits_le_64 (by omega) (by omega))|exact IntMulOk.of_left (intBits_le_64 (by omega) (by omega))))|((with_reducible refine kF ?_ ?_ ?_);exact rfl;exact fun _ => rfl)|((with_reducible refine gW ?_ ?_);exact fun _ => rfl)|with_reducible refine pO ?_))
  refine tcall_list hE.g (by rw [sizeLine_eq]; simp; (first|lia|omega)) ?_
  have hE2 := hE.sub (Sub.snoc σ1 [.list (is.map .ref)])
  have hB2 : ExprP (σ1 ++ [.list (is.map .ref)]) σ1.length is es := ⟨get_snoc _ _, hE2.r⟩
  generalize σ1 ++ [AO.list (is.map AV.ref)] = σ2 at hE2 hB2 ⊢
  generalize σ1.length = lb at hB2 ⊢
  repeat (first|with_reducible refine kW ?_|(first|with_reducible (first|refine pB ?_|refine pF ?_|refine pA ?_|refine kX ?_|refine kY ?_|refine gH ?_|refine gG ?_|refine kD ?_|refine gY ?_|refine kJ ?_|refine gX ?_|refine kL ?_|refine kE ?_|refine kK ?_|refine kC ?_|refine kI ?_|refine kO ?_|refine kP ?_|refine kN ?_|refine pJ ?_|refine pG ?_|refine gB ?_|refine gA ?_|refine pM ?_|refine gJ ?_|refine gN ?_|refine gU ?_|refine gQ ?_|refine gO ?_|refine gV ?_|refine pN ?_)|((with_reducible refine And.intro ?_ ?_);(first|(rw [sizeLine_eq];exact of_decide_eq_true rfl)|omega))|((with_reducible first|refine kZ ?_ ?_|refine kQ ?_ ?_|refine kS ?_ ?_|refine kB ?_ ?_|refine kM ?_ ?_|refine pH ?_ ?_|refine pK ?_ ?_);exact rfl)|((with_reducible first|refine kR ?_ ?_ ?_|refine kT ?_ ?_ ?_|apply kG);exact rfl;exact rfl)|((with_reducible apply gZ);assumption;exact rfl;decide +kernel;exact rfl)|((with_reducible apply kA);assumption;exact rfl;decide +kernel;exact rfl;(first|exact .type _|exact .builtin _);exact rfl)|((with_reducible refine gL ?_ ?_);decide)|((with_reducible refine gK ?_ ?_ ?_);decide;exact PyProof.noPylong_small (by decide))|((with_reducible refine gM ?_ ?_);(first|exact IntMulOk.of_right (intBits_le_64 (by omega) (by omega))|exact IntMulOk.of_left (intBits_le_64 (by omega) (by omega))))|((with_reducible refine kF ?_ ?_ ?_);exact rfl;exact fun _ => rfl)|((with_reducible refine gW ?_ ?_);exact fun _ => rfl)|with_reducible refine pO ?_))
  refine te_callG gk rfl Fk.keeps rfl ?_
  repeat (first|with_reducible refine kW ?_|(first|with_reducible (first|refine pB ?_|refine pF ?_|refine pA ?_|refine kX ?_|refine kY ?_|refine gH ?_|refine gG ?_|refine kD ?_|refine gY ?_|refine kJ ?_|refine gX ?_|refine kL ?_|refine kE ?_|refine kK ?_|refine kC ?_|refine kI ?_|refine kO ?_|refine kP ?_|refine kN ?_|refine pJ ?_|refine pG ?_|refine gB ?_|refine gA ?_|refine pM ?_|refine gJ ?_|refine gN ?_|refine gU ?_|refine gQ ?_|refine gO ?_|refine gV ?_|refine pN ?_)|((with_reducible refine And.intro ?_ ?_);(first|(rw [sizeLine_eq];exact of_decide_eq_true rfl)|omega))|((with_reducible first|refine kZ ?_ ?_|refine kQ ?_ ?_|refine kS ?_ ?_|refine kB ?_ ?_|refine kM ?_ ?_|refine pH ?_ ?_|refine pK ?_ ?_);exact rfl)|((with_reducible first|refine kR ?_ ?_ ?_|refine kT ?_ ?_ ?_|apply kG);exact rfl;exact rfl)|((with_reducible apply gZ);assumption;exact rfl;decide +kernel;exact rfl)|((with_reducible apply kA);assumption;exact rfl;decide +kernel;exact rfl;(first|exact .type _|exact .builtin _);exact rfl)|((with_reducible refine gL ?_ ?_);decide)|((with_reducible refine gK ?_ ?_ ?_);decide;exact PyProof.noPylong_small (by decide))|((with_reducible refine gM ?_ ?_);(first|exact IntMulOk.of_right (intBits_le_64 (by omega) (by omega))|exact IntMulOk.of_left (intBits_le_64 (by omega) (by omega))))|((with_reducible refine kF ?_ ?_ ?_);exact rfl;exact fun _ => rfl)|((with_reducible refine gW ?_ ?_);exact fun _ => rfl)|with_reducible refine pO ?_))
  refine (ltk_spec S Fk Fn Fe Ft Fv gn ge gt gv hE2 hrun hel (by (first|lia|omega)) hk fun σ3 sub3 => ?_).call
  repeat (first|with_reducible refine kW ?_|(first|with_reducible (first|refine pB ?_|refine pF ?_|refine pA ?_|refine kX ?_|refine kY ?_|refine gH ?_|refine gG ?_|refine kD ?_|refine gY ?_|refine kJ ?_|refine gX ?_|refine kL ?_|refine kE ?_|refine kK ?_|refine kC ?_|refine kI ?_|refine kO ?_|refine kP ?_|refine kN ?_|refine pJ ?_|refine pG ?_|refine gB ?_|refine gA ?_|refine pM ?_|refine gJ ?_|refine gN ?_|refine gU ?_|refine gQ ?_|refine gO ?_|refine gV ?_|refine pN ?_)|((with_reducible refine And.intro ?_ ?_);(first|(rw [sizeLine_eq];exact of_decide_eq_true rfl)|omega))|((with_reducible first|refine kZ ?_ ?_|refine kQ ?_ ?_|refine kS ?_ ?_|refine kB ?_ ?_|refine kM ?_ ?_|refine pH ?_ ?_|refine pK ?_ ?_);exact rfl)|((with_reducible first|refine kR ?_ ?_ ?_|refine kT ?_ ?_ ?_|apply kG);exact rfl;exact rfl)|((with_reducible apply gZ);assumption;exact rfl;decide +kernel;exact rfl)|((with_reducible apply kA);assumption;exact rfl;decide +kernel;exact rfl;(first|exact .type _|exact .builtin _);exact rfl)|((with_reducible refine gL ?_ ?_);decide)|((with_reducible refine gK ?_ ?_ ?_);decide;exact PyProof.noPylong_small (by decide))|((with_reducible refine gM ?_ ?_);(first|exact IntMulOk.of_right (intBits_le_64 (by omega) (by omega))|exact IntMulOk.of_left (intBits_le_64 (by omega) (by omega))))|((with_reducible refine kF ?_ ?_ ?_);exact rfl;exact fun _ => rfl)|((with_reducible refine gW ?_ ?_);exact fun _ => rfl)|with_reducible refine pO ?_))
  refine tcmp_isNot rfl rfl rfl ?_
  repeat (first|with_reducible refine kW ?_|(first|with_reducible (first|refine pB ?_|refine pF ?_|refine pA ?_|refine kX ?_|refine kY ?_|refine gH ?_|refine gG ?_|refine kD ?_|refine gY ?_|refine kJ ?_|refine gX ?_|refine kL ?_|refine kE ?_|refine kK ?_|refine kC ?_|refine kI ?_|refine kO ?_|refine kP ?_|refine kN ?_|refine pJ ?_|refine pG ?_|refine gB ?_|refine gA ?_|refine pM ?_|refine gJ ?_|refine gN ?_|refine gU ?_|refine gQ ?_|refine gO ?_|refine gV ?_|refine pN ?_)|((with_reducible refine And.intro ?_ ?_);(first|(rw [sizeLine_eq];exact of_decide_eq_true rfl)|omega))|((with_reducible first|refine kZ ?_ ?_|refine kQ ?_ ?_|refine kS ?_ ?_|refine kB ?_ ?_|refine kM ?_ ?_|refine pH ?_ ?_|refine pK ?_ ?_);exact rfl)|((with_reducible first|refine kR ?_ ?_ ?_|refine kT ?_ ?_ ?_|apply kG);exact rfl;exact rfl)|((with_reducible apply gZ);assumption;exact rfl;decide +kernel;exact rfl)|((with_reducible apply kA);assumption;exact rfl;decide +kernel;exact rfl;(first|exact .type _|exact .builtin _);exact rfl)|((with_reducible refine gL ?_ ?_);decide)|((with_reducible refine gK ?_ ?_ ?_);decide;exact PyProof.noPylong_small (by decide))|((with_reducible refine gM ?_ ?_);(first|exact IntMulOk.of_right (intBits_le_64 (by omega) (by omega))|exact IntMulOk.of_left (intBits_le_64 (by omega) (by omega))))|((with_reducible refine kF ?_ ?_ ?_);exact rfl;exact fun _ => rfl)|((with_reducible refine gW ?_ ?_);exact fun _ => rfl)|with_reducible refine pO ?_))
  rw [if_neg (by decide)]
  repeat (first|with_reducible refine kW ?_|(first|with_reducible (first|refine pB ?_|refine pF ?_|refine pA ?_|refine kX ?_|refine kY ?_|refine gH ?_|refine gG ?_|refine kD ?_|refine gY ?_|refine kJ ?_|refine gX ?_|refine kL ?_|refine kE ?_|refine kK ?_|refine kC ?_|refine kI ?_|refine kO ?_|refine kP ?_|refine kN ?_|refine pJ ?_|refine pG ?_|refine gB ?_|refine gA ?_|refine pM ?_|refine gJ ?_|refine gN ?_|refine gU ?_|refine gQ ?_|refine gO ?_|refine gV ?_|refine pN ?_)|((with_reducible refine And.intro ?_ ?_);(first|(rw [sizeLine_eq];exact of_decide_eq_true rfl)|omega))|((with_reducible first|refine kZ ?_ ?_|refine kQ ?_ ?_|refine kS ?_ ?_|refine kB ?_ ?_|refine kM ?_ ?_|refine pH ?_ ?_|refine pK ?_ ?_);exact rfl)|((with_reducible first|refine kR ?_ ?_ ?_|refine kT ?_ ?_ ?_|apply kG);exact rfl;exact rfl)|((with_reducible apply gZ);assumption;exact rfl;decide +kernel;exact rfl)|((with_reducible apply kA);assumption;exact rfl;decide +kernel;exact rfl;(first|exact .type _|exact .builtin _);exact rfl)|((with_reducible refine gL ?_ ?_);decide)|((with_reducible refine gK ?_ ?_ ?_);decide;exact PyProof.noPylong_small (by decide))|((with_reducible refine gM ?_ ?_);(first|exact IntMulOk.of_right (intBits_le_64 (by omega) (by omega))|exact IntMulOk.of_left (intBits_le_64 (by omega) (by omega))))|((with_reducible refine kF ?_ ?_ ?_);exact rfl;exact fun _ => rfl)|((with_reducible refine gW ?_ ?_);exact fun _ => rfl)|with_reducible refine pO ?_))
  refine tcmp_neD (.list (hE2.sub sub3).g (hE2.sub sub3).r.den) (.list (hB2.sub sub3).g (hB2.sub sub3).r.den) (canOps _) (canOps _) (by have := depOps es; (first|lia|omega)) ?_
  rw [SeqAt.eqv_refl _ (canOps _)]
  repeat (first|with_reducible refine kW ?_|(first|with_reducible (first|refine pB ?_|refine pF ?_|refine pA ?_|refine kX ?_|refine kY ?_|refine gH ?_|refine gG ?_|refine kD ?_|refine gY ?_|refine kJ ?_|refine gX ?_|refine kL ?_|refine kE ?_|refine kK ?_|refine kC ?_|refine kI ?_|refine kO ?_|refine kP ?_|refine kN ?_|refine pJ ?_|refine pG ?_|refine gB ?_|refine gA ?_|refine pM ?_|refine gJ ?_|refine gN ?_|refine gU ?_|refine gQ ?_|refine gO ?_|refine gV ?_|refine pN ?_)|((with_reducible refine And.intro ?_ ?_);(first|(rw [sizeLine_eq];exact of_decide_eq_true rfl)|omega))|((with_reducible first|refine kZ ?_ ?_|refine kQ ?_ ?_|refine kS ?_ ?_|refine kB ?_ ?_|refine kM ?_ ?_|refine pH ?_ ?_|refine pK ?_ ?_);exact rfl)|((with_reducible first|refine kR ?_ ?_ ?_|refine kT ?_ ?_ ?_|apply kG);exact rfl;exact rfl)|((with_reducible apply gZ);assumption;exact rfl;decide +kernel;exact rfl)|((with_reducible apply kA);assumption;exact rfl;decide +kernel;exact rfl;(first|exact .type _|exact .builtin _);exact rfl)|((with_reducible refine gL ?_ ?_);decide)|((with_reducible refine gK ?_ ?_ ?_);decide;exact PyProof.noPylong_small (by decide))|((with_reducible refine gM ?_ ?_);(first|exact IntMulOk.of_right (intBits_le_64 (by omega) (by omega))|exact IntMulOk.of_left (intBits_le_64 (by omega) (by omega))))|((with_reducible refine kF ?_ ?_ ?_);exact rfl;exact fun _ => rfl)|((with_reducible refine gW ?_ ?_);exact fun _ => rfl)|with_reducible refine pO ?_))
  rw [if_neg (by decide)]
  repeat (first|with_reducible refine kW ?_|(first|with_reducible (first|refine pB ?_|refine pF ?_|refine pA ?_|refine kX ?_|refine kY ?_|refine gH ?_|refine gG ?_|refine kD ?_|refine gY ?_|refine kJ ?_|refine gX ?_|refine kL ?_|refine kE ?_|refine kK ?_|refine kC ?_|refine kI ?_|refine kO ?_|refine kP ?_|refine kN ?_|refine pJ ?_|refine pG ?_|refine gB ?_|refine gA ?_|refine pM ?_|refine gJ ?_|refine gN ?_|refine gU ?_|refine gQ ?_|refine gO ?_|refine gV ?_|refine pN ?_)|((with_reducible refine And.intro ?_ ?_);(first|(rw [sizeLine_eq];exact of_decide_eq_true rfl)|omega))|((with_reducible first|refine kZ ?_ ?_|refine kQ ?_ ?_|refine kS ?_ ?_|refine kB ?_ ?_|refine kM ?_ ?_|refine pH ?_ ?_|refine pK ?_ ?_);exact rfl)|((with_reducible first|refine kR ?_ ?_ ?_|refine kT ?_ ?_ ?_|apply kG);exact rfl;exact rfl)|((with_reducible apply gZ);assumption;exact rfl;decide +kernel;exact rfl)|((with_reducible apply kA);assumption;exact rfl;decide +kernel;exact rfl;(first|exact .type _|exact .builtin _);exact rfl)|((with_reducible refine gL ?_ ?_);decide)|((with_reducible refine gK ?_ ?_ ?_);decide;exact PyProof.noPylong_small (by decide))|((with_reducible refine gM ?_ ?_);(first|exact IntMulOk.of_right (intBits_le_64 (by omega) (by omega))|exact IntMulOk.of_left (intBits_le_64 (by omega) (by omega))))|((with_reducible refine kF ?_ ?_ ?_);exact rfl;exact fun _ => rfl)|((with_reducible refine gW ?_ ?_);exact fun _ => rfl)|with_reducible refine pO ?_))
  exact rfl
end Mine
end
section
open PySem PySem.W PySem.W.X PyProof.Rows
set_option maxRecDepth 100000 in
set_option maxHeartbeats 8000000 in
theorem PySem.Challenge.cw_k11_0045_holds : PySem.Challenge.rw_k11_0045.Holds := by
  w_on; o_law; z_head; (case hw => w_witness2)
  k_fill
  intro w s₀ s₁ mg mb G y fa o pm cd doc dV kV ho hd hcd hD hmg hg args vals as L hpre hlay hrd hwl hlo
  z_open y L KX ZH ZN ZT
  refine Ground.open G ?_
  intro T B D TE TW
  have hfa := Option.some.inj ((mg_of KX T.g (n := "law") rfl).symm.trans hmg)
  cases hfa
  wrow_args hpre hlay hrd hwl hlo
  rename ¬ (_ < _) => hlt
  refine Mine.law_bridge T (by assumption) (by assumption) hg ?_
  refine Mine.law_spec (Mine.fn_ofK KX rfl rfl rfl rfl rfl rfl rfl (Mine.ar1 fun _ => rfl) rfl) (Mine.fn_ofK KX rfl rfl rfl rfl rfl rfl rfl (Mine.ar2 fun _ _ => rfl) rfl) (Mine.fn_ofK KX rfl rfl rfl rfl rfl rfl rfl (Mine.ar1 fun _ => rfl) rfl) (Mine.fn_ofK KX rfl rfl rfl rfl rfl rfl rfl (Mine.ar2 fun _ _ => rfl) rfl) (Mine.fn_ofK KX rfl rfl rfl rfl rfl rfl rfl (Mine.ar3 fun _ _ _ => rfl) rfl) (Mine.fn_ofK KX rfl rfl rfl rfl rfl rfl rfl (Mine.ar2 fun _ _ => rfl) rfl) (Mine.fn_ofK KX rfl rfl rfl rfl rfl rfl rfl (Mine.ar2 fun _ _ => rfl) rfl) (Mine.fn_ofK KX rfl rfl rfl rfl rfl rfl rfl (Mine.ar2 fun _ _ => rfl) rfl) (Mine.fn_ofK KX rfl rfl rfl rfl rfl rfl rfl (Mine.ar2 fun _ _ => rfl) rfl) (mg_of KX T.g rfl) (mg_of KX T.g rfl) (mg_of KX T.g rfl) (mg_of KX T.g rfl) (mg_of KX T.g rfl) (mg_of KX T.g rfl) (mg_of KX T.g rfl) (mg_of KX T.g rfl) (mg_none_of KX T.g rfl) (mg_none_of KX T.g rfl) (mg_none_of KX T.g rfl) ⟨⟨KX, rfl, rfl, rfl, rfl, rfl, rfl⟩, ⟨rfl, rfl, rfl, (Mine.fn_ofK KX rfl rfl rfl rfl rfl rfl rfl (Mine.ar3 fun _ _ _ => rfl) rfl)⟩, ⟨rfl, rfl, rfl, (Mine.fn_ofK KX rfl rfl rfl rfl rfl rfl rfl (Mine.ar1 fun _ => rfl) rfl)⟩, ⟨rfl, rfl, rfl, (Mine.fn_ofK KX rfl rfl rfl rfl rfl rfl rfl (Mine.ar1 fun _ => rfl) rfl)⟩, ⟨rfl, rfl, rfl, (Mine.fn_ofK KX rfl rfl rfl rfl rfl rfl rfl (Mine.ar2 fun _ _ => rfl) rfl)⟩, ⟨KX, rfl, rfl, rfl, rfl, rfl, rfl⟩, ⟨rfl, rfl, rfl, (Mine.fn_ofK KX rfl rfl rfl rfl rfl rfl rfl (Mine.ar2 fun _ _ => rfl) rfl)⟩, ⟨rfl, rfl, rfl, (Mine.fn_ofK KX rfl rfl rfl rfl rfl rfl rfl (Mine.ar2 fun _ _ => rfl) rfl)⟩, ⟨rfl, rfl, rfl, (Mine.fn_ofK KX rfl rfl rfl rfl rfl rfl rfl (Mine.ar2 fun _ _ => rfl) rfl)⟩, ⟨rfl, rfl, rfl, (Mine.fn_ofK KX rfl rfl rfl rfl rfl rfl rfl (Mine.ar1 fun _ => rfl) rfl)⟩, ⟨rfl, rfl, rfl, (Mine.fn_ofK KX rfl rfl rfl rfl rfl rfl rfl (Mine.ar1 fun _ => rfl) rfl)⟩, ⟨rfl, rfl, rfl, (Mine.fn_ofK KX rfl rfl rfl rfl rfl rfl rfl (Mine.ar1 fun _ => rfl) rfl)⟩, ⟨rfl, rfl, rfl, (Mine.fn_ofK KX rfl rfl rfl rfl rfl rfl rfl (Mine.ar1 fun _ => rfl) rfl)⟩, (Mine.fn_ofK KX rfl rfl rfl rfl rfl rfl rfl (Mine.ar2 fun _ _ => rfl) rfl), (Mine.fn_ofK KX rfl rfl rfl rfl rfl rfl rfl (Mine.ar2 fun _ _ => rfl) rfl), (Mine.fn_ofK KX rfl rfl rfl rfl rfl rfl rfl (Mine.ar2 fun _ _ => rfl) rfl), (mg_of KX T.g rfl), (mg_of KX T.g rfl), (mg_of KX T.g rfl), (mg_of KX T.g rfl), (mg_of KX T.g rfl), (mg_none_of KX T.g rfl), (mg_none_of KX T.g rfl), (mg_none_of KX T.g rfl), (mg_none_of KX T.g rfl)⟩ ?_
  omega
end
