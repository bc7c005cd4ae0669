import PyProof.Rows.All
import Wide.All
import OpenK.AllK
import Wide.FinOn
import PyProof.Cells
import PyProof.Rows.Top
import PyProof.Walks
import PyProof.PureInt
import PyProof.RangeIter
import PyProof.DefCall
import PyProof.SliceList
import PyProof.IsRules
import PyProof.AutoIntOps
import PyProof.Rules2
import PyProof.Rules3
import PyProof.ForAny
import PyProof.RulesAssignMore
import PyProof.WalksMore
import PyProof.WalksPairs
import PyProof.TupleIter
import PyProof.LongRange
import PyProof.Rows.StrTemp
import PyProof.Rows.Method
import PyProof.ListIndexNeg
import PyProof.TupleOps
import PyProof.Rows.DictMethods
import PyProof.DelItemList
import PyProof.Dict
import PyProof.ReprLoop
import OpenK.KMore
import PyProof.P3Eq
import PyProof.NeData
import PyProof.WalkInts
import PyProof.ListCopy
import PyProof.TypeOfCall
import PyProof.IsiPairs
import PyProof.CallStr
import PyProof.ListMulAny
import PyProof.AutoListH
import PyProof.Rows.SeqIn
import PyProof.Rows.RuleN_abs
import PyProof.Rows.Range3
import PyProof.Rows.ListMul
import PyProof.CompFree
import PyProof.RulesDel
import PyProof.Rows.TupIter
import OpenK.KLine
import PyProof.Rows.AttrNodeAny
import Open.Line
import OpenK.KCall
import PyProof.SeqI3
import PyProof.SliceMore
import PyProof.Rows.TupAssign
import PyProof.AutoIntOpsIf
import PyProof.Rows.GenRowsK
import PySem.Challenge.RW_k11_0005
set_option Elab.async false
section
namespace Mine
open PySem

/-- an abstract value: no tokens, no addresses -/
inductive AV where
  | none
  | bool (b : Bool)
  | int (i : Int)
  | str (x : Str)
  | ref (i : Nat)
  | stat (v : Value)

/-- an abstract object -/
inductive AO where
  | list (xs : List AV)
  | tuple (xs : List AV)
  | inst (C : Addr) (d : Nat)
  | dict (fs : List (Str × AV))
  | range (a b c : Int)
  | slice (lo hi st : Option Int)
  | «ints» (ns : List Int)

abbrev AH := List AO
abbrev Locs := List (Str × AV)
abbrev Pr := Addr → Obj → Prop

inductive AF where
  | next | brk | cont
  | ret (v : AV)

def Ext (as as' : List Addr) : Prop := ∃ l, as' = as ++ l
theorem Ext.refl (as : List Addr) : Ext as as := ⟨[], by simp⟩
theorem Ext.trans {a b c : List Addr} (x : Ext a b) (y : Ext b c) : Ext a c := by
  obtain ⟨l, rfl⟩ := x; obtain ⟨k, rfl⟩ := y; exact ⟨l ++ k, by simp⟩
theorem Ext.snoc (as : List Addr) (a : Addr) : Ext as (as ++ [a]) := ⟨[a], rfl⟩
theorem Ext.get {as as' : List Addr} (x : Ext as as') {i : Nat} {a : Addr} (h : as[i]? = some a) : as'[i]? = some a := by
  obtain ⟨l, rfl⟩ := x
  have : i < as.length := by
    rcases Nat.lt_or_ge i as.length with h' | h'
    · exact h'
    · rw [List.getElem?_eq_none h'] at h; cases h
  rw [List.getElem?_append_left this]; exact h

def VRel (as : List Addr) (v : Value) : AV → Prop
  | .none => v = .none
  | .bool b => v = .bool b
  | .int i => ∃ t, v = .int i t
  | .str x => ∃ t, v = .str x t
  | .ref i => ∃ a, as[i]? = some a ∧ v = .ref a
  | .stat u => v = u
theorem VRel.ext {as as' : List Addr} (x : Ext as as') {v : Value} {av : AV} (h : VRel as v av) : VRel as' v av := by
  cases av with
  | ref i => obtain ⟨a, h1, h2⟩ := h; exact ⟨a, x.get h1, h2⟩
  | _ => exact h

def VsRel (as : List Addr) : List Value → List AV → Prop
  | [], [] => True
  | v :: vs, x :: xs => VRel as v x ∧ VsRel as vs xs
  | _, _ => False
theorem VsRel.ext {as as' : List Addr} (x : Ext as as') : ∀ {vs : List Value} {xs : List AV}, VsRel as vs xs → VsRel as' vs xs
  | [], [], _ => trivial
  | _ :: _, _ :: _, ⟨h, r⟩ => ⟨h.ext x, r.ext x⟩
theorem VsRel.x0 {as : List Addr} {vs : List Value} (h : VsRel as vs []) : vs = [] := by
  cases vs with
  | nil => rfl
  | cons v vs => exact h.elim
theorem VsRel.xs {as : List Addr} {vs : List Value} {x : AV} {xs : List AV} (h : VsRel as vs (x :: xs)) : ∃ v us, vs = v :: us ∧ VRel as v x ∧ VsRel as us xs := by
  cases vs with
  | nil => exact h.elim
  | cons v vs => exact ⟨v, vs, rfl, h.1, h.2⟩
theorem VsRel.x1 {as : List Addr} {vs : List Value} {x : AV} (h : VsRel as vs [x]) : ∃ v, vs = [v] ∧ VRel as v x := by
  obtain ⟨v, us, rfl, h1, h2⟩ := h.xs
  rw [h2.x0]; exact ⟨v, rfl, h1⟩
theorem VsRel.x2 {as : List Addr} {vs : List Value} {x y : AV} (h : VsRel as vs [x, y]) : ∃ v w, vs = [v, w] ∧ VRel as v x ∧ VRel as w y := by
  obtain ⟨v, us, rfl, h1, h2⟩ := h.xs
  obtain ⟨w, rfl, h3⟩ := h2.x1
  exact ⟨v, w, rfl, h1, h3⟩
theorem VsRel.x3 {as : List Addr} {vs : List Value} {x y z : AV} (h : VsRel as vs [x, y, z]) : ∃ v w u, vs = [v, w, u] ∧ VRel as v x ∧ VRel as w y ∧ VRel as u z := by
  obtain ⟨v, us, rfl, h1, h2⟩ := h.xs
  obtain ⟨w, u, rfl, h3, h4⟩ := h2.x2
  exact ⟨v, w, u, rfl, h1, h3, h4⟩
theorem VsRel.length {as : List Addr} : ∀ {vs : List Value} {xs : List AV}, VsRel as vs xs → vs.length = xs.length
  | [], [], _ => rfl
  | _ :: _, _ :: _, ⟨_, r⟩ => by simp [r.length]
theorem VsRel.get {as : List Addr} : ∀ {vs : List Value} {xs : List AV}, VsRel as vs xs → ∀ {i : Nat} {x : AV}, xs[i]? = some x → ∃ v, vs[i]? = some v ∧ VRel as v x
  | [], [], _, _, _, h => by simp at h
  | v :: vs, x :: xs, ⟨h, r⟩, 0, y, e => by simp at e; subst e; exact ⟨v, rfl, h⟩
  | v :: vs, x :: xs, ⟨h, r⟩, i + 1, y, e => by simp at e; simpa using r.get e
theorem VsRel.of_get {as : List Addr} : ∀ {vs : List Value} {xs : List AV}, vs.length = xs.length → (∀ (i : Nat) (v : Value) (x : AV), vs[i]? = some v → xs[i]? = some x → VRel as v x) → VsRel as vs xs
  | [], [], _, _ => trivial
  | v :: vs, x :: xs, h, f => ⟨f 0 v x rfl rfl, VsRel.of_get (by simpa using h) fun i v' x' h1 h2 => f (i + 1) v' x' (by simpa using h1) (by simpa using h2)⟩
  | [], _ :: _, h, _ => by simp at h
  | _ :: _, [], h, _ => by simp at h
theorem VsRel.append {as : List Addr} : ∀ {vs us : List Value} {xs ys : List AV}, VsRel as vs xs → VsRel as us ys → VsRel as (vs ++ us) (xs ++ ys)
  | [], _, [], _, _, h => h
  | _ :: _, _, _ :: _, _, ⟨h, r⟩, k => ⟨h, r.append k⟩
theorem VsRel.getv {as : List Addr} {vs : List Value} {xs : List AV} (h : VsRel as vs xs) {i : Nat} {v : Value} (e : vs[i]? = some v) : ∃ x, xs[i]? = some x ∧ VRel as v x := by
  have hl := h.length
  have hi : i < vs.length := by
    rcases Nat.lt_or_ge i vs.length with h' | h'
    · exact h'
    · rw [List.getElem?_eq_none h'] at e; cases e
  have hx : xs[i]? = some xs[i] := by simp
  obtain ⟨v', e', r⟩ := h.get hx
  rw [e] at e'; cases e'
  exact ⟨_, hx, r⟩

/-- the fields of a made object's dict -/
def FsRel (P : Params) (as : List Addr) : List DictEntry → List (Str × AV) → Prop
  | [], [] => True
  | e :: es, f :: fs => (∃ t, e.key = .str f.1 t) ∧ VRel as e.val f.2 ∧ FsRel P as es fs
  | _, _ => False
theorem FsRel.ext {P : Params} {as as' : List Addr} (x : Ext as as') : ∀ {es : List DictEntry} {fs : List (Str × AV)}, FsRel P as es fs → FsRel P as' es fs
  | [], [], _ => trivial
  | _ :: _, _ :: _, ⟨h, h2, r⟩ => ⟨h, h2.ext x, r.ext x⟩

def ORel (P : Params) (as : List Addr) (o : Obj) : AO → Prop
  | .list xs => ∃ vs n, o = ⟨.type "list", none, .seq (List.toArray vs) n, #[]⟩ ∧ VsRel as vs xs
  | .tuple xs => ∃ vs n, o = ⟨.type "tuple", none, .seq (List.toArray vs) n, #[]⟩ ∧ VsRel as vs xs
  | .inst C d => ∃ dx, as[d]? = some dx ∧ o = ⟨.ref C, some dx, .plain, #[]⟩
  | .dict fs => ∃ es n, o = ⟨.type "dict", none, .dict (List.toArray es) n, #[]⟩ ∧ FsRel P as es fs
  | .range a b c => ∃ t u v, o = ⟨.type "range", none, .fields #[.int a t, .int b u, .int c v], #[]⟩
  | .slice lo hi st => ∃ vl vu vs, o = ⟨.type "slice", none, .fields #[vl, vu, vs], #[]⟩ ∧ IsPart vl lo ∧ IsPart vu hi ∧ IsPart vs st
  | .ints ns => ∃ vs n, o.cls = .type "list" ∧ o.data = .seq (List.toArray vs) n ∧ VsRel as vs (ns.map AV.int)
theorem ORel.ext {P : Params} {as as' : List Addr} (x : Ext as as') {o : Obj} {ao : AO} (h : ORel P as o ao) : ORel P as' o ao := by
  cases ao with
  | list xs => obtain ⟨vs, n, e, r⟩ := h; exact ⟨vs, n, e, r.ext x⟩
  | tuple xs => obtain ⟨vs, n, e, r⟩ := h; exact ⟨vs, n, e, r.ext x⟩
  | inst C d => obtain ⟨dx, e, r⟩ := h; exact ⟨dx, x.get e, r⟩
  | dict fs => obtain ⟨es, n, e, r⟩ := h; exact ⟨es, n, e, r.ext x⟩
  | range a b c => exact h
  | slice a b c => exact h
  | «ints» ns => obtain ⟨vs, n, e, e2, r⟩ := h; exact ⟨vs, n, e, e2, r.ext x⟩
def AO.isMut : AO → Bool
  | .ints _ => false
  | _ => true

/-- what stands fixed: the program, the world, the heap at the law's call -/
structure Wd where
  prog : Program
  w : World
  H : Heap
  mg : Str → Option Value
  mb : Str → Option Value
  gl : H.Ns mainGlobals mg
  bl : H.Ns builtinsNs mb
  bt : ∀ x : Str, x ≠ "__name__" → mb x = bootBuiltins x
  lim : H.NoLimit

def Wd.In (W : Wd) (P : Pr) : Prop := ∀ a o, W.H.get? a = some o → P a o

structure Rep (W : Wd) (P : Pr) (as : List Addr) (σ : AH) (h : Heap) : Prop where
  len : as.length = σ.length
  nd : as.Nodup
  keep : ∀ a o, P a o → h.get? a = some o
  obj : ∀ (i : Nat) a ao, as[i]? = some a → σ[i]? = some ao →
    ∃ o, h.get? a = some o ∧ ORel W.w.params as o ao ∧ (ao.isMut = true → ∀ o', ¬ P a o') ∧ (ao.isMut = false → W.H.get? a = some o)

section
variable {W : Wd} {P P' : Pr} {as : List Addr} {σ : AH} {h h' : Heap}
theorem Rep.weaken (R : Rep W P as σ h) (hp : ∀ a o, P' a o → P a o) : Rep W P' as σ h :=
  ⟨R.len, R.nd, fun a o x => R.keep a o (hp a o x), fun i a ao h1 h2 => by
    obtain ⟨o, e, r, m, n⟩ := R.obj i a ao h1 h2
    exact ⟨o, e, r, fun hm o' x => m hm o' (hp _ _ x), n⟩⟩
theorem Rep.grow (R : Rep W P as σ h) (hk : ∀ b o, h.get? b = some o → h'.get? b = some o) : Rep W P as σ h' :=
  ⟨R.len, R.nd, fun a o x => hk _ _ (R.keep a o x), fun i a ao h1 h2 => by
    obtain ⟨o, e, r⟩ := R.obj i a ao h1 h2
    exact ⟨o, hk _ _ e, r⟩⟩
theorem Rep.idx (R : Rep W P as σ h) {i : Nat} {ao : AO} (e : σ[i]? = some ao) : ∃ a, as[i]? = some a := by
  have hi : i < σ.length := by
    rcases Nat.lt_or_ge i σ.length with h' | h'
    · exact h'
    · rw [List.getElem?_eq_none h'] at e; cases e
  rw [← R.len] at hi
  exact ⟨as[i], by simp⟩
theorem Rep.at (R : Rep W P as σ h) {i : Nat} {ao : AO} (e : σ[i]? = some ao) : ∃ a o, as[i]? = some a ∧ h.get? a = some o ∧ ORel W.w.params as o ao := by
  obtain ⟨a, ha⟩ := R.idx e
  obtain ⟨o, h1, h2, _⟩ := R.obj i a ao ha e
  exact ⟨a, o, ha, h1, h2⟩
theorem Rep.lt (R : Rep W P as σ h) {a : Addr} (ha : a ∈ as) : ∃ o, h.get? a = some o := by
  obtain ⟨i, hi⟩ := List.mem_iff_getElem?.mp ha
  have hl : i < as.length := by
    rcases Nat.lt_or_ge i as.length with h' | h'
    · exact h'
    · rw [List.getElem?_eq_none h'] at hi; cases hi
  have hs : i < σ.length := R.len ▸ hl
  obtain ⟨o, e, _⟩ := R.obj i a σ[i] hi (by simp)
  exact ⟨o, e⟩
/-- a new object -/
theorem Rep.alloc (R : Rep W P as σ h) {a : Addr} {o : Obj} {ao : AO} (hf : h.get? a = none) (hk : ∀ b x, h.get? b = some x → h'.get? b = some x) (e : h'.get? a = some o)
    (r : ORel W.w.params (as ++ [a]) o ao) (hm : ao.isMut = true) : Rep W P (as ++ [a]) (σ ++ [ao]) h' := by
  have na : a ∉ as := fun q => by obtain ⟨x, ex⟩ := R.lt q; rw [hf] at ex; cases ex
  refine ⟨by simp [R.len], ?_, fun b x q => hk _ _ (R.keep b x q), fun i b bo h1 h2 => ?_⟩
  · rw [List.nodup_append]
    exact ⟨R.nd, by simp, fun x hx y hy e => by simp at hy; exact na (hy ▸ e ▸ hx)⟩
  · rcases Nat.lt_trichotomy i as.length with q | q | q
    · rw [List.getElem?_append_left q] at h1
      rw [List.getElem?_append_left (R.len ▸ q)] at h2
      obtain ⟨x, e1, r1, m1⟩ := R.obj i b bo h1 h2
      exact ⟨x, hk _ _ e1, r1.ext (Ext.snoc ..), m1⟩
    · subst q
      have h1' : b = a := by simpa using h1.symm
      have h2' : bo = ao := by rw [R.len] at h2; simpa using h2.symm
      subst h1' h2'
      exact ⟨o, e, r, (fun _ o' q => by have := R.keep _ _ q; rw [hf] at this; cases this), (fun q => by rw [hm] at q; cases q)⟩
    · rw [List.getElem?_eq_none (by rw [List.length_append, List.length_singleton]; omega)] at h1; cases h1

def Pr.add (P : Pr) (a : Addr) (o : Obj) : Pr := fun b x => P b x ∨ (b = a ∧ x = o)
def Pr.or (P O : Pr) : Pr := fun b x => P b x ∨ O b x
/-- one more object that is to stay -/
theorem Rep.hold (R : Rep W P as σ h) {a : Addr} {o : Obj} (na : a ∉ as) (e : h.get? a = some o) : Rep W (P.add a o) as σ h :=
  ⟨R.len, R.nd, fun b x q => q.elim (R.keep b x) (fun ⟨h1, h2⟩ => by subst h1 h2; exact e), fun i b bo h1 h2 => by
    obtain ⟨x, e1, r1, m1, n1⟩ := R.obj i b bo h1 h2
    refine ⟨x, e1, r1, fun hm o' q => q.elim (m1 hm o') fun ⟨z, _⟩ => na (z ▸ List.mem_of_getElem? h1), n1⟩⟩
/-- an object that is changed -/
theorem Rep.set (R : Rep W P as σ h) {i : Nat} {a : Addr} {o' : Obj} {ao ao' : AO} (ha : as[i]? = some a) (hs : σ[i]? = some ao) (hm : ao.isMut = true) (hm' : ao'.isMut = true)
    (same : Heap.SameBut a h h') (e : h'.get? a = some o') (r : ORel W.w.params as o' ao') : Rep W P as (σ.set i ao') h' := by
  obtain ⟨o, e0, r0, m0, _⟩ := R.obj i a ao ha hs
  refine ⟨by simp [R.len], R.nd, fun b x q => ?_, fun j b bo h1 h2 => ?_⟩
  · have hb : b ≠ a := fun z => m0 hm x (z ▸ q)
    exact (same.2 b hb).trans (R.keep b x q)
  · rw [List.getElem?_set] at h2
    by_cases q : i = j
    · subst q
      rw [if_pos rfl] at h2
      have hb : b = a := by rw [ha] at h1; exact (Option.some.inj h1).symm
      subst hb
      split at h2
      · cases h2
        exact ⟨o', e, r, (fun _ => m0 hm), (fun z => by rw [hm'] at z; cases z)⟩
      · cases h2
    · rw [if_neg q] at h2
      have hb : b ≠ a := fun z => by
        subst z
        exact q ((List.getElem?_inj (List.getElem?_eq_some_iff.mp ha).1 R.nd).mp (ha.trans h1.symm))
      obtain ⟨x, e1, r1⟩ := R.obj j b bo h1 h2
      exact ⟨x, (same.2 b hb).trans e1, r1⟩
end
end Mine
end
section
namespace Mine
open PySem

def Room (n : Nat) (A : Around) : Prop := A.handled = none ∧ A.depth + 10 * n + 20 < recursionLimit ∧ A.units + 100 * n + 200 < cLine
theorem Room.down {n : Nat} {A : Around} (h : Room (n + 1) A) : Room n A := ⟨h.1, by have := h.2.1; omega, by have := h.2.2; omega⟩
theorem Room.deeper {n : Nat} {A : Around} (h : Room (n + 1) A) (env : Env) : Room n (A.deeper env) := by
  refine ⟨h.1, ?_, ?_⟩
  · have := h.2.1; show A.depth + 1 + 10 * n + 20 < _; omega
  · have := h.2.2; show A.units + 3 + 100 * n + 200 < _; omega

structure EnvIs (env : Env) (sc : Scope) : Prop where
  kind : sc.kind = .function
  sc : env.scope = sc
  gl : env.globals = mainGlobals
  bl : env.builtins = builtinsNs

def NsObj (o : Obj) (mm : Str → Option Value) : Prop := ∃ es ep, o.data = .dict es ep ∧ StrKeys es ∧ ∀ name, nsFind es name = mm name
theorem NsObj.ns {o : Obj} {mm : Str → Option Value} {h : Heap} {a : Addr} (x : NsObj o mm) (e : h.get? a = some o) : h.Ns a mm := by
  obtain ⟨es, ep, h1, h2⟩ := x; exact ⟨o, es, ep, e, h1, h2⟩
theorem NsObj.of {mm : Str → Option Value} {h : Heap} {a : Addr} (x : h.Ns a mm) : ∃ o, h.get? a = some o ∧ NsObj o mm := by
  obtain ⟨o, es, ep, e, h1, h2⟩ := x; exact ⟨o, e, es, ep, h1, h2⟩

structure Loc (P : Pr) (env : Env) (m : Locs) (as : List Addr) : Prop where
  loc : ∃ oL mm, P env.locals oL ∧ NsObj oL mm ∧ ∀ x av, m.lookup x = some av → env.scope.names.lookup x = some .local → ∃ v, VRel as v av ∧ mm x = some v
  cel : ∀ x av, m.lookup x = some av → (env.scope.names.lookup x = some .cell ∨ env.scope.names.lookup x = some .free) →
    ∃ v c o, VRel as v av ∧ env.cells.lookup x = some c ∧ P c o ∧ o.data = .cell (some v)
theorem Loc.ext {P : Pr} {env : Env} {m : Locs} {as as' : List Addr} (x : Loc P env m as) (e : Ext as as') : Loc P env m as' := by
  refine ⟨?_, fun y av h1 h2 => ?_⟩
  · obtain ⟨oL, mm, h1, h2, h3⟩ := x.loc
    exact ⟨oL, mm, h1, h2, fun y av a b => let ⟨v, p, q⟩ := h3 y av a b; ⟨v, p.ext e, q⟩⟩
  · obtain ⟨v, c, o, p, q⟩ := x.cel y av h1 h2; exact ⟨v, c, o, p.ext e, q⟩
theorem Loc.up {P P' : Pr} {env : Env} {m : Locs} {as : List Addr} (x : Loc P env m as) (hp : ∀ a o, P a o → P' a o) : Loc P' env m as := by
  refine ⟨?_, fun y av h1 h2 => ?_⟩
  · obtain ⟨oL, mm, h1, h2, h3⟩ := x.loc
    exact ⟨oL, mm, hp _ _ h1, h2, h3⟩
  · obtain ⟨v, c, o, p, q, r, t⟩ := x.cel y av h1 h2; exact ⟨v, c, o, p, q, hp _ _ r, t⟩

/-- a run that hands back a value -/
def Run (W : Wd) (P : Pr) (A : Around) (as : List Addr) (s : Shared) (t : Sem Value) (Q : AV → AH → Prop) : Prop :=
  ∀ (Qc : Value → Shared → Prop) (E : Value → Shared → Prop),
    (∀ v av h' tk' as' σ', Ext as as' → VRel as' v av → Rep W P as' σ' h' → Q av σ' → Qc v { s with heap := h', toks := tk' }) →
    wpAny (model W.prog W.w) A t Qc E s
def RunB (W : Wd) (P : Pr) (A : Around) (as : List Addr) (s : Shared) (t : Sem Bool) (Q : Bool → AH → Prop) : Prop :=
  ∀ (Qc : Bool → Shared → Prop) (E : Value → Shared → Prop),
    (∀ b h' tk' as' σ', Ext as as' → Rep W P as' σ' h' → Q b σ' → Qc b { s with heap := h', toks := tk' }) →
    wpAny (model W.prog W.w) A t Qc E s

/-- an expression in a frame -/
def TE (W : Wd) (n : Nat) (sc : Scope) (m : Locs) (e : Expr) (Q : AV → AH → Prop) (σ : AH) : Prop :=
  ∀ (A : Around) (env : Env) (P : Pr) (as : List Addr) (s : Shared), Room n A → EnvIs env sc → W.In P → Loc P env m as → Rep W P as σ s.heap →
    Run W P A as s (eval e env) Q
/-- a test in a frame -/
def TT (W : Wd) (n : Nat) (sc : Scope) (m : Locs) (e : Expr) (Q : Bool → AH → Prop) (σ : AH) : Prop :=
  ∀ (A : Around) (env : Env) (P : Pr) (as : List Addr) (s : Shared), Room n A → EnvIs env sc → W.In P → Loc P env m as → Rep W P as σ s.heap →
    RunB W P A as s (isTrue e env (eval e env)) Q
/-- operations on values -/
def TBin (W : Wd) (n : Nat) (op : Operator) (a b : AV) (Q : AV → AH → Prop) (σ : AH) : Prop :=
  ∀ (A : Around) (P : Pr) (as : List Addr) (s : Shared) (va vb : Value), Room n A → W.In P → VRel as va a → VRel as vb b → Rep W P as σ s.heap → Run W P A as s (binaryOp op va vb) Q
def TCmp (W : Wd) (n : Nat) (op : CmpOp) (a b : AV) (Q : AV → AH → Prop) (σ : AH) : Prop :=
  ∀ (A : Around) (P : Pr) (as : List Addr) (s : Shared) (va vb : Value), Room n A → W.In P → VRel as va a → VRel as vb b → Rep W P as σ s.heap → Run W P A as s (compareOp op va vb) Q
def TUn (W : Wd) (n : Nat) (op : UnaryOp) (a : AV) (Q : AV → AH → Prop) (σ : AH) : Prop :=
  ∀ (A : Around) (P : Pr) (as : List Addr) (s : Shared) (va : Value), Room n A → W.In P → VRel as va a → Rep W P as σ s.heap → Run W P A as s (unaryOp op va) Q
def TTr (W : Wd) (n : Nat) (a : AV) (Q : Bool → AH → Prop) (σ : AH) : Prop :=
  ∀ (A : Around) (P : Pr) (as : List Addr) (s : Shared) (va : Value), Room n A → W.In P → VRel as va a → Rep W P as σ s.heap → RunB W P A as s (truthy va) Q
/-- a call of a value -/
def TCall (W : Wd) (n : Nat) (f : AV) (args : List AV) (Q : AV → AH → Prop) (σ : AH) : Prop :=
  ∀ (A : Around) (P : Pr) (as : List Addr) (s : Shared) (fv : Value) (vals : List Value), Room n A → W.In P → VRel as fv f → VsRel as vals args → Rep W P as σ s.heap → Run W P A as s (call fv vals) Q

section
variable {W : Wd} {n : Nat} {sc : Scope} {m : Locs} {σ : AH} {Q : AV → AH → Prop} {pos : Pos}

theorem TE.mono {e : Expr} {Q' : AV → AH → Prop} (h : TE W n sc m e Q σ) (hq : ∀ v σ, Q v σ → Q' v σ) : TE W n sc m e Q' σ :=
  fun A env P as s r e i l R Qc E k => h A env P as s r e i l R Qc E fun v av h' tk' as' σ' x y z q => k v av h' tk' as' σ' x y z (hq _ _ q)
theorem TT.mono {e : Expr} {Q Q' : Bool → AH → Prop} (h : TT W n sc m e Q σ) (hq : ∀ v σ, Q v σ → Q' v σ) : TT W n sc m e Q' σ :=
  fun A env P as s r e i l R Qc E k => h A env P as s r e i l R Qc E fun b h' tk' as' σ' x z q => k b h' tk' as' σ' x z (hq _ _ q)

theorem te_int {i : Int} {k : Nat} (h : Q (.int i) σ) : TE W n sc m (.Constant (.int i) k pos) Q σ :=
  fun _ _ _ as s _ _ _ _ R _ _ c => wpAny_Constant_int (c _ (.int i) s.heap _ as σ (Ext.refl _) ⟨_, rfl⟩ R h)
theorem te_bool {b : Bool} {k : Nat} (h : Q (.bool b) σ) : TE W n sc m (.Constant (.bool b) k pos) Q σ :=
  fun _ _ _ as s _ _ _ _ R _ _ c => wpAny_Constant_bool (c _ (.bool b) s.heap s.toks as σ (Ext.refl _) rfl R h)
theorem te_none {k : Nat} (h : Q .none σ) : TE W n sc m (.Constant .none k pos) Q σ :=
  fun _ _ _ as s _ _ _ _ R _ _ c => wpAny_Constant_none (c _ .none s.heap s.toks as σ (Ext.refl _) rfl R h)
theorem te_str {x : Str} {k : Nat} (h : Q (.str x) σ) : TE W n sc m (.Constant (.str x) k pos) Q σ :=
  fun _ _ _ as s _ _ _ _ R _ _ c => wpAny_Constant_str (c _ (.str x) s.heap _ as σ (Ext.refl _) ⟨_, rfl⟩ R h)

def nameOk (sc : Scope) (x : Str) : Bool := match sc.names.lookup x with
  | some .local | some .cell => !(x == ("__debug__" : Str))
  | some .free => !(x == ("__debug__" : Str)) && !(x == ("__classdict__" : Str))
  | _ => false
theorem te_name {x : Str} {av : AV} (hm : m.lookup x = some av) (hk : nameOk sc x = true) (h : Q av σ) : TE W n sc m (.Name x pos) Q σ := by
  intro A env P as s _ he _ hl R Qc E c
  have fin : ∀ v, VRel as v av → Qc v s := fun v hv => c v av s.heap s.toks as σ (Ext.refl _) hv R h
  unfold nameOk at hk
  have hsc : env.scope.kind = .function := by rw [he.sc]; exact he.kind
  split at hk
  · rename_i hn
    obtain ⟨oL, mm, h1, h2, h3⟩ := hl.loc
    obtain ⟨v, hv, hmm⟩ := h3 x av hm (by rw [he.sc]; exact hn)
    exact wpAny_Name (wpAny_loadName_local hsc (by unfold Env.kindOf; rw [he.sc]; exact hn) (h2.ns (R.keep _ _ h1)) hmm (fin v hv)) (by simpa using hk)
  · rename_i hn
    obtain ⟨v, cc, o, hv, h1, h2, h3⟩ := hl.cel x av hm (.inl (by rw [he.sc]; exact hn))
    exact wpAny_Name (wpAny_loadName_cell hsc (by unfold Env.kindOf; rw [he.sc]; exact hn) h1 ⟨o, R.keep _ _ h2, h3⟩ (fin v hv)) (by simpa using hk)
  · rename_i hn
    obtain ⟨v, cc, o, hv, h1, h2, h3⟩ := hl.cel x av hm (.inr (by rw [he.sc]; exact hn))
    rw [Bool.and_eq_true] at hk
    exact wpAny_Name (wpAny_loadName_free hsc (by unfold Env.kindOf; rw [he.sc]; exact hn) h1 ⟨o, R.keep _ _ h2, h3⟩ (fin v hv) (by simpa using hk.2)) (by simpa using hk.1)
  · cases hk
def globOk (sc : Scope) (x : Str) : Bool := match sc.names.lookup x with
  | some .globalImplicit => !(x == ("__debug__" : Str))
  | _ => false
theorem te_glob {x : Str} {v : Value} (hm : W.mg x = some v) (hk : globOk sc x = true) (h : Q (.stat v) σ) : TE W n sc m (.Name x pos) Q σ := by
  intro A env P as s _ he hi _ R Qc E c
  unfold globOk at hk
  split at hk
  · rename_i hn
    refine Calls.Name_function_global (by rw [he.sc]; exact he.kind) (by unfold Env.kindOf; rw [he.sc]; exact hn) ?_ (by simpa using hk)
    refine Calls.loadGlobal_global (mg := W.mg) ?_ hm (c v (.stat v) s.heap s.toks as σ (Ext.refl _) rfl R h)
    rw [he.gl]; exact W.gl.keeps fun b o q => R.keep b o (hi b o q)
  · cases hk
theorem te_builtin {x : Str} {v : Value} (hm : W.mg x = none) (hb : bootBuiltins x = some v) (hn : x ≠ "__name__") (hk : globOk sc x = true) (h : Q (.stat v) σ) : TE W n sc m (.Name x pos) Q σ := by
  intro A env P as s _ he hi _ R Qc E c
  unfold globOk at hk
  split at hk
  · rename_i hn'
    refine Calls.Name_function_global (by rw [he.sc]; exact he.kind) (by unfold Env.kindOf; rw [he.sc]; exact hn') ?_ (by simpa using hk)
    refine Calls.loadGlobal_builtin (mg := W.mg) (mb := W.mb) ?_ hm ?_ ((W.bt x hn).trans hb) (c v (.stat v) s.heap s.toks as σ (Ext.refl _) rfl R h)
    · rw [he.gl]; exact W.gl.keeps fun b o q => R.keep b o (hi b o q)
    · rw [he.bl]; exact W.bl.keeps fun b o q => R.keep b o (hi b o q)
  · cases hk

theorem te_binop {l r : Expr} {op : Operator} (h : TE W n sc m l (fun a σ₁ => TE W n sc m r (fun b σ₂ => TBin W n op a b Q σ₂) σ₁) σ) : TE W n sc m (.BinOp l op r pos) Q σ := by
  intro A env P as s hr he hi hl R Qc E c
  refine wpAny_BinOp (h A env P as s hr he hi hl R _ E fun va a h₁ tk₁ as₁ σ₁ x₁ r₁ R₁ q₁ => ?_)
  refine q₁ A env P as₁ _ hr he hi (hl.ext x₁) R₁ _ E fun vb b h₂ tk₂ as₂ σ₂ x₂ r₂ R₂ q₂ => ?_
  refine q₂ A P as₂ _ va vb hr hi (r₁.ext x₂) r₂ R₂ _ E fun v av h₃ tk₃ as₃ σ₃ x₃ r₃ R₃ q₃ => ?_
  exact c v av h₃ tk₃ as₃ σ₃ ((x₁.trans x₂).trans x₃) r₃ R₃ q₃
theorem te_cmp {l r : Expr} {op : CmpOp} (hm : behindInMarks op r = false) (h : TE W n sc m l (fun a σ₁ => TE W n sc m r (fun b σ₂ => TCmp W n op a b Q σ₂) σ₁) σ) : TE W n sc m (.Compare l [op] [r] pos) Q σ := by
  intro A env P as s hr he hi hl R Qc E c
  refine wpAny_Compare1 (h A env P as s hr he hi hl R _ E fun va a h₁ tk₁ as₁ σ₁ x₁ r₁ R₁ q₁ => ?_) hm
  refine q₁ A env P as₁ _ hr he hi (hl.ext x₁) R₁ _ E fun vb b h₂ tk₂ as₂ σ₂ x₂ r₂ R₂ q₂ => ?_
  refine q₂ A P as₂ _ va vb hr hi (r₁.ext x₂) r₂ R₂ _ E fun v av h₃ tk₃ as₃ σ₃ x₃ r₃ R₃ q₃ => ?_
  exact c v av h₃ tk₃ as₃ σ₃ ((x₁.trans x₂).trans x₃) r₃ R₃ q₃
theorem te_un {l : Expr} {op : UnaryOp} (h : TE W n sc m l (fun a σ₁ => TUn W n op a Q σ₁) σ) : TE W n sc m (.UnaryOp op l pos) Q σ := by
  intro A env P as s hr he hi hl R Qc E c
  refine wpAny_UnaryOp (h A env P as s hr he hi hl R _ E fun va a h₁ tk₁ as₁ σ₁ x₁ r₁ R₁ q₁ => ?_)
  exact q₁ A P as₁ _ va hr hi r₁ R₁ _ E fun v av h₃ tk₃ as₃ σ₃ x₃ r₃ R₃ q₃ => c v av h₃ tk₃ as₃ σ₃ (x₁.trans x₃) r₃ R₃ q₃
theorem te_and {x y : Expr} (h : TE W n sc m x (fun a σ₁ => TTr W n a (fun t σ₂ => if t then TE W n sc m y Q σ₂ else Q a σ₂) σ₁) σ) : TE W n sc m (.BoolOp .And [x, y] pos) Q σ := by
  intro A env P as s hr he hi hl R Qc E c
  refine wpAny_And2 (h A env P as s hr he hi hl R _ E fun va a h₁ tk₁ as₁ σ₁ x₁ r₁ R₁ q₁ => ?_)
  refine q₁ A P as₁ _ va hr hi r₁ R₁ _ E fun b h₂ tk₂ as₂ σ₂ x₂ R₂ q₂ => ?_
  cases b with
  | true => exact q₂ A env P as₂ _ hr he hi (hl.ext (x₁.trans x₂)) R₂ _ E fun v av h₃ tk₃ as₃ σ₃ x₃ r₃ R₃ q₃ => c v av h₃ tk₃ as₃ σ₃ ((x₁.trans x₂).trans x₃) r₃ R₃ q₃
  | false => exact c va a h₂ tk₂ as₂ σ₂ (x₁.trans x₂) (r₁.ext x₂) R₂ q₂
theorem te_or {x y : Expr} (h : TE W n sc m x (fun a σ₁ => TTr W n a (fun t σ₂ => if t then Q a σ₂ else TE W n sc m y Q σ₂) σ₁) σ) : TE W n sc m (.BoolOp .Or [x, y] pos) Q σ := by
  intro A env P as s hr he hi hl R Qc E c
  refine wpAny_Or2 (h A env P as s hr he hi hl R _ E fun va a h₁ tk₁ as₁ σ₁ x₁ r₁ R₁ q₁ => ?_)
  refine q₁ A P as₁ _ va hr hi r₁ R₁ _ E fun b h₂ tk₂ as₂ σ₂ x₂ R₂ q₂ => ?_
  cases b with
  | false => exact q₂ A env P as₂ _ hr he hi (hl.ext (x₁.trans x₂)) R₂ _ E fun v av h₃ tk₃ as₃ σ₃ x₃ r₃ R₃ q₃ => c v av h₃ tk₃ as₃ σ₃ ((x₁.trans x₂).trans x₃) r₃ R₃ q₃
  | true => exact c va a h₂ tk₂ as₂ σ₂ (x₁.trans x₂) (r₁.ext x₂) R₂ q₂
/-- a longer row of 'and' is the shorter one behind its first -/
theorem te_and3 {x y z : Expr} (h : TE W n sc m x (fun a σ₁ => TTr W n a (fun t σ₂ => if t then TE W n sc m (.BoolOp .And [y, z] pos) Q σ₂ else Q a σ₂) σ₁) σ) : TE W n sc m (.BoolOp .And [x, y, z] pos) Q σ := by
  intro A env P as s hr he hi hl R Qc E c
  show wpAny _ A (do
    let v ← eval x env
    standAt pos
    let t ← holding [v] (truthy v)
    match BoolOp.And, t with
    | .And, false | .Or, true => pure v
    | _, _ => boolOp pos .And [eval y env, eval z env]) Qc E s
  refine wpAny_bind (h A env P as s hr he hi hl R _ E fun va a h₁ tk₁ as₁ σ₁ x₁ r₁ R₁ q₁ => ?_)
  refine wpAny_bind (wpAny_standAt (wpAny_bind (wpAny_holding ?_)))
  refine q₁ A P as₁ _ va hr hi r₁ R₁ _ E fun b h₂ tk₂ as₂ σ₂ x₂ R₂ q₂ => ?_
  cases b with
  | true => exact q₂ A env P as₂ _ hr he hi (hl.ext (x₁.trans x₂)) R₂ _ E fun v av h₃ tk₃ as₃ σ₃ x₃ r₃ R₃ q₃ => c v av h₃ tk₃ as₃ σ₃ ((x₁.trans x₂).trans x₃) r₃ R₃ q₃
  | false => exact wpAny_pure (c va a h₂ tk₂ as₂ σ₂ (x₁.trans x₂) (r₁.ext x₂) R₂ q₂)

/-! tests -/
variable {QB : Bool → AH → Prop}
theorem tt_cmp {l r : Expr} {op : CmpOp} (hm : behindInMarks op r = false) (h : TE W n sc m l (fun a σ₁ => TE W n sc m r (fun b σ₂ => TCmp W n op a b (fun v σ₃ => TTr W n v QB σ₃) σ₂) σ₁) σ) : TT W n sc m (.Compare l [op] [r] pos) QB σ := by
  intro A env P as s hr he hi hl R Qc E c
  refine wpAny_isTrue_Compare1 (h A env P as s hr he hi hl R _ E fun va a h₁ tk₁ as₁ σ₁ x₁ r₁ R₁ q₁ => ?_) hm
  refine q₁ A env P as₁ _ hr he hi (hl.ext x₁) R₁ _ E fun vb b h₂ tk₂ as₂ σ₂ x₂ r₂ R₂ q₂ => ?_
  refine q₂ A P as₂ _ va vb hr hi (r₁.ext x₂) r₂ R₂ _ E fun v av h₃ tk₃ as₃ σ₃ x₃ r₃ R₃ q₃ => ?_
  exact q₃ A P as₃ _ v hr hi r₃ R₃ _ E fun b h₄ tk₄ as₄ σ₄ x₄ R₄ q₄ => c b h₄ tk₄ as₄ σ₄ (((x₁.trans x₂).trans x₃).trans x₄) R₄ q₄
theorem tt_not {x : Expr} (h : TT W n sc m x (fun b σ₁ => QB (!b) σ₁) σ) : TT W n sc m (.UnaryOp .Not x pos) QB σ := by
  intro A env P as s hr he hi hl R Qc E c
  exact wpAny_isTrue_Not (h A env P as s hr he hi hl R _ E fun b h₁ tk₁ as₁ σ₁ x₁ R₁ q₁ => c _ h₁ tk₁ as₁ σ₁ x₁ R₁ q₁)
/-- the rest of a row of tests -/
def TAll (W : Wd) (n : Nat) (sc : Scope) (m : Locs) (op : BoolOp) (es : List Expr) (QB : Bool → AH → Prop) (σ : AH) : Prop :=
  ∀ (A : Around) (env : Env) (P : Pr) (as : List Addr) (s : Shared), Room n A → EnvIs env sc → W.In P → Loc P env m as → Rep W P as σ s.heap →
    RunB W P A as s (allTrue op es env) QB
theorem tt_bool {op : BoolOp} {es : List Expr} (h : TAll W n sc m op es QB σ) : TT W n sc m (.BoolOp op es pos) QB σ :=
  fun A env P as s hr he hi hl R Qc E c => wpAny_isTrue_BoolOp (h A env P as s hr he hi hl R Qc E c)
theorem tall_and_nil (h : QB true σ) : TAll W n sc m .And [] QB σ := fun _ _ _ as s _ _ _ _ R _ _ c => wpAny_allTrue_And_nil (c true s.heap s.toks as σ (Ext.refl _) R h)
theorem tall_or_nil (h : QB false σ) : TAll W n sc m .Or [] QB σ := fun _ _ _ as s _ _ _ _ R _ _ c => wpAny_allTrue_Or_nil (c false s.heap s.toks as σ (Ext.refl _) R h)
theorem tall_and {x : Expr} {es : List Expr} (h : TT W n sc m x (fun b σ₁ => if b then TAll W n sc m .And es QB σ₁ else QB false σ₁) σ) : TAll W n sc m .And (x :: es) QB σ := by
  intro A env P as s hr he hi hl R Qc E c
  refine wpAny_allTrue_And_cons (h A env P as s hr he hi hl R _ E fun b h₁ tk₁ as₁ σ₁ x₁ R₁ q₁ => ?_)
  cases b with
  | true => exact q₁ A env P as₁ _ hr he hi (hl.ext x₁) R₁ _ E fun b h₂ tk₂ as₂ σ₂ x₂ R₂ q₂ => c b h₂ tk₂ as₂ σ₂ (x₁.trans x₂) R₂ q₂
  | false => exact c false h₁ tk₁ as₁ σ₁ x₁ R₁ q₁
theorem tall_or {x : Expr} {es : List Expr} (h : TT W n sc m x (fun b σ₁ => if b then QB true σ₁ else TAll W n sc m .Or es QB σ₁) σ) : TAll W n sc m .Or (x :: es) QB σ := by
  intro A env P as s hr he hi hl R Qc E c
  refine wpAny_allTrue_Or_cons (h A env P as s hr he hi hl R _ E fun b h₁ tk₁ as₁ σ₁ x₁ R₁ q₁ => ?_)
  cases b with
  | false => exact q₁ A env P as₁ _ hr he hi (hl.ext x₁) R₁ _ E fun b h₂ tk₂ as₂ σ₂ x₂ R₂ q₂ => c b h₂ tk₂ as₂ σ₂ (x₁.trans x₂) R₂ q₂
  | true => exact c true h₁ tk₁ as₁ σ₁ x₁ R₁ q₁
/-- an expression whose value is looked at -/
def plainTest : Expr → Bool
  | .UnaryOp .Not _ _ => false
  | .BoolOp .. => false
  | .IfExp .. => false
  | .Compare .. => false
  | _ => true
theorem tt_val {e : Expr} (hp : plainTest e = true) (h : TE W n sc m e (fun v σ₁ => TTr W n v QB σ₁) σ) : TT W n sc m e QB σ := by
  intro A env P as s hr he hi hl R Qc E c
  refine wpAny_isTrue_value (h A env P as s hr he hi hl R _ E fun v av h₁ tk₁ as₁ σ₁ x₁ r₁ R₁ q₁ => ?_) ?_
  · exact q₁ A P as₁ _ v hr hi r₁ R₁ _ E fun b h₂ tk₂ as₂ σ₂ x₂ R₂ q₂ => c b h₂ tk₂ as₂ σ₂ (x₁.trans x₂) R₂ q₂
  · cases e <;> first | rfl | (cases hp; done) | skip
    rename_i op x p
    cases op <;> first | rfl | (cases hp; done)
theorem ttr_bool {b : Bool} (h : QB b σ) : TTr W n (.bool b) QB σ := by
  intro A P as s va _ _ hv R Qc E c
  cases hv
  exact wpAny_truthy_bool (c b s.heap s.toks as σ (Ext.refl _) R h)

/-! ints -/
variable {a b : Int}
theorem tbin_of {op : Operator} {a b z : Int} (h : Q (.int z) σ)
    (rule : ∀ (A : Around) (s : Shared) (t u : Tok) (Qc : Value → Shared → Prop) (E : Value → Shared → Prop), Room n A → Qc (.int z s.toks) { s with toks := s.toks + 1 } → wpAny (model W.prog W.w) A (binaryOp op (.int a t) (.int b u)) Qc E s) : TBin W n op (.int a) (.int b) Q σ := by
  intro A P as s va vb hr _ h1 h2 R Qc E c
  obtain ⟨t, rfl⟩ := h1
  obtain ⟨u, rfl⟩ := h2
  exact rule A s t u Qc E hr (c _ (.int z) s.heap _ as σ (Ext.refl _) ⟨_, rfl⟩ R h)
theorem tbin_add (h : Q (.int (a + b)) σ) : TBin W n .Add (.int a) (.int b) Q σ := tbin_of h fun _ _ _ _ _ _ _ q => P.add_int q
theorem tbin_sub (h : Q (.int (a - b)) σ) : TBin W n .Sub (.int a) (.int b) Q σ := tbin_of h fun _ _ _ _ _ _ _ q => P.sub_int q
theorem tbin_mul (hm : IntMulOk a b) (h : Q (.int (a * b)) σ) : TBin W n .Mult (.int a) (.int b) Q σ := tbin_of h fun _ _ _ _ _ _ _ q => P.mul_int q hm
theorem tbin_mod (hb : b ≠ 0) (h : Q (.int (a.fmod b)) σ) : TBin W n .Mod (.int a) (.int b) Q σ := tbin_of h fun _ _ _ _ _ _ _ q => AutoIntOps.mod_1 (by simpa using hb) q
theorem tbin_div (hb : b ≠ 0) (hp : Builtin.divisionGoesByPylong a b = false) (h : Q (.int (a.fdiv b)) σ) : TBin W n .FloorDiv (.int a) (.int b) Q σ := tbin_of h fun _ _ _ _ _ _ _ q => AutoIntOps.floordiv_1 (by simpa using hb) (by simp [hp]) q
theorem tcmp_of {op : CmpOp} {a b : Int} {z : Bool} (h : Q (.bool z) σ)
    (rule : ∀ (A : Around) (s : Shared) (t u : Tok) (Qc : Value → Shared → Prop) (E : Value → Shared → Prop), Qc (.bool z) s → wpAny (model W.prog W.w) A (compareOp op (.int a t) (.int b u)) Qc E s) : TCmp W n op (.int a) (.int b) Q σ := by
  intro A P as s va vb _ _ h1 h2 R Qc E c
  obtain ⟨t, rfl⟩ := h1
  obtain ⟨u, rfl⟩ := h2
  exact rule A s t u Qc E (c _ (.bool z) s.heap s.toks as σ (Ext.refl _) rfl R h)
theorem tcmp_lt (h : Q (.bool (decide (a < b))) σ) : TCmp W n .Lt (.int a) (.int b) Q σ := tcmp_of h fun _ _ _ _ _ _ q => P.lt_int q
theorem tcmp_le (h : Q (.bool (decide (a ≤ b))) σ) : TCmp W n .LtE (.int a) (.int b) Q σ := tcmp_of h fun _ _ _ _ _ _ q => P.le_int q
theorem tcmp_gt (h : Q (.bool (decide (b < a))) σ) : TCmp W n .Gt (.int a) (.int b) Q σ := tcmp_of h fun _ _ _ _ _ _ q => P.gt_int q
theorem tcmp_ge (h : Q (.bool (decide (b ≤ a))) σ) : TCmp W n .GtE (.int a) (.int b) Q σ := tcmp_of h fun _ _ _ _ _ _ q => P.ge_int q
theorem tcmp_eq (h : Q (.bool (a == b)) σ) : TCmp W n .Eq (.int a) (.int b) Q σ := tcmp_of h fun _ _ _ _ _ _ q => P.eq_int q
theorem tcmp_ne (h : Q (.bool (a != b)) σ) : TCmp W n .NotEq (.int a) (.int b) Q σ := tcmp_of h fun _ _ _ _ _ _ q => P.ne_int q
theorem tun_neg (h : Q (.int (-a)) σ) : TUn W n .USub (.int a) Q σ := by
  intro A P as s va _ _ h1 R Qc E c
  obtain ⟨t, rfl⟩ := h1
  exact PySem.P.neg_int (c _ (.int (-a)) s.heap _ as σ (Ext.refl _) ⟨_, rfl⟩ R h)
theorem tun_not {v : AV} (h : TTr W n v (fun b σ₁ => Q (.bool (!b)) σ₁) σ) : TUn W n .Not v Q σ := by
  intro A P as s va hr hi h1 R Qc E c
  exact not_value (h A P as s va hr hi h1 R _ E fun b h₂ tk₂ as₂ σ₂ x₂ R₂ q₂ => c _ (.bool (!b)) h₂ tk₂ as₂ σ₂ x₂ rfl R₂ q₂)
end
end Mine
end
section
namespace Mine
open PySem

def FRel (as : List Addr) (f : Flow) : AF → Prop
  | .next => f = .next
  | .brk => f = .brk
  | .cont => f = .cont
  | .ret v => ∃ x, f = .ret x ∧ VRel as x v
theorem FRel.ext {as as' : List Addr} (x : Ext as as') {f : Flow} {a : AF} (h : FRel as f a) : FRel as' f a := by
  cases a with
  | ret v => obtain ⟨y, h1, h2⟩ := h; exact ⟨y, h1, h2.ext x⟩
  | _ => exact h

/-- the frame's own objects: its names' table, its cells -/
structure Own (env : Env) (own : List Addr) (P O : Pr) : Prop where
  loc : env.locals ∈ own
  cel : ∀ x c, env.cells.lookup x = some c → c ∈ own ∧ c ≠ env.locals ∧ ∃ o v, O c o ∧ o.data = .cell v
  hasC : ∀ x, env.scope.names.lookup x = some .cell → ∃ c, env.cells.lookup x = some c
  inj : ∀ x y c, env.cells.lookup x = some c → env.cells.lookup y = some c → x = y
  dom : ∀ a o, O a o → a ∈ own
  has : ∀ a ∈ own, ∃ o, O a o
  off : ∀ a ∈ own, ∀ o, ¬ P a o
def Pr.put (O : Pr) (a : Addr) (o : Obj) : Pr := fun b x => (b = a ∧ x = o) ∨ (b ≠ a ∧ O b x)

def setL (x : Str) (v : AV) : Locs → Locs
  | [] => [(x, v)]
  | (y, w) :: r => if x == y then (y, v) :: r else (y, w) :: setL x v r
theorem setL_same (x : Str) (v : AV) : ∀ m : Locs, (setL x v m).lookup x = some v
  | [] => by simp [setL]
  | (y, w) :: r => by
    unfold setL
    cases h : x == y with
    | true => simp [List.lookup, h]
    | false => simp [List.lookup, h, setL_same x v r]
theorem setL_other {x y : Str} (v : AV) (hy : y ≠ x) : ∀ m : Locs, (setL x v m).lookup y = m.lookup y
  | [] => by
    have : (y == x) = false := by simpa using hy
    simp [setL, List.lookup, this]
  | (z, w) :: r => by
    unfold setL
    cases h : x == z with
    | true =>
      have hz : x = z := by simpa using h
      subst hz
      have : (y == x) = false := by simpa using hy
      simp [List.lookup, this]
    | false =>
      cases q : y == z with
      | true => simp [List.lookup, q]
      | false => simp [List.lookup, q, setL_other v hy r]

section
variable {W : Wd} {P O : Pr} {as : List Addr} {σ : AH} {h h' : Heap} {env : Env} {own : List Addr}
theorem Rep.ownSet (R : Rep W (P.or O) as σ h) (hi : W.In P) (ow : Own env own P O) {a0 : Addr} {o0 o1 : Obj} (h0 : O a0 o0) (same : Heap.SameBut a0 h h') (e : h'.get? a0 = some o1) : Rep W (P.or (O.put a0 o1)) as σ h' := by
  have hin := ow.dom _ _ h0
  refine ⟨R.len, R.nd, fun b x q => ?_, fun i b bo h1 h2 => ?_⟩
  · rcases q with q | ⟨rfl, rfl⟩ | ⟨q, q'⟩
    · have hb : b ≠ a0 := fun z => ow.off _ hin x (z ▸ q)
      exact (same.2 b hb).trans (R.keep b x (.inl q))
    · exact e
    · exact (same.2 b q).trans (R.keep b x (.inr q'))
  · obtain ⟨o, e1, r1, m1, n1⟩ := R.obj i b bo h1 h2
    have hb : b ≠ a0 := fun z => by
      subst z
      cases hm : bo.isMut with
      | true => exact m1 hm o0 (.inr h0)
      | false => exact ow.off _ hin o (hi _ _ (n1 hm))
    refine ⟨o, (same.2 b hb).trans e1, r1, fun hm o' q => ?_, n1⟩
    rcases q with q | ⟨z, _⟩ | ⟨_, q⟩
    · exact m1 hm o' (.inl q)
    · exact hb z
    · exact m1 hm o' (.inr q)
theorem Own.put (ow : Own env own P O) {a0 : Addr} {o0 o1 : Obj} (h0 : O a0 o0) (hc : ∀ x, env.cells.lookup x = some a0 → ∃ v, o1.data = .cell v) : Own env own P (O.put a0 o1) := by
  refine ⟨ow.loc, fun x c q => ?_, ow.hasC, ow.inj, fun a o q => ?_, fun a q => ?_, ow.off⟩
  · obtain ⟨h1, h2, o, v, h3, h4⟩ := ow.cel x c q
    refine ⟨h1, h2, ?_⟩
    by_cases z : c = a0
    · subst z
      obtain ⟨v', hv⟩ := hc x q
      exact ⟨o1, v', .inl ⟨rfl, rfl⟩, hv⟩
    · exact ⟨o, v, .inr ⟨z, h3⟩, h4⟩
  · rcases q with ⟨rfl, _⟩ | ⟨_, q⟩
    · exact ow.dom _ _ h0
    · exact ow.dom _ _ q
  · by_cases z : a = a0
    · exact ⟨o1, .inl ⟨z, rfl⟩⟩
    · obtain ⟨o, h⟩ := ow.has a q
      exact ⟨o, .inr ⟨z, h⟩⟩
end

def storeOk (sc : Scope) (x : Str) : Bool := match sc.names.lookup x with
  | some .local | some .cell => true
  | _ => false

theorem store_own {W : Wd} {n : Nat} {sc : Scope} {A : Around} {env : Env} {own : List Addr} {P O : Pr} {as : List Addr} {σ : AH} {m : Locs} {s : Shared} {x : Str} {vv : Value} {v : AV} {Qc : Unit → Shared → Prop} {E : Value → Shared → Prop}
    (_hr : Room n A) (he : EnvIs env sc) (hi : W.In P) (ow : Own env own P O) (hl : Loc (P.or O) env m as) (R : Rep W (P.or O) as σ s.heap) (hv : VRel as vv v) (hx : storeOk sc x = true)
    (c : ∀ h' tk' O', Own env own P O' → Loc (P.or O') env (setL x v m) as → Rep W (P.or O') as σ h' → Qc () { s with heap := h', toks := tk' }) : wpAny (model W.prog W.w) A (storeName env x vv) Qc E s := by
  have hsc : env.scope.kind = .function := by rw [he.sc]; exact he.kind
  obtain ⟨oL, mm, p1, p2, p3⟩ := hl.loc
  have pL : O env.locals oL := p1.resolve_left fun q => ow.off _ ow.loc _ q
  unfold storeOk at hx
  split at hx
  · rename_i hn
    have hn' : env.scope.names.lookup x = some .local := by rw [he.sc]; exact hn
    refine wpAny_storeName_local hn' (p2.ns (R.keep _ _ p1)) (fun h' hns hsb => ?_) (by rw [hsc]; rfl)
    obtain ⟨oL', e', ns'⟩ := NsObj.of hns
    refine c h' _ (O.put env.locals oL') (ow.put pL fun y q => absurd rfl (ow.cel y _ q).2.1) ⟨⟨oL', _, .inr (.inl ⟨rfl, rfl⟩), ns', fun y av q1 q2 => ?_⟩, fun y av q1 q2 => ?_⟩ (R.ownSet hi ow pL hsb e')
    · by_cases z : y = x
      · subst z
        rw [setL_same] at q1; cases q1
        exact ⟨vv, hv, by simp⟩
      · rw [setL_other v z] at q1
        obtain ⟨u, h1, h2⟩ := p3 y av q1 q2
        exact ⟨u, h1, by simp [z, h2]⟩
    · have z : y ≠ x := fun z => by subst z; rw [hn'] at q2; rcases q2 with q2 | q2 <;> cases q2
      rw [setL_other v z] at q1
      obtain ⟨u, cc, o, h1, h2, h3, h4⟩ := hl.cel y av q1 q2
      exact ⟨u, cc, o, h1, h2, h3.elim .inl fun q => .inr (.inr ⟨(ow.cel y cc h2).2.1, q⟩), h4⟩
  · rename_i hn
    have hn' : env.scope.names.lookup x = some .cell := by rw [he.sc]; exact hn
    obtain ⟨cc, hc⟩ := ow.hasC x hn'
    · obtain ⟨k1, k2, oc, vc, k3, k4⟩ := ow.cel x cc hc
      refine wpAny_storeName_cell hsc hn' hc ⟨oc, R.keep _ _ (.inr k3), k4⟩ fun h' hcell hsb => ?_
      obtain ⟨oc', e', d'⟩ := hcell
      refine c h' s.toks (O.put cc oc') (ow.put k3 fun y _ => ⟨_, d'⟩) ⟨⟨oL, mm, .inr (.inr ⟨Ne.symm k2, pL⟩), p2, fun y av q1 q2 => ?_⟩, fun y av q1 q2 => ?_⟩ (R.ownSet hi ow k3 hsb e')
      · have z : y ≠ x := fun z => by subst z; rw [hn'] at q2; cases q2
        rw [setL_other v z] at q1
        exact p3 y av q1 q2
      · by_cases z : y = x
        · subst z
          rw [setL_same] at q1; cases q1
          exact ⟨vv, cc, oc', hv, hc, .inr (.inl ⟨rfl, rfl⟩), d'⟩
        · rw [setL_other v z] at q1
          obtain ⟨u, c2, o, h1, h2, h3, h4⟩ := hl.cel y av q1 q2
          have hne : c2 ≠ cc := fun w => z (ow.inj y x cc (w ▸ h2) hc)
          exact ⟨u, c2, o, h1, h2, h3.elim .inl fun q => .inr (.inr ⟨hne, q⟩), h4⟩
  · cases hx
end Mine
end
section
namespace Mine
open PySem

section
variable {W : Wd} {P P₁ P₂ O : Pr} {as : List Addr} {σ : AH} {h h' : Heap}
theorem Rep.move (R : Rep W P₁ as σ h) (hk : ∀ b x, P₂ b x → h'.get? b = some x) (hsub : ∀ b x, b ∈ as → P₂ b x → P₁ b x) (hobj : ∀ b ∈ as, ∀ x, h.get? b = some x → h'.get? b = some x) : Rep W P₂ as σ h' :=
  ⟨R.len, R.nd, hk, fun i b bo h1 h2 => by
    obtain ⟨o, e1, r1, m1, n1⟩ := R.obj i b bo h1 h2
    have hb := List.mem_of_getElem? h1
    exact ⟨o, hobj b hb o e1, r1, fun hm o' q => m1 hm o' (hsub b o' hb q), n1⟩⟩
theorem Rep.off (R : Rep W P as σ h) {a : Addr} {o : Obj} (hp : P a o) (hn : W.H.get? a = none) : a ∉ as := fun q => by
  obtain ⟨i, hi⟩ := List.mem_iff_getElem?.mp q
  have hl : i < as.length := (List.getElem?_eq_some_iff.mp hi).1
  have hs : i < σ.length := R.len ▸ hl
  obtain ⟨x, e1, r1, m1, n1⟩ := R.obj i a σ[i] hi (by simp)
  cases hm : (σ[i] : AO).isMut with
  | true => exact m1 hm o hp
  | false => have := n1 hm; rw [hn] at this; cases this
theorem Rep.fresh (R : Rep W P as σ h) {a : Addr} (e : h.get? a = none) : a ∉ as := fun q => by obtain ⟨o, h1⟩ := R.lt q; rw [e] at h1; cases h1
theorem Wd.In.or {P O : Pr} (hi : W.In P) : W.In (P.or O) := fun a o q => .inl (hi a o q)
theorem Wd.In.add {P : Pr} {a : Addr} {o : Obj} (hi : W.In P) : W.In (P.add a o) := fun a o q => .inl (hi a o q)
theorem Wd.In.none {P : Pr} (hi : W.In P) (R : Rep W P as σ h) {a : Addr} (e : h.get? a = none) : W.H.get? a = none := by
  cases q : W.H.get? a with
  | none => rfl
  | some o => have := R.keep _ _ (hi _ _ q); rw [e] at this; cases this
theorem get?_size_none (h : Heap) : h.get? h.objs.size = none := by
  cases q : h.get? h.objs.size with
  | none => rfl
  | some o => exact absurd (Heap.lt_size q) (Nat.lt_irrefl _)
end

def TX (W : Wd) (n : Nat) (sc : Scope) (t : Env → Sem Flow) (Q : AF → Locs → AH → Prop) (m : Locs) (σ : AH) : Prop :=
  ∀ (A : Around) (env : Env) (own : List Addr) (P O : Pr) (as : List Addr) (s : Shared), Room n A → EnvIs env sc → W.In P → Own env own P O → Loc (P.or O) env m as → Rep W (P.or O) as σ s.heap →
    ∀ (Qc : Flow → Shared → Prop) (E : Value → Shared → Prop),
      (∀ f af h' tk' as' σ' m' O', Ext as as' → FRel as' f af → Own env own P O' → Loc (P.or O') env m' as' → Rep W (P.or O') as' σ' h' → Q af m' σ' → Qc f { s with heap := h', toks := tk' }) →
      wpAny (model W.prog W.w) A (t env) Qc E s
abbrev TSs (W : Wd) (n : Nat) (sc : Scope) (ss : List Stmt) := TX W n sc (execs ss)
abbrev TS (W : Wd) (n : Nat) (sc : Scope) (st : Stmt) := TX W n sc (exec st)
/-- a store into a target -/
def TA (W : Wd) (n : Nat) (sc : Scope) (t : Expr) (v : AV) (Q : Locs → AH → Prop) (m : Locs) (σ : AH) : Prop :=
  ∀ (A : Around) (env : Env) (own : List Addr) (P O : Pr) (as : List Addr) (s : Shared) (vv : Value), Room n A → EnvIs env sc → W.In P → Own env own P O → Loc (P.or O) env m as → Rep W (P.or O) as σ s.heap → VRel as vv v →
    ∀ (Qc : Unit → Shared → Prop) (E : Value → Shared → Prop),
      (∀ h' tk' as' σ' m' O', Ext as as' → Own env own P O' → Loc (P.or O') env m' as' → Rep W (P.or O') as' σ' h' → Q m' σ' → Qc () { s with heap := h', toks := tk' }) →
      wpAny (model W.prog W.w) A (assign t env vv) Qc E s

section
variable {W : Wd} {n : Nat} {sc : Scope} {m : Locs} {σ : AH} {Q : AF → Locs → AH → Prop} {pos : Pos}

theorem TX.mono {t : Env → Sem Flow} {Q' : AF → Locs → AH → Prop} (h : TX W n sc t Q m σ) (hq : ∀ f m σ, Q f m σ → Q' f m σ) : TX W n sc t Q' m σ :=
  fun A env own P O as s r e i o l R Qc E k => h A env own P O as s r e i o l R Qc E fun f af h' tk' as' σ' m' O' x1 x2 x3 x4 x5 q => k f af h' tk' as' σ' m' O' x1 x2 x3 x4 x5 (hq _ _ _ q)
theorem ts_nil (h : Q .next m σ) : TSs W n sc [] Q m σ :=
  fun _ _ _ _ O as s _ _ _ ow hl R _ _ c => wpAny_execs_nil (c .next .next s.heap s.toks as σ m O (Ext.refl _) rfl ow hl R h)
/-- what follows a statement -/
abbrev thenQ (W : Wd) (n : Nat) (sc : Scope) (rest : List Stmt) (Q : AF → Locs → AH → Prop) : AF → Locs → AH → Prop
  | .next => TSs W n sc rest Q
  | f => Q f
theorem ts_cons {st : Stmt} {rest : List Stmt} (h : TS W n sc st (thenQ W n sc rest Q) m σ) : TSs W n sc (st :: rest) Q m σ := by
  intro A env own P O as s hr he hi ow hl R Qc E c
  refine wpAny_execs_cons (h A env own P O as s hr he hi ow hl R _ E fun f af h₁ tk₁ as₁ σ₁ m₁ O₁ x₁ f₁ ow₁ l₁ R₁ q₁ => ?_)
  cases af with
  | next =>
    cases f₁
    exact q₁ A env own P O₁ as₁ _ hr he hi ow₁ l₁ R₁ _ E fun f af h₂ tk₂ as₂ σ₂ m₂ O₂ x₂ f₂ ow₂ l₂ R₂ q₂ => c f af h₂ tk₂ as₂ σ₂ m₂ O₂ (x₁.trans x₂) f₂ ow₂ l₂ R₂ q₂
  | brk => cases f₁; exact c _ .brk h₁ tk₁ as₁ σ₁ m₁ O₁ x₁ rfl ow₁ l₁ R₁ q₁
  | cont => cases f₁; exact c _ .cont h₁ tk₁ as₁ σ₁ m₁ O₁ x₁ rfl ow₁ l₁ R₁ q₁
  | ret v =>
    obtain ⟨x, rfl, hv⟩ := f₁
    exact c _ (.ret v) h₁ tk₁ as₁ σ₁ m₁ O₁ x₁ ⟨x, rfl, hv⟩ ow₁ l₁ R₁ q₁
theorem ts_pass (h : Q .next m σ) : TS W n sc (.Pass pos) Q m σ :=
  fun _ _ _ _ O as s _ _ _ ow hl R _ _ c => wpAny_Pass (c .next .next s.heap s.toks as σ m O (Ext.refl _) rfl ow hl R h)
theorem ts_break (h : Q .brk m σ) : TS W n sc (.Break pos) Q m σ :=
  fun _ _ _ _ O as s _ _ _ ow hl R _ _ c => wpAny_Break (c .brk .brk s.heap s.toks as σ m O (Ext.refl _) rfl ow hl R h)
theorem ts_continue (h : Q .cont m σ) : TS W n sc (.Continue pos) Q m σ :=
  fun _ _ _ _ O as s _ _ _ ow hl R _ _ c => wpAny_Continue (c .cont .cont s.heap s.toks as σ m O (Ext.refl _) rfl ow hl R h)
theorem ts_return {e : Expr} (h : TE W n sc m e (fun v σ₁ => Q (.ret v) m σ₁) σ) : TS W n sc (.Return (some e) pos) Q m σ := by
  intro A env own P O as s hr he hi ow hl R Qc E c
  refine wpAny_Return_some (h A env (P.or O) as s hr he hi.or hl R _ E fun v av h₁ tk₁ as₁ σ₁ x₁ r₁ R₁ q₁ => ?_)
  exact c _ (.ret av) h₁ tk₁ as₁ σ₁ m O x₁ ⟨v, rfl, r₁⟩ ow (hl.ext x₁) R₁ q₁
theorem ts_return_none (h : Q (.ret .none) m σ) : TS W n sc (.Return none pos) Q m σ :=
  fun _ _ _ _ O as s _ _ _ ow hl R _ _ c => wpAny_Return_none (c _ (.ret .none) s.heap s.toks as σ m O (Ext.refl _) ⟨_, rfl, rfl⟩ ow hl R h)
theorem ts_if {test : Expr} {body orelse : List Stmt} (h : TT W n sc m test (fun b σ₁ => if b then TSs W n sc body Q m σ₁ else TSs W n sc orelse Q m σ₁) σ) : TS W n sc (.If test body orelse pos) Q m σ := by
  intro A env own P O as s hr he hi ow hl R Qc E c
  refine wpAny_If (h A env (P.or O) as s hr he hi.or hl R _ E fun b h₁ tk₁ as₁ σ₁ x₁ R₁ q₁ => ?_)
  cases b with
  | true => exact q₁ A env own P O as₁ _ hr he hi ow (hl.ext x₁) R₁ _ E fun f af h₂ tk₂ as₂ σ₂ m₂ O₂ x₂ f₂ ow₂ l₂ R₂ q₂ => c f af h₂ tk₂ as₂ σ₂ m₂ O₂ (x₁.trans x₂) f₂ ow₂ l₂ R₂ q₂
  | false => exact q₁ A env own P O as₁ _ hr he hi ow (hl.ext x₁) R₁ _ E fun f af h₂ tk₂ as₂ σ₂ m₂ O₂ x₂ f₂ ow₂ l₂ R₂ q₂ => c f af h₂ tk₂ as₂ σ₂ m₂ O₂ (x₁.trans x₂) f₂ ow₂ l₂ R₂ q₂
def notComp : Expr → Bool
  | .ListComp .. | .SetComp .. | .DictComp .. => false
  | _ => true
theorem swaps_not {e : Expr} (h : notComp e = true) (t : Option Expr) (l : Nat) (env : Env) : swapsWith e t l env = pure false := by
  cases e <;> first | rfl | (cases h; done)
/-- a value that is dropped -/
abbrev dropQ (Q : AF → Locs → AH → Prop) (m : Locs) : AV → AH → Prop
  | .none, σ | .bool _, σ | .int _, σ | .str _, σ => Q .next m σ
  | _, _ => False
theorem ts_expr {e : Expr} (hs : notComp e = true) (h : TE W n sc m e (dropQ Q m) σ) : TS W n sc (.Expr e pos) Q m σ := by
  intro A env own P O as s hr he hi ow hl R Qc E c
  refine wpAny_Expr (h A env (P.or O) as s hr he hi.or hl R _ E fun v av h₁ tk₁ as₁ σ₁ x₁ r₁ R₁ q₁ => ?_) ?_ (swaps_not hs ..)
  · have fin : Q .next m σ₁ → Qc .next { s with heap := h₁, toks := tk₁ } := fun q => c .next .next h₁ tk₁ as₁ σ₁ m O x₁ rfl ow (hl.ext x₁) R₁ q
    cases av with
    | none => cases r₁; exact fin q₁
    | bool b => cases r₁; exact fin q₁
    | int i => obtain ⟨t, rfl⟩ := r₁; exact fin q₁
    | str x => obtain ⟨t, rfl⟩ := r₁; exact fin q₁
    | ref i => exact q₁.elim
    | stat u => exact q₁.elim
  · unfold interactive; rw [he.sc, he.kind]; rfl

/-! stores -/
theorem ta_name {x : Str} {v : AV} {QA : Locs → AH → Prop} (hx : storeOk sc x = true) (h : QA (setL x v m) σ) : TA W n sc (.Name x pos) v QA m σ := by
  intro A env own P O as s vv hr he hi ow hl R hv Qc E c
  exact wpAny_assign_Name (store_own hr he hi ow hl R hv hx fun h' tk' O' ow' l' R' => c h' tk' as σ _ O' (Ext.refl _) ow' l' R' h)
theorem ts_assign_name {x : Str} {px : Pos} {e : Expr} (hs : notComp e = true) (hx : storeOk sc x = true) (h : TE W n sc m e (fun v σ₁ => Q .next (setL x v m) σ₁) σ) : TS W n sc (.Assign [.Name x px] e pos) Q m σ := by
  intro A env own P O as s hr he hi ow hl R Qc E c
  refine wpAny_Assign_Name (h A env (P.or O) as s hr he hi.or hl R _ E fun v av h₁ tk₁ as₁ σ₁ x₁ r₁ R₁ q₁ => ?_) (swaps_not hs ..)
  exact store_own hr he hi ow (hl.ext x₁) R₁ r₁ hx fun h' tk' O' ow' l' R' => c .next .next h' tk' as₁ σ₁ _ O' x₁ rfl ow' l' R' q₁

/-! loops -/
abbrev loopQ (J : Locs → AH → Prop) (Q : AF → Locs → AH → Prop) : AF → Locs → AH → Prop
  | .next => J
  | .cont => J
  | .brk => Q .next
  | .ret v => Q (.ret v)
def notSet : Expr → Bool
  | .Set .. => false
  | _ => true
theorem folded_not {e : Expr} (h : notSet e = true) (env : Env) (x : Value) : foldedSetIterable e env x = pure x := by
  cases e <;> first | rfl | (cases h; done)

/-- what the loop's next turn or its end finds -/
structure Turns (W : Wd) (A : Around) (as₀ : List Addr) (I : Addr) (St : Nat → Obj → Prop) (len : Nat) (It : Nat → AV) (J : Nat → AH → Prop) : Prop where
  item : ∀ i P as σ (s : Shared) o (Qc : Option Value → Shared → Prop) (E : Value → Shared → Prop), i < len → W.In P → Ext as₀ as → Rep W P as σ s.heap → J i σ → P I o → St i o →
    (∀ v h' tk' o', VRel as v (It i) → St (i + 1) o' → Heap.SameBut I s.heap h' → h'.get? I = some o' → Qc (some v) { s with heap := h', toks := tk' }) → wpAny (model W.prog W.w) A (pyNext (.ref I)) Qc E s
  done : ∀ P as σ (s : Shared) o (Qc : Option Value → Shared → Prop) (E : Value → Shared → Prop), W.In P → Ext as₀ as → Rep W P as σ s.heap → J len σ → P I o → St len o →
    (∀ h' tk', Heap.ExtBut I s.heap h' → Qc none { s with heap := h', toks := tk' }) → wpAny (model W.prog W.w) A (pyNext (.ref I)) Qc E s
  self : ∀ i (s : Shared) o (Qc : Value → Shared → Prop) (E : Value → Shared → Prop), s.heap.get? I = some o → St i o → Qc (.ref I) s → wpAny (model W.prog W.w) A (pyIter (.ref I)) Qc E s
  owned : ∀ i (s : Shared) o v (elts : List Expr) k pos (Qc : Unit → Shared → Prop) (E : Value → Shared → Prop), s.heap.get? I = some o → St i o → Qc () s → wpAny (model W.prog W.w) A (letOwnedTupleGo (.Tuple elts k pos) (.ref I) v) Qc E s

theorem Loc.drop {P O : Pr} {env : Env} {own : List Addr} {m : Locs} {as : List Addr} {I : Addr} {o : Obj} (l : Loc ((P.add I o).or O) env m as) (w : Own env own P O) (nI : I ∉ own) : Loc (P.or O) env m as := by
  refine ⟨?_, fun y av h1 h2 => ?_⟩
  · obtain ⟨oL, mm, h1, h2⟩ := l.loc
    refine ⟨oL, mm, ?_, h2⟩
    rcases h1 with (q | ⟨q, _⟩) | q
    · exact .inl q
    · exact absurd (q ▸ w.loc) nI
    · exact .inr q
  · obtain ⟨v, c, oc, p, q, r, t⟩ := l.cel y av h1 h2
    refine ⟨v, c, oc, p, q, ?_, t⟩
    rcases r with (r | ⟨r, _⟩) | r
    · exact .inl r
    · exact absurd (r ▸ (w.cel y c q).1) nI
    · exact .inr r
theorem nP' {P O O' : Pr} {env : Env} {own : List Addr} {I : Addr} (w : Own env own P O') (nown : I ∉ own) (nP : ∀ o, ¬ (P.or O) I o) (o : Obj) : ¬ (P.or O') I o :=
  fun q => q.elim (fun q => nP o (.inl q)) fun q => nown (w.dom _ _ q)
def plainTarget : Expr → Bool
  | .Name .. => true
  | .Tuple .. => true
  | _ => false
theorem owned_go {target : Expr} {A : Around} {as : List Addr} {I : Addr} {St : Nat → Obj → Prop} {len : Nat} {It : Nat → AV} {J : Nat → AH → Prop} (T : Turns W A as I St len It J) (ht : plainTarget target = true) {i : Nat} {s : Shared} {o : Obj} {v : Value} {Qc : Unit → Shared → Prop} {E : Value → Shared → Prop} (e : s.heap.get? I = some o) (st : St i o) (h : Qc () s) : wpAny (model W.prog W.w) A (letOwnedTupleGo target (.ref I) v) Qc E s := by
  cases target <;> first | (cases ht; done) | exact wpAny_pure h | exact T.owned i _ o v _ _ _ _ _ e st h
theorem for_turns {target : Expr} {body : List Stmt} {A : Around} {env : Env} {own : List Addr} {P O : Pr} {as : List Addr} {s : Shared} {I : Addr} {St : Nat → Obj → Prop} {len : Nat} {It : Nat → AV} {J : Nat → Locs → AH → Prop} {o₀ : Obj}
    {Qc : Flow → Shared → Prop} {E : Value → Shared → Prop}
    (T : Turns W A as I St len It fun i σ => ∃ m', J i m' σ) (ht : plainTarget target = true) (hr : Room n A) (he : EnvIs env sc) (hi : W.In P) (ow : Own env own P O) (hl : Loc (P.or O) env m as) (R : Rep W (P.or O) as σ s.heap)
    (hI : s.heap.get? I = some o₀) (h0 : St 0 o₀) (nI : W.H.get? I = none) (nas : I ∉ as) (nP : ∀ o, ¬ (P.or O) I o) (j0 : J 0 m σ)
    (turn : ∀ i m' σ', i < len → J i m' σ' → TA W n sc target (It i) (fun m₂ σ₂ => TSs W n sc body (loopQ (J (i + 1)) Q) m₂ σ₂) m' σ')
    (fin : ∀ m' σ', J len m' σ' → Q .next m' σ')
    (c : ∀ f af h' tk' as' σ' m' O', Ext as as' → FRel as' f af → Own env own P O' → Loc (P.or O') env m' as' → Rep W (P.or O') as' σ' h' → Q af m' σ' → Qc f { s with heap := h', toks := tk' }) :
    codeAny (model W.prog W.w) A (.forLoop target (.ref I) body [] env) (fun r s' => match r with | .ok f => Qc f s' | .error e => cameBackBy (model W.prog W.w) A env E e s') s := by
  have nown : I ∉ own := fun q => let ⟨o, h⟩ := ow.has I q; nP o (.inr h)
  refine codeAny_forLoop_any (fun k s' => ∃ i h' tk' as' σ' m' O' o', i ≤ len ∧ k = len + 1 - i ∧ s' = { s with heap := h', toks := tk' } ∧ Ext as as' ∧ Own env own P O' ∧ Loc (P.or O') env m' as' ∧ Rep W ((P.add I o').or O') as' σ' h' ∧ J i m' σ' ∧ St i o') ?_ (len + 1)
    ⟨0, s.heap, s.toks, as, σ, m, O, o₀, Nat.zero_le _, rfl, rfl, Ext.refl _, ow, hl, ?_, j0, h0⟩
  · rintro k s' ⟨i, h₁, tk₁, as₁, σ₁, m₁, O₁, o₁, hle, rfl, rfl, x₁, ow₁, l₁, R₁, j₁, st₁⟩
    have pI : ((P.add I o₁).or O₁) I o₁ := .inl (.inr ⟨rfl, rfl⟩)
    have nI₁ : I ∉ as₁ := R₁.off pI nI
    have hi₁ : W.In ((P.add I o₁).or O₁) := hi.add.or
    by_cases hlt : i < len
    · refine T.item i _ as₁ σ₁ _ o₁ _ _ hlt hi₁ x₁ R₁ ⟨m₁, j₁⟩ pI st₁ fun v h₂ tk₂ o₂ hv st₂ sb₂ e₂ => ?_
      have R₂ : Rep W ((P.add I o₂).or O₁) as₁ σ₁ h₂ := by
        refine R₁.move (fun b x q => ?_) (fun b x hb q => ?_) fun b hb x e => (sb₂.2 b fun z => nI₁ (z ▸ hb)).trans e
        · by_cases z : b = I
          · subst z
            rcases q with (q | ⟨_, q⟩) | q
            · exact absurd (.inl q) (nP' ow₁ nown nP x)
            · subst q; exact e₂
            · exact absurd (ow₁.dom _ _ q) nown
          · refine (sb₂.2 b z).trans (R₁.keep b x ?_)
            rcases q with (q | ⟨q, _⟩) | q
            · exact .inl (.inl q)
            · exact absurd q z
            · exact .inr q
        · rcases q with (q | ⟨q, _⟩) | q
          · exact .inl (.inl q)
          · exact absurd (q ▸ hb) nI₁
          · exact .inr q
      have go : ∀ s₃ : Shared, s₃ = { s with heap := h₂, toks := tk₂ } → wpAny (model W.prog W.w) A (assign target env v) (fun _ s₂ => wpAny (model W.prog W.w) A (execs body env) (fun f s₃ => match f with
            | .next | .cont => ∃ m, m < len + 1 - i ∧ (fun k s' => ∃ i h' tk' as' σ' m' O' o', i ≤ len ∧ k = len + 1 - i ∧ s' = { s with heap := h', toks := tk' } ∧ Ext as as' ∧ Own env own P O' ∧ Loc (P.or O') env m' as' ∧ Rep W ((P.add I o').or O') as' σ' h' ∧ J i m' σ' ∧ St i o') m s₃
            | .brk => Qc .next s₃
            | .ret v => Qc (.ret v) s₃) (notedBy (model W.prog W.w) A env fun e s' => cameBackBy (model W.prog W.w) A env E e s') s₂) (notedBy (model W.prog W.w) A env fun e s' => cameBackBy (model W.prog W.w) A env E e s') s₃ := by
        rintro s₃ rfl
        have owP : ∀ O', Own env own P O' → Own env own (P.add I o₂) O' := fun O' w => ⟨w.loc, w.cel, w.hasC, w.inj, w.dom, w.has, fun a ha o q => q.elim (w.off a ha o) fun ⟨z, _⟩ => nown (z ▸ ha)⟩
        have owD : ∀ O', Own env own (P.add I o₂) O' → Own env own P O' := fun O' w => ⟨w.loc, w.cel, w.hasC, w.inj, w.dom, w.has, fun a ha o q => w.off a ha o (.inl q)⟩
        have lD : ∀ O' m' as', Own env own P O' → Loc ((P.add I o₂).or O') env m' as' → Loc (P.or O') env m' as' := fun O' m' as' w l => l.drop w nown
        refine turn i m₁ σ₁ hlt j₁ A env own (P.add I o₂) O₁ as₁ _ v hr he hi.add (owP _ ow₁) (l₁.up fun a o q => q.elim (fun q => .inl (.inl q)) .inr) R₂ hv _ _ fun h₃ tk₃ as₃ σ₃ m₃ O₃ x₃ ow₃ l₃ R₃ q₃ => ?_
        refine q₃ A env own (P.add I o₂) O₃ as₃ _ hr he hi.add ow₃ l₃ R₃ _ _ fun f af h₄ tk₄ as₄ σ₄ m₄ O₄ x₄ f₄ ow₄ l₄ R₄ q₄ => ?_
        have R₄' : Rep W (P.or O₄) as₄ σ₄ h₄ := R₄.weaken fun a o q => q.elim (fun q => .inl (.inl q)) .inr
        have x' := (x₁.trans x₃).trans x₄
        cases af with
        | next => cases f₄; exact ⟨len + 1 - (i + 1), by omega, i + 1, h₄, tk₄, as₄, σ₄, m₄, O₄, o₂, hlt, rfl, rfl, x', owD _ ow₄, lD _ _ _ (owD _ ow₄) l₄, R₄, q₄, st₂⟩
        | cont => cases f₄; exact ⟨len + 1 - (i + 1), by omega, i + 1, h₄, tk₄, as₄, σ₄, m₄, O₄, o₂, hlt, rfl, rfl, x', owD _ ow₄, lD _ _ _ (owD _ ow₄) l₄, R₄, q₄, st₂⟩
        | brk => cases f₄; exact c .next .next h₄ tk₄ as₄ σ₄ m₄ O₄ x' rfl (owD _ ow₄) (lD _ _ _ (owD _ ow₄) l₄) R₄' q₄
        | ret u =>
          obtain ⟨y, rfl, hy⟩ := f₄
          exact c _ (.ret u) h₄ tk₄ as₄ σ₄ m₄ O₄ x' ⟨y, rfl, hy⟩ (owD _ ow₄) (lD _ _ _ (owD _ ow₄) l₄) R₄' q₄
      exact owned_go T ht (s := { s with heap := h₂, toks := tk₂ }) e₂ st₂ (go _ rfl)
    · have hi' : i = len := by omega
      subst hi'
      refine T.done _ as₁ σ₁ _ o₁ _ _ hi₁ x₁ R₁ ⟨m₁, j₁⟩ pI st₁ fun h₂ tk₂ xb => ?_
      refine wpAny_execs_nil (c .next .next h₂ tk₂ as₁ σ₁ m₁ O₁ x₁ rfl ow₁ l₁ ?_ (fin _ _ j₁))
      refine R₁.move (fun b x q => ?_) (fun b x _ q => q.elim (fun q => .inl (.inl q)) .inr) fun b hb x e => xb b x (fun z => nI₁ (z ▸ hb)) e
      have hb : b ≠ I := fun z => by
        subst z
        rcases q with q | q
        · exact nP' ow₁ nown nP x (.inl q)
        · exact nown (ow₁.dom _ _ q)
      exact xb b x hb (R₁.keep b x (q.elim (fun q => .inl (.inl q)) .inr))
  · refine (R.hold nas hI).weaken fun a o q => ?_
    rcases q with (q | q) | q
    · exact .inl (.inl q)
    · exact .inr q
    · exact .inl (.inr q)
end
end Mine
end
section
namespace Mine
open PySem

section
variable {W : Wd} {n : Nat} {sc : Scope} {m : Locs} {σ : AH} {Q : AF → Locs → AH → Prop} {pos : Pos} {A : Around}

theorem isList_of {as : List Addr} {o : Obj} {xs : List AV} {a : Addr} {h : Heap} {P : Params} (e : h.get? a = some o) (r : ORel P as o (.list xs)) : ∃ vs, h.IsList a (List.toArray vs) ∧ VsRel as vs xs := by
  obtain ⟨vs, k, rfl, hv⟩ := r
  exact ⟨vs, ⟨_, e, rfl, k, rfl⟩, hv⟩

theorem Turns.list {as₀ : List Addr} {I al : Addr} {l : Nat} {xs : List AV} {J : Nat → AH → Prop} (hh : A.handled = none) (ha : as₀[l]? = some al) (hJ : ∀ i σ, i ≤ xs.length → J i σ → σ[l]? = some (.list xs)) :
    Turns W A as₀ I (fun i o => o.cls = .type "list_iterator" ∧ o.data = .fields #[.ref al, .int i 0]) xs.length (fun i => (xs[i]?).getD .none) J where
  item := by
    intro i P as σ s o Qc E hlt hi x R j pI st c
    obtain ⟨a, oa, h1, h2, h3⟩ := R.at (hJ i σ (Nat.le_of_lt hlt) j)
    have : a = al := by rw [x.get ha] at h1; exact (Option.some.inj h1).symm
    subst this
    obtain ⟨vs, hL, hv⟩ := isList_of h2 h3
    have hx : xs[i]? = some xs[i] := by simp
    obtain ⟨v, hv1, hv2⟩ := hv.get hx
    refine wpAny_pyNext_list_item ⟨o, R.keep _ _ pI, st.1, st.2⟩ hL (x := v) (by simpa using hv1) fun h' hit sb => ?_
    obtain ⟨o', e', c', d'⟩ := hit
    exact c v h' s.toks o' (by rw [hx]; exact hv2) ⟨c', d'⟩ sb e'
  done := by
    intro P as σ s o Qc E hi x R j pI st c
    obtain ⟨a, oa, h1, h2, h3⟩ := R.at (hJ _ σ (Nat.le_refl _) j)
    have : a = al := by rw [x.get ha] at h1; exact (Option.some.inj h1).symm
    subst this
    obtain ⟨vs, hL, hv⟩ := isList_of h2 h3
    exact wpAny_pyNext_list_end hh ⟨o, R.keep _ _ pI, st.1, st.2⟩ hL (by simp [hv.length]) fun h' xb => c h' s.toks xb
  self := fun _ _ o _ _ e st q => wpAny_pyIter_listiter ⟨o, e, st.1, st.2⟩ q
  owned := by
    intro i s o v elts k pos Qc E e st q
    cases v with
    | ref T => exact wpAny_letOwnedTupleGo_listiter ⟨o, e, st.1, st.2⟩ q
    | _ => exact wpAny_pure q
theorem Turns.range {as₀ : List Addr} {I : Addr} {a c : Int} {len : Nat} {J : Nat → AH → Prop} (hh : A.handled = none) :
    Turns W A as₀ I (fun i o => o = { cls := .type "range_iterator", dict := none, data := .fields #[rawInt (a + i * c), rawInt ((len : Int) - (i : Nat)), rawInt c], slots := #[] }) len (fun i => .int (a + i * c)) J where
  item := by
    intro i P as σ s o Qc E hlt hi x R j pI st k
    subst st
    refine wpAny_pyNext_range_item (R.keep _ _ pI) (by omega) fun h' hit sb => ?_
    refine k _ h' _ _ ⟨_, rfl⟩ ?_ sb hit
    have e1 : a + ((i + 1 : Nat) : Int) * c = a + (i : Nat) * c + c := by rw [Int.natCast_add, Int.add_mul]; omega
    have e2 : (len : Int) - ((i + 1 : Nat) : Int) = (len : Int) - (i : Nat) - 1 := by omega
    rw [e1, e2]
  done := by
    intro P as σ s o Qc E hi x R j pI st k
    subst st
    exact wpAny_pyNext_range_end hh (R.keep _ _ pI) (by omega) fun h' xb => k h' s.toks xb
  self := fun _ _ o _ _ e st q => wpAny_pyIter_rangeiter (by subst st; exact e) q
  owned := by
    intro i s o v elts k pos Qc E e st q
    subst st
    cases v with
    | ref T =>
      refine wpAny_bind (wpAny_load e ?_)
      exact wpAny_pure q
    | _ => exact wpAny_pure q
theorem Turns.long {as₀ : List Addr} {I : Addr} {a c : Int} {len : Nat} {J : Nat → AH → Prop} (hh : A.handled = none) :
    Turns W A as₀ I (fun i o => o = { cls := .type "longrange_iterator", dict := none, data := .fields #[rawInt (a + i * c), rawInt ((len : Int) - (i : Nat)), rawInt c], slots := #[] }) len (fun i => .int (a + i * c)) J where
  item := by
    intro i P as σ s o Qc E hlt hi x R j pI st k
    subst st
    refine wpAny_pyNext_long_item (R.keep _ _ pI) (by omega) fun h' hit sb => ?_
    refine k _ h' _ _ ⟨_, rfl⟩ ?_ sb hit
    have e1 : a + ((i + 1 : Nat) : Int) * c = a + (i : Nat) * c + c := by rw [Int.natCast_add, Int.add_mul]; omega
    have e2 : (len : Int) - ((i + 1 : Nat) : Int) = (len : Int) - (i : Nat) - 1 := by omega
    rw [e1, e2]
  done := by
    intro P as σ s o Qc E hi x R j pI st k
    subst st
    exact wpAny_pyNext_long_end hh (R.keep _ _ pI) (by omega) fun h' xb => k h' s.toks xb
  self := fun _ _ o _ _ e st q => wpAny_pyIter_longiter (by subst st; exact e) q
  owned := by
    intro i s o v elts k pos Qc E e st q
    subst st
    cases v with
    | ref T =>
      refine wpAny_bind (wpAny_load e ?_)
      exact wpAny_pure q
    | _ => exact wpAny_pure q

/-- a loop over a list of the heap: J holds before each turn -/
def ForList (W : Wd) (n : Nat) (sc : Scope) (target : Expr) (body : List Stmt) (Q : AF → Locs → AH → Prop) (m : Locs) (v : AV) (σ : AH) : Prop :=
  ∃ (l : Nat) (xs : List AV) (J : Nat → Locs → AH → Prop), v = .ref l ∧ J 0 m σ ∧ (∀ i m' σ', i ≤ xs.length → J i m' σ' → σ'[l]? = some (.list xs)) ∧
    (∀ i x m' σ', xs[i]? = some x → J i m' σ' → TA W n sc target x (fun m₂ σ₂ => TSs W n sc body (loopQ (J (i + 1)) Q) m₂ σ₂) m' σ') ∧ (∀ m' σ', J xs.length m' σ' → Q .next m' σ')
theorem ts_for_list {target iter : Expr} {body : List Stmt} (hs : notSet iter = true) (ht : plainTarget target = true) (h : TE W n sc m iter (ForList W n sc target body Q m) σ) : TS W n sc (.For target iter body [] pos) Q m σ := by
  intro A env own P O as s hr he hi ow hl R Qc E c
  refine wpAny_For (h A env (P.or O) as s hr he hi.or hl R _ E fun v av h₁ tk₁ as₁ σ₁ x₁ r₁ R₁ q₁ => ?_) fun x => folded_not hs env x
  obtain ⟨l, xs, J, rfl, j0, jl, turn, fin⟩ := q₁
  obtain ⟨al, e1, rfl⟩ := r₁
  obtain ⟨a, oa, h1, h2, h3⟩ := R₁.at (jl 0 m σ₁ (Nat.zero_le _) j0)
  have : a = al := by rw [e1] at h1; exact (Option.some.inj h1).symm
  subst this
  obtain ⟨vs, hL, hv⟩ := isList_of h2 h3
  refine wpAny_pyIter_list (s := { s with heap := h₁, toks := tk₁ }) hL ?_
  have fr := get?_size_none h₁
  have R₂ := R₁.grow (h' := h₁.push { cls := .type "list_iterator", data := .fields #[.ref a, .int 0 0] }) fun b o e => Heap.get?_push_of_some _ e
  refine for_turns (Turns.list hr.1 e1 fun i σ hle ⟨m', j⟩ => jl i m' σ hle j) ht hr he hi ow (hl.ext x₁) R₂ (Heap.get?_push_size _ rfl) ⟨rfl, rfl⟩ (hi.or.none R₁ fr) (R₁.fresh fr) (fun o q => by have := R₁.keep _ _ q; rw [fr] at this; cases this) j0
    (fun i m' σ' hlt j => ?_) fin fun f af h' tk' as' σ' m' O' x2 f2 ow2 l2 R2 q2 => c f af h' tk' as' σ' m' O' (x₁.trans x2) f2 ow2 l2 R2 q2
  have hx : xs[i]? = some xs[i] := by simp
  rw [hx]
  exact turn i _ m' σ' hx j
/-- a loop over a range -/
def ForRange (W : Wd) (n : Nat) (sc : Scope) (target : Expr) (body : List Stmt) (Q : AF → Locs → AH → Prop) (m : Locs) (v : AV) (σ : AH) : Prop :=
  ∃ (r : Nat) (a b c : Int) (len : Nat) (J : Nat → Locs → AH → Prop), v = .ref r ∧ σ[r]? = some (.range a b c) ∧ Builtin.Range.rangeSize a b c = (len : Int) ∧ J 0 m σ ∧
    (∀ i m' σ', i < len → J i m' σ' → TA W n sc target (.int (a + i * c)) (fun m₂ σ₂ => TSs W n sc body (loopQ (J (i + 1)) Q) m₂ σ₂) m' σ') ∧ (∀ m' σ', J len m' σ' → Q .next m' σ')
theorem ts_for_range {target iter : Expr} {body : List Stmt} (hs : notSet iter = true) (ht : plainTarget target = true) (h : TE W n sc m iter (ForRange W n sc target body Q m) σ) : TS W n sc (.For target iter body [] pos) Q m σ := by
  intro A env own P O as s hr he hi ow hl R Qc E c
  refine wpAny_For (h A env (P.or O) as s hr he hi.or hl R _ E fun v av h₁ tk₁ as₁ σ₁ x₁ r₁ R₁ q₁ => ?_) fun x => folded_not hs env x
  obtain ⟨l, a, b, k, len, J, rfl, e0, hlen, j0, turn, fin⟩ := q₁
  obtain ⟨al, e1, rfl⟩ := r₁
  obtain ⟨a', oa, h1, h2, h3⟩ := R₁.at e0
  have : a' = al := by rw [e1] at h1; exact (Option.some.inj h1).symm
  subst this
  obtain ⟨t, u, w, rfl⟩ := h3
  have fr := get?_size_none h₁
  cases hsm : Builtin.Range.small a b k with
  | true =>
    refine wpAny_pyIter_range (s := { s with heap := h₁, toks := tk₁ }) h2 hsm ?_
    have R₂ := R₁.grow (h' := h₁.push { cls := .type "range_iterator", data := .fields #[rawInt a, rawInt (Builtin.Range.rangeSize a b k), rawInt k] }) fun b o e => Heap.get?_push_of_some _ e
    refine for_turns (J := J) (Turns.range (a := a) (c := k) (len := len) hr.1) ht hr he hi ow (hl.ext x₁) R₂ (Heap.get?_push_size _ rfl) (by simp [hlen]) (hi.or.none R₁ fr) (R₁.fresh fr) (fun o q => by have := R₁.keep _ _ q; rw [fr] at this; cases this) j0
      turn fin fun f af h' tk' as' σ' m' O' x2 f2 ow2 l2 R2 q2 => c f af h' tk' as' σ' m' O' (x₁.trans x2) f2 ow2 l2 R2 q2
  | false =>
    refine wpAny_pyIter_longrange (s := { s with heap := h₁, toks := tk₁ }) h2 hsm ?_
    have R₂ := R₁.grow (h' := h₁.push { cls := .type "longrange_iterator", data := .fields #[rawInt a, rawInt (Builtin.Range.rangeSize a b k), rawInt k] }) fun b o e => Heap.get?_push_of_some _ e
    refine for_turns (J := J) (Turns.long (a := a) (c := k) (len := len) hr.1) ht hr he hi ow (hl.ext x₁) R₂ (Heap.get?_push_size _ rfl) (by simp [hlen]) (hi.or.none R₁ fr) (R₁.fresh fr) (fun o q => by have := R₁.keep _ _ q; rw [fr] at this; cases this) j0
      turn fin fun f af h' tk' as' σ' m' O' x2 f2 ow2 l2 R2 q2 => c f af h' tk' as' σ' m' O' (x₁.trans x2) f2 ow2 l2 R2 q2
end
end Mine
end
section
namespace Mine
open PySem

theorem Room.le {n k : Nat} {A : Around} (h : Room k A) (hn : n ≤ k) : Room n A := ⟨h.1, by have := h.2.1; omega, by have := h.2.2; omega⟩
theorem TCall.up {W : Wd} {n k : Nat} {f : AV} {args : List AV} {Q : AV → AH → Prop} {σ : AH} (h : TCall W n f args Q σ) (hn : n ≤ k) : TCall W k f args Q σ :=
  fun A P as s fv vals hr => h A P as s fv vals (hr.le hn)
theorem TCall.mono {W : Wd} {n : Nat} {f : AV} {args : List AV} {Q Q' : AV → AH → Prop} {σ : AH} (h : TCall W n f args Q σ) (hq : ∀ v σ, Q v σ → Q' v σ) : TCall W n f args Q' σ :=
  fun A P as s fv vals r i x y R Qc E k => h A P as s fv vals r i x y R Qc E fun v av h' tk' as' σ' x y z q => k v av h' tk' as' σ' x y z (hq _ _ q)

/-- a call, entered -/
def TCode (W : Wd) (n : Nat) (f : AV) (args : List AV) (Q : AV → AH → Prop) (σ : AH) : Prop :=
  ∀ (A : Around) (P : Pr) (as : List Addr) (s : Shared) (fv : Value) (vals : List Value), Room n A → W.In P → VRel as fv f → VsRel as vals args → Rep W P as σ s.heap →
    ∀ (Qc : Value → Shared → Prop) (E : Value → Shared → Prop),
      (∀ v av h' tk' as' σ', Ext as as' → VRel as' v av → Rep W P as' σ' h' → Q av σ' → Qc v { s with heap := h', toks := tk' }) →
      codeAny (model W.prog W.w) A (.call fv ⟨vals, []⟩) (fun r s' => match r with | .ok (.ret v) => Qc v s' | .ok _ => False | .error e => E e s') s
theorem TCode.call {W : Wd} {n : Nat} {f : AV} {args : List AV} {Q : AV → AH → Prop} {σ : AH} (h : TCode W n f args Q σ) : TCall W n f args Q σ :=
  fun A P as s fv vals r i x y R Qc E k => wpAny_call (h A P as s fv vals r i x y R Qc E k)
theorem TCode.up {W : Wd} {n k : Nat} {f : AV} {args : List AV} {Q : AV → AH → Prop} {σ : AH} (h : TCode W n f args Q σ) (hn : n ≤ k) : TCode W k f args Q σ :=
  fun A P as s fv vals hr => h A P as s fv vals (hr.le hn)
theorem TCode.mono {W : Wd} {n : Nat} {f : AV} {args : List AV} {Q Q' : AV → AH → Prop} {σ : AH} (h : TCode W n f args Q σ) (hq : ∀ v σ, Q v σ → Q' v σ) : TCode W n f args Q' σ :=
  fun A P as s fv vals r i x y R Qc E k => h A P as s fv vals r i x y R Qc E fun v av h' tk' as' σ' x y z q => k v av h' tk' as' σ' x y z (hq _ _ q)
/-- a def of the text: its object stands in the heap, its parameters are plain -/
structure FnIs (W : Wd) (f : Addr) (ps : List Str) (body : List Stmt) (sc : Scope) : Prop where
  ex : ∃ o fd, W.H.get? f = some o ∧ o.data = .func fd ∧ fd.body = .stmts body ∧ fd.scope = sc ∧ fd.closure = [] ∧ fd.globals = mainGlobals ∧ fd.builtins = builtinsNs ∧ W.H.CodeRec fd.code fd.qualname ∧
    (∀ vals : List Value, vals.length = ps.length → bindArgs fd ⟨vals, []⟩ = pure (ps.zip vals))
  kind : sc.kind = .function
  co : sc.isCoroutine = false
  gen : sc.isGenerator = false
  nd : ps.Nodup
  loc : (ps.all fun x => storeOk sc x) = true

abbrev retQ (Q : AV → AH → Prop) : AF → Locs → AH → Prop
  | .ret v, _, σ => Q v σ
  | .next, _, σ => Q .none σ
  | _, _, _ => False

theorem lookup_zip_rel {as : List Addr} : ∀ {ps : List Str} {vals : List Value} {args : List AV}, VsRel as vals args → ∀ {x : Str} {av : AV}, (ps.zip args).lookup x = some av → ∃ v, (ps.zip vals).lookup x = some v ∧ VRel as v av
  | [], _, _, _, _, _, e => by simp at e
  | _ :: _, [], [], _, _, _, e => by simp at e
  | p :: ps, v :: vs, a :: args, ⟨h, r⟩, x, av, e => by
    simp only [List.zip_cons_cons, List.lookup_cons] at e ⊢
    cases q : x == p with
    | true => rw [q] at e; cases e; exact ⟨v, rfl, h⟩
    | false => rw [q] at e; exact lookup_zip_rel r e
theorem lookup_zip_mem {α : Type} : ∀ {ps : List Str} {vs : List α} {x : Str} {v : α}, (ps.zip vs).lookup x = some v → x ∈ ps
  | [], _, _, _, e => by simp at e
  | _ :: _, [], _, _, e => by simp at e
  | p :: ps, v :: vs, x, u, e => by
    simp only [List.zip_cons_cons, List.lookup_cons] at e
    cases q : x == p with
    | true => rw [beq_iff_eq.mp q]; exact .head _
    | false => rw [q] at e; exact .tail _ (lookup_zip_mem e)
theorem bindL_off (k : Str → Option NameKind) : ∀ (ps : List Str) (vs : List Value) (m : Str → Option Value) (x : Str), x ∉ ps → bindL k (ps.zip vs) m x = m x
  | [], _, _, _, _ => by simp [bindL]
  | _ :: _, [], _, _, _ => by simp [bindL]
  | p :: ps, v :: vs, m, x, h => by
    simp only [List.zip_cons_cons, bindL]
    rw [bindL_off k ps vs _ x fun q => h (.tail _ q)]
    split
    · exact if_neg fun (q : x = p) => h (q ▸ .head _)
    · rfl
theorem bindC_off (k : Str → Option NameKind) : ∀ (ps : List Str) (vs : List Value) (m : Str → Option Value) (x : Str), x ∉ ps → bindC k (ps.zip vs) m x = m x
  | [], _, _, _, _ => by simp [bindC]
  | _ :: _, [], _, _, _ => by simp [bindC]
  | p :: ps, v :: vs, m, x, h => by
    simp only [List.zip_cons_cons, bindC]
    rw [bindC_off k ps vs _ x fun q => h (.tail _ q)]
    split
    · rfl
    · exact if_neg fun (q : x = p) => h (q ▸ .head _)
theorem bindL_get {k : Str → Option NameKind} : ∀ {ps : List Str} {vs : List Value} {m : Str → Option Value} {x : Str} {v : Value}, ps.Nodup → (ps.zip vs).lookup x = some v → k x = some .local → bindL k (ps.zip vs) m x = some v
  | [], _, _, _, _, _, e, _ => by simp at e
  | _ :: _, [], _, _, _, _, e, _ => by simp at e
  | p :: ps, v :: vs, m, x, u, nd, e, hk => by
    simp only [List.zip_cons_cons, List.lookup_cons] at e
    simp only [List.zip_cons_cons, bindL]
    obtain ⟨n1, n2⟩ := List.nodup_cons.mp nd
    cases q : x == p with
    | true =>
      rw [q] at e; cases e
      have := beq_iff_eq.mp q
      subst this
      rw [bindL_off k ps vs _ x n1, if_pos hk]
      simp
    | false => rw [q] at e; exact bindL_get n2 e hk
theorem bindC_get {k : Str → Option NameKind} : ∀ {ps : List Str} {vs : List Value} {m : Str → Option Value} {x : Str} {v : Value}, ps.Nodup → (ps.zip vs).lookup x = some v → ¬ k x = some .local → bindC k (ps.zip vs) m x = some v
  | [], _, _, _, _, _, e, _ => by simp at e
  | _ :: _, [], _, _, _, _, e, _ => by simp at e
  | p :: ps, v :: vs, m, x, u, nd, e, hk => by
    simp only [List.zip_cons_cons, List.lookup_cons] at e
    simp only [List.zip_cons_cons, bindC]
    obtain ⟨n1, n2⟩ := List.nodup_cons.mp nd
    cases q : x == p with
    | true =>
      rw [q] at e; cases e
      have := beq_iff_eq.mp q
      subst this
      rw [bindC_off k ps vs _ x n1, if_neg hk]
      simp
    | false => rw [q] at e; exact bindC_get n2 e hk
theorem lookup_isSome_of_mem {α : Type} : ∀ {l : List (Str × α)} {x : Str} {a : α}, (x, a) ∈ l → (l.lookup x).isSome = true
  | (y, b) :: r, x, a, h => by
    rw [List.lookup_cons]
    cases q : x == y with
    | true => rfl
    | false =>
      rcases List.mem_cons.mp h with e | h
      · cases e; simp at q
      · exact lookup_isSome_of_mem h
theorem cellsFrom_mem : ∀ (names : List (Str × NameKind)) (k : Nat) (acc : List (Str × Addr)) (p : Str × Addr), p ∈ acc → p ∈ cellsFrom k names acc
  | [], _, _, _, h => h
  | (x, kd) :: r, k, acc, p, h => by
    unfold cellsFrom
    split
    · exact cellsFrom_mem r _ _ _ (.tail _ h)
    · exact cellsFrom_mem r _ _ _ h
theorem cellsFrom_has : ∀ (names : List (Str × NameKind)) (k : Nat) (acc : List (Str × Addr)) (x : Str), names.lookup x = some .cell → ((cellsFrom k names acc).lookup x).isSome = true
  | [], _, _, _, h => by simp at h
  | (y, kd) :: r, k, acc, x, h => by
    rw [List.lookup_cons] at h
    unfold cellsFrom
    cases q : x == y with
    | true =>
      rw [q] at h
      have := beq_iff_eq.mp q
      subst this
      cases h
      exact lookup_isSome_of_mem (cellsFrom_mem r _ _ (x, k) (.head _))
    | false =>
      rw [q] at h
      split
      · exact cellsFrom_has r _ _ x h
      · exact cellsFrom_has r _ _ x h

section
variable {W : Wd} {n : Nat} {σ : AH} {Q : AV → AH → Prop}
theorem code_fn {f : Addr} {ps : List Str} {body : List Stmt} {sc : Scope} {args : List AV} (F : FnIs W f ps body sc) (ha : args.length = ps.length) (h : TSs W n sc body (retQ Q) (ps.zip args) σ) : TCode W (n + 1) (.stat (.ref f)) args Q σ := by
  intro A P as s fv vals hr hi hf hv R Qc E c
  cases hf
  obtain ⟨o, fd, h1, h2, h3, rfl, h5, h6, h7, h8, h9⟩ := F.ex
  have hst : ∀ b x, W.H.get? b = some x → s.heap.get? b = some x := fun b x e => R.keep _ _ (hi _ _ e)
  have hlv : vals.length = ps.length := hv.length.trans ha
  have hloc : ∀ x ∈ ps, fd.scope.names.lookup x = some .local ∨ fd.scope.names.lookup x = some .cell := fun x hx => by
    have := List.all_eq_true.mp F.loc x hx
    unfold storeOk at this
    split at this
    · rename_i e; exact .inl e
    · rename_i e; exact .inr e
    · cases this
  refine codeAny_call_cells (binds := ps.zip vals) (by have := hr.2.1; omega) (hst _ _ h1) h2 (W.lim.keeps hst) (h8.keeps hst) h3 (h9 vals hlv) h5 ?_ ?_ F.co F.gen F.kind
  · intro x hx
    rcases hloc x.1 (List.of_mem_zip (a := x.1) (b := x.2) hx).1 with e | e
    · exact .inl e
    · exact .inr ⟨e, cellsFrom_has _ _ _ _ e⟩
  · intro s₁ X
    obtain ⟨hp, tk, rfl⟩ := X.toInCall.same
    generalize henv : callEnvC fd s.heap.objs.size f = env at X ⊢
    have eL : env.locals = s.heap.objs.size := by rw [← henv]; rfl
    have esc : env.scope = fd.scope := by rw [← henv]; rfl
    have egl : env.globals = mainGlobals := by rw [← henv]; exact h6
    have ebl : env.builtins = builtinsNs := by rw [← henv]; exact h7
    have ecl : env.cells = cellsFrom (s.heap.objs.size + 1) fd.scope.names [] := by rw [← henv]; rfl
    obtain ⟨oL, e0, nsL⟩ := NsObj.of X.toInCall.ns
    let own : List Addr := env.locals :: env.cells.filterMap fun p => env.cells.lookup p.1
    let O : Pr := fun a o => a ∈ own ∧ hp.get? a = some o
    have ownC : ∀ x c, env.cells.lookup x = some c → c ∈ own := fun x c e => .tail _ (List.mem_filterMap.mpr ⟨(x, c), mem_of_lookup e, e⟩)
    have ownI : ∀ a ∈ own, a = env.locals ∨ ∃ x, env.cells.lookup x = some a := fun a ha => by
      rcases List.mem_cons.mp ha with e | ha
      · exact .inl e
      · obtain ⟨p, _, e⟩ := List.mem_filterMap.mp ha; exact .inr ⟨p.1, e⟩
    have above : ∀ a ∈ own, s.heap.objs.size ≤ a := fun a ha => by
      rcases ownI a ha with e | ⟨x, e⟩
      · rw [e, eL]; exact Nat.le_refl _
      · have := X.above x a (mem_of_lookup e); rw [eL] at this; exact Nat.le_of_lt this
    have ow : Own env own P O := by
      refine ⟨.head _, fun x c e => ⟨ownC x c e, Nat.ne_of_gt (X.above x c (mem_of_lookup e)), ?_⟩, fun x e => ?_, fun x y c e1 e2 => name_of_addr X.apart (mem_of_lookup e1) (mem_of_lookup e2), fun a o q => q.1, fun a ha => ?_, fun a ha o q => ?_⟩
      · obtain ⟨oc, q1, q2⟩ := X.cell x c e
        exact ⟨oc, _, ⟨ownC x c e, q1⟩, q2⟩
      · rw [ecl]; rw [esc] at e
        exact Option.isSome_iff_exists.mp (cellsFrom_has _ _ _ _ e)
      · rcases ownI a ha with e | ⟨x, e⟩
        · exact ⟨oL, ha, e ▸ e0⟩
        · obtain ⟨oc, q1, _⟩ := X.cell x a e; exact ⟨oc, ha, q1⟩
      · have := Heap.lt_size (R.keep _ _ q); exact absurd (above a ha) (Nat.not_le.mpr this)
    have R₁ : Rep W (P.or O) as σ hp := by
      refine R.move (fun b x q => ?_) (fun b x hb q => ?_) fun b _ x e => X.toInCall.keep b x e
      · rcases q with q | q
        · exact X.toInCall.keep _ _ (R.keep _ _ q)
        · exact q.2
      · rcases q with q | q
        · exact q
        · obtain ⟨z, hz⟩ := R.lt hb
          have := Heap.lt_size hz
          exact absurd (above b q.1) (Nat.not_le.mpr this)
    have l₁ : Loc (P.or O) env (ps.zip args) as := by
      refine ⟨⟨oL, _, .inr ⟨.head _, e0⟩, nsL, fun x av q1 q2 => ?_⟩, fun x av q1 q2 => ?_⟩
      · obtain ⟨v, v1, v2⟩ := lookup_zip_rel hv q1
        exact ⟨v, v2, bindL_get F.nd v1 q2⟩
      · obtain ⟨v, v1, v2⟩ := lookup_zip_rel hv q1
        have hk : env.scope.names.lookup x = some .cell := by
          rcases hloc x (lookup_zip_mem q1) with e | e
          · rw [esc] at q2; rw [e] at q2; rcases q2 with q2 | q2 <;> cases q2
          · rw [esc]; exact e
        obtain ⟨cc, hc⟩ := ow.hasC x hk
        obtain ⟨oc, k1, k2⟩ := X.cell x cc hc
        refine ⟨v, cc, oc, v2, hc, .inr ⟨ownC x cc hc, k1⟩, ?_⟩
        rw [k2]
        exact congrArg _ (bindC_get F.nd v1 (by show ¬ env.scope.names.lookup x = some .local; rw [hk]; intro z; cases z))
    refine h (A.deeper env) env own P O as _ (hr.deeper env) ⟨F.kind, esc, egl, ebl⟩ hi ow l₁ R₁ _ _ fun fl af h' tk' as' σ' m' O' x' f' ow' l' R' q' => ?_
    have R'' : Rep W P as' σ' h' := R'.weaken fun a o q => .inl q
    cases af with
    | next => cases f'; exact c _ .none h' tk' as' σ' x' rfl R'' q'
    | ret v => obtain ⟨y, rfl, hy⟩ := f'; exact c _ v h' tk' as' σ' x' hy R'' q'
    | brk => exact q'.elim
    | cont => exact q'.elim
end
end Mine
end
section
namespace Mine
open PySem

section
variable {W : Wd} {P : Pr} {as : List Addr} {σ : AH} {h h' : Heap}
theorem Rep.push (R : Rep W P as σ h) {o : Obj} {ao : AO} (hf : o.isFreed = false) (hm : ao.isMut = true) (r : ORel W.w.params (as ++ [h.objs.size]) o ao) : Rep W P (as ++ [h.objs.size]) (σ ++ [ao]) (h.push o) :=
  R.alloc (get?_size_none h) (fun _ _ e => Heap.get?_push_of_some _ e) (Heap.get?_push_size _ hf) r hm
theorem Rep.vnew (R : Rep W P as σ h) (a : Addr) : VRel (as ++ [a]) (.ref a) (.ref σ.length) := ⟨a, by rw [← R.len]; simp, rfl⟩
theorem Rep.ref (R : Rep W P as σ h) {v : Value} {i : Nat} {ao : AO} (hv : VRel as v (.ref i)) (e : σ[i]? = some ao) : ∃ a o, v = .ref a ∧ as[i]? = some a ∧ h.get? a = some o ∧ ORel W.w.params as o ao := by
  obtain ⟨a, h1, rfl⟩ := hv
  obtain ⟨a', o, h2, h3, h4⟩ := R.at e
  rw [h1] at h2; cases h2
  exact ⟨a, o, rfl, h1, h3, h4⟩
end

section
variable {W : Wd} {n : Nat} {sc : Scope} {m : Locs} {σ : AH} {Q : AV → AH → Prop} {pos : Pos}

/-- a row of expressions -/
def TEs (W : Wd) (n : Nat) (sc : Scope) (m : Locs) (es : List Expr) (Q : List AV → AH → Prop) (σ : AH) : Prop :=
  ∀ (A : Around) (env : Env) (P : Pr) (as : List Addr) (s : Shared) (pos : Pos), Room n A → EnvIs env sc → W.In P → Loc P env m as → Rep W P as σ s.heap →
    ∀ (Qc : List Value → Shared → Prop) (E : Value → Shared → Prop),
      (∀ vs avs h' tk' as' σ', Ext as as' → VsRel as' vs avs → Rep W P as' σ' h' → Q avs σ' → Qc vs { s with heap := h', toks := tk' }) →
      wpAny (model W.prog W.w) A (spliced (backTo pos (starEach es env))) Qc E s
def notStar : Expr → Bool
  | .Starred .. => false
  | _ => true
theorem star_not {e : Expr} (h : notStar e = true) (rest : List Expr) (env : Env) : starEach (e :: rest) env = (false, eval e env) :: starEach rest env := by
  cases e <;> first | rfl | (cases h; done)
theorem tes_nil {Q : List AV → AH → Prop} (h : Q [] σ) : TEs W n sc m [] Q σ :=
  fun _ _ _ as s _ _ _ _ _ R _ _ c => wpAny_items_nil (c [] [] s.heap s.toks as σ (Ext.refl _) trivial R h)
theorem tes_cons {e : Expr} {es : List Expr} {Q : List AV → AH → Prop} (hs : notStar e = true) (h : TE W n sc m e (fun v σ₁ => TEs W n sc m es (fun vs σ₂ => Q (v :: vs) σ₂) σ₁) σ) : TEs W n sc m (e :: es) Q σ := by
  intro A env P as s pos hr he hi hl R Qc E c
  refine wpAny_items_cons (h A env P as s hr he hi hl R _ E fun v av h₁ tk₁ as₁ σ₁ x₁ r₁ R₁ q₁ => ?_) (star_not hs es env)
  exact q₁ A env P as₁ _ pos hr he hi (hl.ext x₁) R₁ _ E fun vs avs h₂ tk₂ as₂ σ₂ x₂ r₂ R₂ q₂ => c (v :: vs) (av :: avs) h₂ tk₂ as₂ σ₂ (x₁.trans x₂) ⟨r₁.ext x₂, r₂⟩ R₂ q₂
theorem te_list {es : List Expr} (h : TEs W n sc m es (fun vs σ₁ => vs.length ≤ sizeLine ∧ Q (.ref σ₁.length) (σ₁ ++ [.list vs])) σ) : TE W n sc m (.List es pos) Q σ := by
  intro A env P as s hr he hi hl R Qc E c
  refine wpAny_List (h A env P as s pos hr he hi hl R _ E fun vs avs h₁ tk₁ as₁ σ₁ x₁ r₁ R₁ q₁ => ⟨by rw [r₁.length]; exact q₁.1, ?_⟩)
  exact c _ (.ref σ₁.length) _ tk₁ (as₁ ++ [h₁.objs.size]) (σ₁ ++ [.list avs]) (x₁.trans (Ext.snoc ..)) (R₁.vnew _) (R₁.push (ao := .list avs) rfl rfl ⟨vs, 0, rfl, r₁.ext (Ext.snoc ..)⟩) q₁.2
theorem te_tuple {es : List Expr} {k : Nat} (h : TEs W n sc m es (fun vs σ₁ => vs.length ≤ sizeLine ∧ Q (.ref σ₁.length) (σ₁ ++ [.tuple vs])) σ) : TE W n sc m (.Tuple es k pos) Q σ := by
  intro A env P as s hr he hi hl R Qc E c
  refine wpAny_Tuple (h A env P as s pos hr he hi hl R _ E fun vs avs h₁ tk₁ as₁ σ₁ x₁ r₁ R₁ q₁ => ⟨by rw [r₁.length]; exact q₁.1, ?_⟩)
  exact c _ (.ref σ₁.length) _ tk₁ (as₁ ++ [h₁.objs.size]) (σ₁ ++ [.tuple avs]) (x₁.trans (Ext.snoc ..)) (R₁.vnew _) (R₁.push (ao := .tuple avs) rfl rfl ⟨vs, 0, rfl, r₁.ext (Ext.snoc ..)⟩) q₁.2

/-! items -/
def TIdx (W : Wd) (n : Nat) (value slice : Expr) (o i : AV) (Q : AV → AH → Prop) (σ : AH) : Prop :=
  ∀ (A : Around) (P : Pr) (as : List Addr) (s : Shared) (vo vi : Value), Room n A → W.In P → VRel as vo o → VRel as vi i → Rep W P as σ s.heap → Run W P A as s (PyProof.Rows.subscriptTail value slice vo vi) Q
theorem te_index {value slice : Expr} (h : TE W n sc m value (fun o σ₁ => TE W n sc m slice (fun i σ₂ => TIdx W n value slice o i Q σ₂) σ₁) σ) : TE W n sc m (.Subscript value slice pos) Q σ := by
  intro A env P as s hr he hi hl R Qc E c
  refine PyProof.Rows.Subscript_ (h A env P as s hr he hi hl R _ E fun va a h₁ tk₁ as₁ σ₁ x₁ r₁ R₁ q₁ => ?_)
  refine q₁ A env P as₁ _ hr he hi (hl.ext x₁) R₁ _ E fun vb b h₂ tk₂ as₂ σ₂ x₂ r₂ R₂ q₂ => ?_
  exact q₂ A P as₂ _ va vb hr hi (r₁.ext x₂) r₂ R₂ _ E fun v av h₃ tk₃ as₃ σ₃ x₃ r₃ R₃ q₃ => c v av h₃ tk₃ as₃ σ₃ ((x₁.trans x₂).trans x₃) r₃ R₃ q₃
def notSlice : Expr → Bool
  | .Slice .. => false
  | _ => true
theorem subscripted_not {e : Expr} (h : notSlice e = true) (o i : Value) : subscripted e false o i = operate [o, i] (getItem o i) := by
  cases e <;> first | rfl | (cases h; done)
def pyIdx (len : Nat) (k : Int) : Option Nat := if 0 ≤ k then (if k < (len : Int) then some k.toNat else none) else if -(len : Int) ≤ k then some (k + len).toNat else none
theorem getItem_listA {prog : Program} {w : World} {A : Around} {E : Value → Shared → Prop} {s : Shared} {l : Addr} {vs : List Value} {k : Int} {t : Tok} {j : Nat} {x : Value} {Qc : Value → Shared → Prop} (hl : s.heap.IsList l vs.toArray) (hj : pyIdx vs.length k = some j) (hx : vs[j]? = some x)
    (hlo : -(2 ^ 63) ≤ k) (hhi : k < 2 ^ 63) (h : Qc x s) : wpAny (model prog w) A (getItem (.ref l) (.int k t)) Qc E s := by
  unfold pyIdx at hj
  split at hj
  · rename_i h0
    split at hj
    · cases hj
      exact wpAny_getItem_list hl h0 hhi (by simpa using hx) h
    · cases hj
  · rename_i h0
    split at hj
    · rename_i h1
      cases hj
      exact wpAny_getItem_list_neg hl (by omega) (by simpa using h1) hlo (by simpa using hx) h
    · cases hj
theorem tidx_list {value slice : Expr} {l : Nat} {xs : List AV} {k : Int} {j : Nat} {x : AV} (hns : notSlice slice = true) (hl : σ[l]? = some (.list xs)) (hj : pyIdx xs.length k = some j) (hx : xs[j]? = some x) (hb : -(2 ^ 63) ≤ k ∧ k < 2 ^ 63) (h : Q x σ) :
    TIdx W n value slice (.ref l) (.int k) Q σ := by
  intro A P as s vo vi hr hi h1 h2 R Qc E c
  obtain ⟨a, o, rfl, e1, e2, r⟩ := R.ref h1 hl
  obtain ⟨t, rfl⟩ := h2
  obtain ⟨vs, hL, hv⟩ := isList_of e2 r
  obtain ⟨v, v1, v2⟩ := hv.get hx
  exact PyProof.Rows.tail_any hL.typeIs slot_list_getitem.lookup (getItem_listA hL (by rw [hv.length]; exact hj) v1 hb.1 hb.2 (c v x s.heap s.toks as σ (Ext.refl _) v2 R h)) (subscripted_not hns ..)
theorem isInts_of {as : List Addr} {o : Obj} {ns : List Int} {a : Addr} {h : Heap} {P : Params} (e : h.get? a = some o) (r : ORel P as o (.ints ns)) : ∃ vs, h.IsList a (List.toArray vs) ∧ VsRel as vs (ns.map AV.int) := by
  obtain ⟨vs, k, h1, h2, hv⟩ := r
  exact ⟨vs, ⟨_, e, h1, k, h2⟩, hv⟩
theorem tidx_ints {value slice : Expr} {l : Nat} {ns : List Int} {k : Int} {x : Int} (hns : notSlice slice = true) (hl : σ[l]? = some (.ints ns)) (h0 : 0 ≤ k) (hx : ns[k.toNat]? = some x) (hb : k < 2 ^ 63) (h : Q (.int x) σ) :
    TIdx W n value slice (.ref l) (.int k) Q σ := by
  intro A P as s vo vi hr hi h1 h2 R Qc E c
  obtain ⟨a, o, rfl, e1, e2, r⟩ := R.ref h1 hl
  obtain ⟨t, rfl⟩ := h2
  obtain ⟨vs, hL, hv⟩ := isInts_of e2 r
  obtain ⟨v, v1, v2⟩ := hv.get (i := k.toNat) (x := .int x) (by simp [hx])
  exact PyProof.Rows.tail_any hL.typeIs slot_list_getitem.lookup (wpAny_getItem_list hL h0 hb (by simpa using v1) (c v (.int x) s.heap s.toks as σ (Ext.refl _) v2 R h)) (subscripted_not hns ..)
theorem tidx_tuple {value slice : Expr} {l : Nat} {xs : List AV} {k : Int} {j : Nat} {x : AV} (hns : notSlice slice = true) (hl : σ[l]? = some (.tuple xs)) (hj : seqIndex? k xs.length = some j) (hx : xs[j]? = some x) (hb : -(2 ^ 63) ≤ k ∧ k < 2 ^ 63) (h : Q x σ) :
    TIdx W n value slice (.ref l) (.int k) Q σ := by
  intro A P as s vo vi hr hi h1 h2 R Qc E c
  obtain ⟨a, o, rfl, e1, e2, r⟩ := R.ref h1 hl
  obtain ⟨t, rfl⟩ := h2
  obtain ⟨vs, nn, rfl, hv⟩ := r
  obtain ⟨v, v1, v2⟩ := hv.get hx
  have hT : PyProof.Rows.IsTup s.heap a vs.toArray := ⟨_, e2, rfl, nn, rfl⟩
  exact PyProof.Rows.tail_any hT.typeIs PyProof.Rows.slot_tuple_getitem.lookup (PyProof.Rows.getItem_tuple hT hb.1 hb.2 (by simpa [hv.length] using hj) (by simpa using v1) (c v x s.heap s.toks as σ (Ext.refl _) v2 R h)) (subscripted_not hns ..)

/-! slices -/
def TOpt (W : Wd) (n : Nat) (sc : Scope) (m : Locs) (e : Option Expr) (Q : Option Int → AH → Prop) (σ : AH) : Prop := match e with
  | none => Q none σ
  | some e => TE W n sc m e (fun v σ₁ => ∃ k, v = .int k ∧ Q (some k) σ₁) σ
theorem opt_part {e : Option Expr} {Q : Option Int → AH → Prop} (h : TOpt W n sc m e Q σ) {A : Around} {env : Env} {P : Pr} {as : List Addr} {s : Shared} (hr : Room n A) (he : EnvIs env sc) (hi : W.In P) (hl : Loc P env m as) (R : Rep W P as σ s.heap)
    {Qc : Value → Shared → Prop} {E : Value → Shared → Prop} (c : ∀ v k h' tk' as' σ', Ext as as' → IsPart v k → Rep W P as' σ' h' → Q k σ' → Qc v { s with heap := h', toks := tk' }) : wpAny (model W.prog W.w) A (evalPart e env) Qc E s := by
  cases e with
  | none => exact wpAny_pure (c .none none s.heap s.toks as σ (Ext.refl _) .none R h)
  | some e =>
    rw [evalPart_some]
    refine h A env P as s hr he hi hl R _ E fun v av h₁ tk₁ as₁ σ₁ x₁ r₁ R₁ q₁ => ?_
    obtain ⟨k, rfl, q⟩ := q₁
    obtain ⟨t, rfl⟩ := r₁
    exact c _ (some k) h₁ tk₁ as₁ σ₁ x₁ (.int k t) R₁ q
theorem te_slice {lower upper step : Option Expr} {p : Pos} (h : TOpt W n sc m lower (fun lo σ₁ => TOpt W n sc m upper (fun hi σ₂ => TOpt W n sc m step (fun st σ₃ => Q (.ref σ₃.length) (σ₃ ++ [.slice lo hi st])) σ₂) σ₁) σ) : TE W n sc m (.Slice lower upper step p) Q σ := by
  intro A env P as s hr he hi hl R Qc E c
  refine wpAny_Slice (opt_part h hr he hi hl R fun vl lo h₁ tk₁ as₁ σ₁ x₁ p₁ R₁ q₁ => ?_)
  refine opt_part q₁ hr he hi (hl.ext x₁) R₁ fun vu hi' h₂ tk₂ as₂ σ₂ x₂ p₂ R₂ q₂ => ?_
  refine opt_part q₂ hr he hi (hl.ext (x₁.trans x₂)) R₂ fun vs st h₃ tk₃ as₃ σ₃ x₃ p₃ R₃ q₃ => ?_
  exact c _ (.ref σ₃.length) _ tk₃ (as₃ ++ [h₃.objs.size]) (σ₃ ++ [.slice lo hi' st]) (((x₁.trans x₂).trans x₃).trans (Ext.snoc ..)) (R₃.vnew _) (R₃.push (ao := .slice lo hi' st) rfl rfl ⟨vl, vu, vs, rfl, p₁, p₂, p₃⟩) q₃
def pickL {α : Type} (xs : List α) (lo hi st : Option Int) : List α :=
  (sliceRange (sliceBounds lo hi st xs.length).1 (sliceBounds lo hi st xs.length).2.1 (sliceBounds lo hi st xs.length).2.2).filterMap (xs[·]?)
theorem pickL_eq (vs : List Value) (lo hi st : Option Int) : slicePick vs.toArray lo hi st = (pickL vs lo hi st).toArray := by
  simp [slicePick, pickL]
theorem VsRel.pick {as : List Addr} {vs : List Value} {xs : List AV} (h : VsRel as vs xs) : ∀ ks : List Nat, VsRel as (ks.filterMap (vs[·]?)) (ks.filterMap (xs[·]?))
  | [] => trivial
  | k :: ks => by
    cases q : xs[k]? with
    | none =>
      have : vs[k]? = none := by
        rw [List.getElem?_eq_none_iff] at q ⊢; rw [h.length]; exact q
      rw [List.filterMap_cons_none this, List.filterMap_cons_none q]; exact h.pick ks
    | some x =>
      obtain ⟨v, v1, v2⟩ := h.get q
      rw [List.filterMap_cons_some v1, List.filterMap_cons_some q]; exact ⟨v2, h.pick ks⟩
theorem tidx_slice {lo' hi' st' : Option Expr} {p : Pos} {v : Expr} {l sl : Nat} {xs : List AV} {lo hi st : Option Int} (hl : σ[l]? = some (.list xs)) (hs : σ[sl]? = some (.slice lo hi st)) (h0 : st ≠ some 0) (hz : xs.length ≤ sizeLine)
    (h : Q (.ref σ.length) (σ ++ [.list (pickL xs lo hi st)])) : TIdx W n v (.Slice lo' hi' st' p) (.ref l) (.ref sl) Q σ := by
  intro A P as s vo vi hr hi'' h1 h2 R Qc E c
  obtain ⟨a, o, rfl, e1, e2, r⟩ := R.ref h1 hl
  obtain ⟨b, os, rfl, f1, f2, rs⟩ := R.ref h2 hs
  obtain ⟨vs, hL, hv⟩ := isList_of e2 r
  obtain ⟨vl, vu, vst, rfl, p1, p2, p3⟩ := rs
  have key : wpAny (model W.prog W.w) A (getItem (.ref a) (.ref b)) Qc E s := by
    refine wpAny_getItem_list_slice hL ⟨_, f2, rfl, rfl⟩ p1 p2 p3 h0 ?_ (by simp [hv.length, hz])
    refine c _ (.ref σ.length) _ s.toks (as ++ [s.heap.objs.size]) _ (Ext.snoc ..) (R.vnew _) (R.push (ao := .list (pickL xs lo hi st)) rfl rfl ?_) h
    refine ⟨pickL vs lo hi st, 0, by rw [pickL_eq], ?_⟩
    have := hv.pick (sliceRange (sliceBounds lo hi st xs.length).1 (sliceBounds lo hi st xs.length).2.1 (sliceBounds lo hi st xs.length).2.2)
    unfold pickL
    rw [hv.length]
    exact this.ext (Ext.snoc ..)
  cases st' with
  | none => exact PyProof.Rows.tail_any (ops := [.ref b, .ref a]) hL.typeIs slot_list_getitem.lookup key rfl
  | some e => exact PyProof.Rows.tail_any (ops := [.ref a, .ref b]) hL.typeIs slot_list_getitem.lookup key rfl

/-! len -/
theorem tcall_len {l : Nat} {xs : List AV} (hl : σ[l]? = some (.list xs)) (hz : (xs.length : Int) < 2 ^ 63) (h : Q (.int xs.length) σ) : TCall W n (.stat (.builtin "len")) [.ref l] Q σ := by
  intro A P as s fv vals hr hi hf hv R Qc E c
  cases hf
  obtain ⟨v, rfl, h1⟩ := VsRel.x1 hv
  obtain ⟨a, o, rfl, e1, e2, r⟩ := R.ref h1 hl
  obtain ⟨vs, hL, hv⟩ := isList_of e2 r
  have hs : vs.toArray.size = xs.length := by simp [hv.length]
  exact Calls.call_len_list hL (by rw [hs]; exact hz) (c _ (.int xs.length) s.heap _ as σ (Ext.refl _) ⟨_, by rw [hs]⟩ R h)
theorem tcall_len_ints {l : Nat} {ns : List Int} (hl : σ[l]? = some (.ints ns)) (hz : (ns.length : Int) < 2 ^ 63) (h : Q (.int ns.length) σ) : TCall W n (.stat (.builtin "len")) [.ref l] Q σ := by
  intro A P as s fv vals hr hi hf hv R Qc E c
  cases hf
  obtain ⟨v, rfl, h1⟩ := VsRel.x1 hv
  obtain ⟨a, o, rfl, e1, e2, r⟩ := R.ref h1 hl
  obtain ⟨vs, hL, hv⟩ := isInts_of e2 r
  have hs : vs.toArray.size = ns.length := by simp [hv.length]
  exact Calls.call_len_list hL (by rw [hs]; exact hz) (c _ (.int ns.length) s.heap _ as σ (Ext.refl _) ⟨_, by rw [hs]⟩ R h)
end
end Mine
end
section
namespace Mine
open PySem

section
variable {prog : Program} {w : World} {A : Around} {E : Value → Shared → Prop} {s : Shared}
theorem setItem_exact {l : Addr} {items : Array Value} {nn : Nat} {k : Int} {t : Tok} {v : Value} {j : Nat} {Qc : Unit → Shared → Prop} (hl : s.heap.get? l = some { cls := .type "list", data := .seq items nn })
    (hj : pyIdx items.size k = some j) (hlo : -(2 ^ 63) ≤ k) (hhi : k < 2 ^ 63) (h : Qc () { s with heap := s.heap.update l (Obj.mapSeq (·.setIfInBounds j v)) }) : wpAny (model prog w) A (setItem (.ref l) (.int k t) v) Qc E s := by
  have hL : s.heap.IsList l items := ⟨_, hl, rfl, nn, rfl⟩
  have hjs : j < items.size := by
    unfold pyIdx at hj
    split at hj
    · split at hj
      · cases hj; omega
      · cases hj
    · split at hj
      · cases hj; omega
      · cases hj
  have hx' : items[j]? = some items[j] := Array.getElem?_eq_getElem hjs
  unfold setItem
  refine wpAny_holding ?_
  refine wpAny_bind (wpAny_sequenceKey hL.typeIs (by decide) ?_)
  refine wpAny_bind (wpAny_callSpecial?_slot (name := Str.ofString "__setitem__") hL.typeIs slot_list_setitem
    (wpAny_call_entry slot_list_setitem hL.typeIs entry_list_setitem ?_ (args_list_setitem _ _ _)))
  show wpAny _ _ (Builtin.List.listSubscript? (.int k t) >>= _) _ _ s
  have hfit : Builtin.List.listFitsIndex k = true := by
    rcases Int.lt_or_le k 0 with q | q
    · exact fitsIndex_neg q hlo
    · exact fitsIndex_of q hhi
  refine wpAny_bind (wpAny_listSubscript_int hfit ?_)
  rcases Int.lt_or_le k 0 with q | q
  · obtain ⟨m, rfl⟩ : ∃ m : Nat, k = Int.negSucc m := by
      cases k with
      | ofNat m => exact absurd q (by simp)
      | negSucc m => exact ⟨m, rfl⟩
    have hj2 : seqIndex? (Int.negSucc m) items.size = some j := by
      unfold pyIdx at hj
      rw [if_neg (Int.not_le.mpr q)] at hj
      split at hj
      · rename_i h1
        rw [seqIndex_neg q h1]; exact hj
      · cases hj
    show wpAny _ _ ((Builtin.List.listItems (.ref l) >>= fun xs => pure ((seqIndex? (Int.negSucc m) xs.size).bind fun j => xs[j]?.map (j, ·))) >>= _) _ _ s
    refine wpAny_bind (wpAny_bind (wpAny_listItems hl rfl (wpAny_pure ?_)))
    rw [hj2, Option.bind_some, hx']
    show wpAny _ _ (setSeqItemAt l j v >>= _) _ _ s
    refine wpAny_bind (wpAny_setSeqItemAt hl rfl ?_)
    exact wpAny_pure ⟨.none, rfl, wpAny_pure h⟩
  · obtain ⟨j', rfl⟩ := Int.eq_ofNat_of_zero_le q
    have : j' = j := by
      unfold pyIdx at hj
      rw [if_pos q] at hj
      split at hj
      · cases hj; rfl
      · cases hj
    subst this
    show wpAny _ _ ((seqItemAt l j' >>= fun r => pure (r.map (j', ·))) >>= _) _ _ s
    refine wpAny_bind (wpAny_bind (wpAny_seqItemAt hl rfl (wpAny_pure ?_)))
    rw [hx']
    show wpAny _ _ (setSeqItemAt l j' v >>= _) _ _ s
    refine wpAny_bind (wpAny_setSeqItemAt hl rfl ?_)
    exact wpAny_pure ⟨.none, rfl, wpAny_pure h⟩

theorem delItem_slice {l sl : Addr} {items : Array Value} {nn : Nat} {vl vu vs : Value} {lo hi st : Option Int} {Qc : Unit → Shared → Prop} (hl : s.heap.get? l = some { cls := .type "list", data := .seq items nn })
    (hs : s.heap.IsSliceOf sl vl vu vs) (pl : IsPart vl lo) (pu : IsPart vu hi) (ps : IsPart vs st) (h0 : st ≠ some 0) (hz : items.size ≤ sizeLine)
    (h : ∀ sel : Nat → Bool, (∀ k : Nat, sel k = if (sliceBounds lo hi st items.size).2.2 > 0 then decide ((sliceBounds lo hi st items.size).1 ≤ k) && decide ((k : Int) < (sliceBounds lo hi st items.size).2.1) && ((k : Int) - (sliceBounds lo hi st items.size).1) % (sliceBounds lo hi st items.size).2.2 == 0
        else decide ((sliceBounds lo hi st items.size).2.1 < k) && decide ((k : Int) ≤ (sliceBounds lo hi st items.size).1) && ((sliceBounds lo hi st items.size).1 - (k : Int)) % (-(sliceBounds lo hi st items.size).2.2) == 0) →
      Qc () { s with heap := s.heap.update l (Obj.mapSeq fun xs => (xs.toList.zipIdx.filterMap fun p => if sel p.2 = true then none else some p.1).toArray) }) : wpAny (model prog w) A (delItem (.ref l) (.ref sl)) Qc E s := by
  have hL : s.heap.IsList l items := ⟨_, hl, rfl, nn, rfl⟩
  obtain ⟨os, hos, hcs, hds⟩ := id hs
  have hTs : s.TypeIs (.ref sl) "slice" := ⟨os, hos, hcs⟩
  refine wpAny_delItem_slot hL.typeIs (by decide) F.slot_list_delitem (wpAny_call_entry F.slot_list_delitem hL.typeIs F.entry_list_delitem ?_ (F.args_list_delitem_2 _ _))
  show wpAny _ _ (Builtin.List.listSubscript? (.ref sl) >>= _) _ _ s
  refine wpAny_bind ?_
  unfold Builtin.List.listSubscript?
  refine wpAny_bind (wpAny_specialOf hTs slice_no_index ?_)
  simp only [Option.isNone_none, if_true]
  refine wpAny_pure ?_
  show wpAny _ _ (typeOf (.ref sl) >>= _) _ _ s
  refine wpAny_bind (wpAny_typeOf hTs ?_)
  rw [if_neg (by decide)]
  rw [listSliceParts_eq]
  have hstep : ¬ ((rawPart st == rawInt 0) = true) := by
    cases st with
    | none => exact Bool.false_ne_true
    | some c =>
      intro hh
      have : c = 0 := by simpa [rawPart, rawInt] using hh
      exact h0 (by rw [this])
  refine wpAny_bind (wpAny_bind (wpAny_field hos hds (x := vs) rfl (wpAny_bind (wpAny_listPart ps ?_))))
  rw [if_neg hstep]
  refine wpAny_bind (wpAny_field hos hds (x := vl) rfl (wpAny_bind (wpAny_listPart pl ?_)))
  refine wpAny_bind (wpAny_field hos hds (x := vu) rfl (wpAny_bind (wpAny_listPart pu (wpAny_pure ?_))))
  refine wpAny_bind (wpAny_listItems hl rfl ?_)
  refine wpAny_bind (wpAny_of_eq (sliceIndices_raw lo hi st items.size h0) ?_)
  refine wpAny_bind (wpAny_rule ?_)
  refine wpAny_bind (wpAny_updateSeq (a := l) hl rfl ?_ hz ?_)
  · refine wpAny_bind (wpAny_letGo (wpAny_pure ?_))
    refine ⟨.none, rfl, ?_⟩
    exact h (fun k => _) fun k => rfl
  · refine Nat.le_trans ?_ (Nat.le_succ_of_le hz)
    rw [List.size_toArray]
    refine Nat.le_trans (List.length_filterMap_le ..) ?_
    simp
end
end Mine
end
section
namespace Mine
open PySem PySem.W

section
variable {W : Wd} {n : Nat} {sc : Scope} {m : Locs} {σ : AH} {Q : AV → AH → Prop} {pos : Pos}

/-- what may be called: a built-in, a type, a def or a class of the text -/
inductive Keeps (W : Wd) : Value → Prop where
  | builtin (id : String) : Keeps W (.builtin id)
  | type (t : String) : Keeps W (.type t)
  | fn {a : Addr} {o : Obj} {fd : FuncData} : W.H.get? a = some o → o.data = .func fd → Keeps W (.ref a)
  | cls {K : Frag} {C : Addr} : K.In W.H → keepIn K (.ref C) = true → Keeps W (.ref C)
theorem Keeps.looks {f : Value} (k : Keeps W f) {h : Heap} (hh : ∀ b o, W.H.get? b = some o → h.get? b = some o) : ∃ k, (k = Keeper.frame ∨ k = Keeper.machine ∨ k = Keeper.boundFrame) ∧ Looks (model W.prog W.w) h (keeperOf f) k := by
  cases k with
  | builtin id => exact ⟨.machine, .inr (.inl rfl), Looks.of_pure rfl⟩
  | type t => exact ⟨.machine, .inr (.inl rfl), Looks.of_pure rfl⟩
  | fn h1 h2 =>
    refine ⟨.frame, .inl rfl, (Looks.ld (part := none) (hh _ _ h1)).andThen ?_⟩
    rw [h2]; exact .now
  | cls X hk => exact keeps_K hk h (X.keeps hh)
theorem any_backTo (pos : Pos) (env : Env) : ∀ es : List Expr, (es.all notStar) = true → ((backTo pos (starEach es env)).any (·.1)) = false
  | [], _ => rfl
  | e :: es, h => by
    have h' : notStar e = true ∧ es.all notStar = true := by simpa using h
    rw [star_not h'.1]
    show (false || (backTo pos (starEach es env)).any (·.1)) = false
    rw [any_backTo pos env es h'.2]; rfl
theorem evalArgs_none {M : Model} {A : Around} {E : Value → Shared → Prop} {s : Shared} {f : Value} {pos : Pos} {env : Env} {Q : Args → Shared → Prop} (h : wpAny M A (spliced (backTo pos (starEach [] env))) (fun vs s' => Q ⟨vs, []⟩ s') E s) : wpAny M A (evalArgs f true (backTo pos (starEach [] env)) []) Q E s := by
  unfold evalArgs
  show wpAny M A (spliced (backTo pos (starEach [] env)) >>= _) Q E s
  refine wpAny_bind (wpAny_mono h (fun vs s' h' => ?_) fun _ _ x => x)
  refine wpAny_bind (wpAny_pure ?_)
  refine wpAny_holding ?_
  exact wpAny_bind (wpAny_pure (wpAny_bind (wpAny_pure (wpAny_pure h'))))
theorem callW {A : Around} {env : Env} {P : Pr} {as : List Addr} {s : Shared} {args : List Expr} {f : Value} {first : List Value} {af : AV} {afirst : List AV} {Qc : Value → Shared → Prop} {E : Value → Shared → Prop}
    (hn : args.all notStar = true) (h : TEs W n sc m args (fun vs σ₁ => TCall W n af (afirst ++ vs) Q σ₁) σ) (hk : Keeps W f) (hf : VRel as f af) (hfs : VsRel as first afirst)
    (hr : Room n A) (he : EnvIs env sc) (hi : W.In P) (hl : Loc P env m as) (R : Rep W P as σ s.heap)
    (c : ∀ v av h' tk' as' σ', Ext as as' → VRel as' v av → Rep W P as' σ' h' → Q av σ' → Qc v { s with heap := h', toks := tk' }) :
    wpAny (model W.prog W.w) A (callWith pos f first (backTo pos (starEach args env)) []) Qc E s := by
  refine callWith_of (P := fun h => ∀ b o, W.H.get? b = some o → h.get? b = some o) (by rw [any_backTo pos env args hn]; rfl) (fun h hh => hk.looks hh) ?_
  have key : wpAny (model W.prog W.w) A (spliced (backTo pos (starEach args env))) (fun vs s₁ => (∀ b o, W.H.get? b = some o → s₁.heap.get? b = some o) ∧ wpAny (model W.prog W.w) A (call f (first ++ vs)) Qc E s₁) E s := by
    refine h A env P as s pos hr he hi hl R _ E fun vs avs h₁ tk₁ as₁ σ₁ x₁ r₁ R₁ q₁ => ⟨fun b o e => R₁.keep _ _ (hi _ _ e), ?_⟩
    exact q₁ A P as₁ _ f (first ++ vs) hr hi (hf.ext x₁) ((hfs.ext x₁).append r₁) R₁ Qc E fun v av h₂ tk₂ as₂ σ₂ x₂ r₂ R₂ q₂ => c v av h₂ tk₂ as₂ σ₂ (x₁.trans x₂) r₂ R₂ q₂
  cases args with
  | nil => exact evalArgs_none key
  | cons e rest =>
    have h' : notStar e = true ∧ rest.all notStar = true := by simpa using hn
    rw [star_not h'.1] at key ⊢
    exact Calls.evalArgs_plain key
/-- a call by a name, or by any expression that is no attribute -/
def notAttr : Expr → Bool
  | .Attribute .. => false
  | _ => true
theorem te_call {func : Expr} {args : List Expr} (ha : notAttr func = true) (hn : args.all notStar = true)
    (h : TE W n sc m func (fun fv σ₁ => (∃ f, fv = .stat f ∧ Keeps W f) ∧ TEs W n sc m args (fun vs σ₂ => TCall W n fv vs Q σ₂) σ₁) σ) : TE W n sc m (.Call func args [] pos) Q σ := by
  intro A env P as s hr he hi hl R Qc E c
  have e : eval (.Call func args [] pos) env = (do callWith pos (← eval func env) [] (backTo pos (starEach args env)) []) := by
    cases func <;> first | rfl | (cases ha; done)
  rw [e]
  refine wpAny_bind (h A env P as s hr he hi hl R _ E fun v av h₁ tk₁ as₁ σ₁ x₁ r₁ R₁ q₁ => ?_)
  obtain ⟨⟨f, rfl, hk⟩, q⟩ := q₁
  cases r₁
  exact callW (afirst := []) hn q hk rfl trivial hr he hi (hl.ext x₁) R₁ fun v av h₂ tk₂ as₂ σ₂ x₂ r₂ R₂ q₂ => c v av h₂ tk₂ as₂ σ₂ (x₁.trans x₂) r₂ R₂ q₂
/-- how a method is found: a function and what it is bound to -/
def TMeth (W : Wd) (n : Nat) (o : AV) (name : Str) (Q : AV → List AV → AH → Prop) (σ : AH) : Prop :=
  ∀ (A : Around) (P : Pr) (as : List Addr) (s : Shared) (vo : Value) (pl : Sem Bool), Room n A → W.In P → VRel as vo o → Rep W P as σ s.heap →
    ∀ (Qc : Value × List Value → Shared → Prop) (E : Value → Shared → Prop),
      (∀ f fs af afs h' tk' as' σ', Ext as as' → Keeps W f → VRel as' f af → VsRel as' fs afs → Rep W P as' σ' h' → Q af afs σ' → Qc (f, fs) { s with heap := h', toks := tk' }) →
      wpAny (model W.prog W.w) A (getMethod vo name pl) Qc E s
theorem te_meth {o : Expr} {name : Str} {apos : Pos} {args : List Expr} (hn : args.all notStar = true)
    (he' : ∀ env, eval (.Call (.Attribute o name apos) args [] pos) env = (do
      let ov ← eval o env
      standAt apos.atName
      let (f, first) ← holding [ov] (getMethod ov name (do return (← importBound o env).getD true))
      callWith pos f first (backTo pos (starEach args env)) []))
    (h : TE W n sc m o (fun ov σ₁ => TMeth W n ov name (fun f fs σ₂ => TEs W n sc m args (fun vs σ₃ => TCall W n f (fs ++ vs) Q σ₃) σ₂) σ₁) σ) : TE W n sc m (.Call (.Attribute o name apos) args [] pos) Q σ := by
  intro A env P as s hr he hi hl R Qc E c
  rw [he' env]
  refine wpAny_bind (h A env P as s hr he hi hl R _ E fun v av h₁ tk₁ as₁ σ₁ x₁ r₁ R₁ q₁ => ?_)
  refine wpAny_bind (wpAny_standAt (wpAny_bind (wpAny_holding ?_)))
  refine q₁ A P as₁ _ v _ hr hi r₁ R₁ _ E fun f fs af afs h₂ tk₂ as₂ σ₂ x₂ k₂ f₂ fs₂ R₂ q₂ => ?_
  exact callW hn q₂ k₂ f₂ fs₂ hr he hi (hl.ext (x₁.trans x₂)) R₂ fun v av h₃ tk₃ as₃ σ₃ x₃ r₃ R₃ q₃ => c v av h₃ tk₃ as₃ σ₃ ((x₁.trans x₂).trans x₃) r₃ R₃ q₃
theorem tmeth_append {l : Nat} {xs : List AV} {QM : AV → List AV → AH → Prop} (hl : σ[l]? = some (.list xs)) (h : QM (.stat (.builtin "list.append")) [.ref l] σ) : TMeth W n (.ref l) "append" QM σ := by
  intro A P as s vo pl hr hi hv R Qc E c
  obtain ⟨a, o, rfl, e1, e2, r⟩ := R.ref hv hl
  obtain ⟨vs, nn, rfl, hvs⟩ := r
  exact Calls.getMethod_list_append e2 rfl rfl (c _ _ (.stat (.builtin "list.append")) [.ref l] s.heap s.toks as σ (Ext.refl _) (.builtin _) rfl ⟨⟨a, e1, rfl⟩, trivial⟩ R h)
theorem tcall_append {l : Nat} {xs : List AV} {v : AV} (hl : σ[l]? = some (.list xs)) (hz : xs.length ≤ sizeLine) (h : Q .none (σ.set l (.list (xs ++ [v])))) : TCall W n (.stat (.builtin "list.append")) [.ref l, v] Q σ := by
  intro A P as s fv vals hr hi hf hv R Qc E c
  cases hf
  obtain ⟨u, w, rfl, h1, h2⟩ := VsRel.x2 hv
  obtain ⟨a, o, rfl, e1, e2, r⟩ := R.ref h1 hl
  obtain ⟨vs, nn, rfl, hvs⟩ := r
  refine wpAny_list_append_plain ⟨nn, e2⟩ (fun h' hp sb => ?_) (by simp [hvs.length, hz])
  obtain ⟨n', e'⟩ := hp
  refine c .none .none h' s.toks as _ (Ext.refl _) rfl (R.set (ao' := .list (xs ++ [v])) e1 hl rfl rfl sb e' ⟨vs ++ [w], n', by simp, hvs.append ⟨h2, trivial⟩⟩) h
end
end Mine
end
section
namespace Mine
open PySem

theorem ints_of {as : List Addr} : ∀ {vs : List Value} {ns : List Int}, VsRel as vs (ns.map AV.int) → PyProof.Rows.IntsAre vs ns
  | [], [], _ => .nil
  | v :: vs, k :: ns, ⟨⟨t, e⟩, r⟩ => by subst e; exact .cons k t (ints_of r)
  | [], _ :: _, h => h.elim
  | _ :: _, [], h => h.elim

section
variable {W : Wd} {n : Nat} {sc : Scope} {m : Locs} {σ : AH} {Q : AV → AH → Prop} {pos : Pos}

theorem tbin_addL {l r : Nat} {xs ys : List AV} (hl : σ[l]? = some (.list xs)) (hr' : σ[r]? = some (.list ys)) (hz : xs.length + ys.length ≤ sizeLine) (h : Q (.ref σ.length) (σ ++ [.list (xs ++ ys)])) : TBin W n .Add (.ref l) (.ref r) Q σ := by
  intro A P as s va vb hr hi h1 h2 R Qc E c
  obtain ⟨a, o, rfl, e1, e2, r1⟩ := R.ref h1 hl
  obtain ⟨b, o2, rfl, f1, f2, r2⟩ := R.ref h2 hr'
  obtain ⟨vs, n1, rfl, hv⟩ := r1
  obtain ⟨us, n2, rfl, hu⟩ := r2
  refine PySem.P.add_list e2 f2 ?_ (by simp [hv.length, hu.length, hz])
  exact c _ (.ref σ.length) _ s.toks (as ++ [s.heap.objs.size]) _ (Ext.snoc ..) (R.vnew _) (R.push (ao := .list (xs ++ ys)) rfl rfl ⟨vs ++ us, 0, by simp, (hv.append hu).ext (Ext.snoc ..)⟩) h
theorem foldl_reps {α : Type} (vs : List α) : ∀ k (acc : Array α), List.foldl (fun x1 x2 => x1 ++ x2) acc (List.replicate k vs.toArray) = acc ++ (List.replicate k vs).flatten.toArray
  | 0, acc => by simp
  | k + 1, acc => by
    rw [List.replicate_succ, List.foldl_cons, foldl_reps vs k, List.replicate_succ, List.flatten_cons]
    apply Array.ext'; simp
theorem VsRel.reps {as : List Addr} {vs : List Value} {xs : List AV} (h : VsRel as vs xs) : ∀ k, VsRel as (List.replicate k vs).flatten (List.replicate k xs).flatten
  | 0 => trivial
  | k + 1 => by simp only [List.replicate_succ, List.flatten_cons]; exact h.append (h.reps k)
theorem tbin_mulL {l : Nat} {xs : List AV} {k : Int} (hl : σ[l]? = some (.list xs)) (hlo : -(2 ^ 63 : Int) ≤ k) (hhi : k < 2 ^ 63) (hz : xs.length * k.toNat ≤ 2 ^ 24) (h : Q (.ref σ.length) (σ ++ [.list (List.replicate k.toNat xs).flatten])) : TBin W n .Mult (.ref l) (.int k) Q σ := by
  intro A P as s va vb hr hi h1 h2 R Qc E c
  obtain ⟨a, o, rfl, e1, e2, r1⟩ := R.ref h1 hl
  obtain ⟨t, rfl⟩ := h2
  obtain ⟨vs, n1, rfl, hv⟩ := r1
  have fin : ∀ its : Array Value, its = (List.replicate k.toNat vs).flatten.toArray → Qc (.ref s.heap.objs.size) { s with heap := s.heap.push { cls := .type "list", data := .seq its } } := by
    rintro its rfl
    exact c _ (.ref σ.length) _ s.toks (as ++ [s.heap.objs.size]) _ (Ext.snoc ..) (R.vnew _) (R.push (ao := .list (List.replicate k.toNat xs).flatten) rfl rfl ⟨(List.replicate k.toNat vs).flatten, 0, rfl, (hv.reps _).ext (Ext.snoc ..)⟩) h
  have hsz : vs.toArray.size * k.toNat ≤ 2 ^ 24 := by simpa [hv.length] using hz
  refine wpAny_binaryOp_repeat_ref (T := "list") (U := "int") (by decide) ⟨_, e2, rfl⟩ (fun s' => typeIs_int s' k t) noFill_list_mul F.fills_int_mul F.slot_int_rmul repeat_list F.slot_int_index.lookup
    (call_meets F.slot_int_rmul (typeIs_int s k t) F.entry_int_rmul (F.args_int_rmul_2 _ _) (int___rmul___int_list k t a vs.toArray n1)
      ⟨e2, rfl, ⟨_, e2, rfl⟩, call_meets F.slot_list_mul ⟨_, e2, rfl⟩ F.entry_list_mul (F.args_list_mul_2 _ _)
        (AutoListH.list___mul___list_int_3 a vs.toArray n1 k t (by simp [Builtin.List.listFitsIndex]; omega) (by omega) (by simp only [Builtin.List.listTooLong, sizeLine_eq]; exact fun q => absurd (of_decide_eq_true q) (by omega))) ⟨e2, fin _ ?_⟩⟩)
  by_cases q : vs.toArray.isEmpty = true
  · rw [if_pos q]
    have : vs = [] := by simpa using q
    subst this
    simp
  · rw [if_neg q, foldl_reps]; simp

/-! in -/
theorem tcmp_in {l : Nat} {ns : List Int} {k : Int} (hl : σ[l]? = some (.list (ns.map .int))) (h : Q (.bool (ns.any (· == k))) σ) : TCmp W n .In (.int k) (.ref l) Q σ := by
  intro A P as s va vb hr hi h1 h2 R Qc E c
  obtain ⟨a, o, rfl, e1, e2, r1⟩ := R.ref h2 hl
  obtain ⟨t, rfl⟩ := h1
  obtain ⟨vs, hL, hv⟩ := isList_of e2 r1
  exact PyProof.Rows.in_list_ints hL (ints_of hv) (c _ (.bool _) s.heap s.toks as σ (Ext.refl _) rfl R h)
theorem tcmp_notin {l : Nat} {ns : List Int} {k : Int} (hl : σ[l]? = some (.list (ns.map .int))) (h : Q (.bool (!ns.any (· == k))) σ) : TCmp W n .NotIn (.int k) (.ref l) Q σ := by
  intro A P as s va vb hr hi h1 h2 R Qc E c
  obtain ⟨a, o, rfl, e1, e2, r1⟩ := R.ref h2 hl
  obtain ⟨t, rfl⟩ := h1
  obtain ⟨vs, hL, hv⟩ := isList_of e2 r1
  exact PyProof.Rows.notin_list_ints hL (ints_of hv) (c _ (.bool _) s.heap s.toks as σ (Ext.refl _) rfl R h)

/-! is -/
def statIs : AV → Option Value
  | .none => some .none
  | .bool b => some (.bool b)
  | .stat (.type t) => some (.type t)
  | .stat (.builtin t) => some (.builtin t)
  | _ => none
theorem tcmp_is {x y : AV} {a b : Value} (hx : statIs x = some a) (hy : statIs y = some b) (hp : plainIs a b = true) (h : Q (.bool (a == b)) σ) : TCmp W n .Is x y Q σ := by
  intro A P as s va vb hr hi h1 h2 R Qc E c
  have e1 : va = a := by
    cases x with
    | none => cases hx; exact h1
    | bool b => cases hx; exact h1
    | stat u => cases u <;> first | (cases hx; exact h1) | cases hx
    | _ => cases hx
  have e2 : vb = b := by
    cases y with
    | none => cases hy; exact h2
    | bool b => cases hy; exact h2
    | stat u => cases u <;> first | (cases hy; exact h2) | cases hy
    | _ => cases hy
  subst e1 e2
  exact wpAny_is_plain hp (c _ (.bool _) s.heap s.toks as σ (Ext.refl _) rfl R h)
theorem tcmp_isNot {x y : AV} {a b : Value} (hx : statIs x = some a) (hy : statIs y = some b) (hp : plainIs a b = true) (h : Q (.bool (!(a == b))) σ) : TCmp W n .IsNot x y Q σ := by
  intro A P as s va vb hr hi h1 h2 R Qc E c
  have e1 : va = a := by
    cases x with
    | none => cases hx; exact h1
    | bool b => cases hx; exact h1
    | stat u => cases u <;> first | (cases hx; exact h1) | cases hx
    | _ => cases hx
  have e2 : vb = b := by
    cases y with
    | none => cases hy; exact h2
    | bool b => cases hy; exact h2
    | stat u => cases u <;> first | (cases hy; exact h2) | cases hy
    | _ => cases hy
  subst e1 e2
  exact wpAny_isNot_plain hp (c _ (.bool _) s.heap s.toks as σ (Ext.refl _) rfl R h)

/-! deep equality -/
mutual
inductive Den (σ : AH) : AV → PyData → Prop
  | none : Den σ .none .none
  | bool (b) : Den σ (.bool b) (.bool b)
  | int (i) : Den σ (.int i) (.int i)
  | str (x) : Den σ (.str x) (.str x)
  | list {i xs ds} : σ[i]? = some (.list xs) → DenAll σ xs ds → Den σ (.ref i) (.list ds)
  | tuple {i xs ds} : σ[i]? = some (.tuple xs) → DenAll σ xs ds → Den σ (.ref i) (.tuple ds)
inductive DenAll (σ : AH) : List AV → List PyData → Prop
  | nil : DenAll σ [] []
  | cons {x xs d ds} : Den σ x d → DenAll σ xs ds → DenAll σ (x :: xs) (d :: ds)
end
mutual
theorem Den.reads {P : Pr} {as : List Addr} {h : Heap} (R : Rep W P as σ h) : ∀ {x : AV} {d : PyData}, Den σ x d → ∀ {v : Value}, VRel as v x → ∃ bs, Reads h v d bs
  | _, _, .none, v, hv => by cases hv; exact ⟨_, .none⟩
  | _, _, .bool b, v, hv => by cases hv; exact ⟨_, .bool b⟩
  | _, _, .int i, v, hv => by obtain ⟨t, rfl⟩ := hv; exact ⟨_, .int i t⟩
  | _, _, .str x, v, hv => by obtain ⟨t, rfl⟩ := hv; exact ⟨_, .str x t⟩
  | _, _, .list e ha, v, hv => by
    obtain ⟨a, o, rfl, e1, e2, r⟩ := R.ref hv e
    obtain ⟨vs, k, rfl, hvs⟩ := r
    obtain ⟨bs, hb⟩ := DenAll.reads R ha hvs
    exact ⟨_, .list e2 rfl rfl (by simpa using hb)⟩
  | _, _, .tuple e ha, v, hv => by
    obtain ⟨a, o, rfl, e1, e2, r⟩ := R.ref hv e
    obtain ⟨vs, k, rfl, hvs⟩ := r
    obtain ⟨bs, hb⟩ := DenAll.reads R ha hvs
    exact ⟨_, .tuple e2 rfl rfl (by simpa using hb)⟩
theorem DenAll.reads {P : Pr} {as : List Addr} {h : Heap} (R : Rep W P as σ h) : ∀ {xs : List AV} {ds : List PyData}, DenAll σ xs ds → ∀ {vs : List Value}, VsRel as vs xs → ∃ bs, ReadsAll h vs ds bs
  | _, _, .nil, [], _ => ⟨_, .nil⟩
  | _, _, .cons hd ha, v :: vs, ⟨h1, h2⟩ => by
    obtain ⟨b1, r1⟩ := Den.reads R hd h1
    obtain ⟨b2, r2⟩ := DenAll.reads R ha h2
    exact ⟨_, .cons r1 r2⟩
end
theorem tcmp_eqD {x y : AV} {d e : PyData} (hx : Den σ x d) (hy : Den σ y e) (c1 : d.canLay0 = true) (c2 : e.canLay0 = true) (hd : d.depth ≤ 100) (h : Q (.bool (PyData.eqv d e)) σ) : TCmp W n .Eq x y Q σ := by
  intro A P as s va vb hr hi h1 h2 R Qc E c
  obtain ⟨b1, r1⟩ := Den.reads R hx h1
  obtain ⟨b2, r2⟩ := Den.reads R hy h2
  exact SeqAt.compareEq_reads r1 r2 c1 c2 (by have := hr.2.2; omega) (c _ (.bool _) s.heap s.toks as σ (Ext.refl _) rfl R h)
theorem tcmp_neD {x y : AV} {d e : PyData} (hx : Den σ x d) (hy : Den σ y e) (c1 : d.canLay0 = true) (c2 : e.canLay0 = true) (hd : d.depth ≤ 100) (h : Q (.bool (!PyData.eqv d e)) σ) : TCmp W n .NotEq x y Q σ := by
  intro A P as s va vb hr hi h1 h2 R Qc E c
  obtain ⟨b1, r1⟩ := Den.reads R hx h1
  obtain ⟨b2, r2⟩ := Den.reads R hy h2
  exact SeqAt.compareNe_reads r1 r2 c1 c2 (by have := hr.2.2; omega) (c _ (.bool _) s.heap s.toks as σ (Ext.refl _) rfl R h)

/-! built-in calls -/
theorem tcall_abs {a : Int} (h : Q (.int (if a < 0 then -a else a)) σ) : TCall W n (.stat (.builtin "abs")) [.int a] Q σ := by
  intro A P as s fv vals hr hi hf hv R Qc E c
  cases hf
  obtain ⟨v, rfl, ⟨t, e⟩⟩ := VsRel.x1 hv
  subst e
  exact PyProof.Rows.call_abs_int fun u tk => c _ (.int _) s.heap tk as σ (Ext.refl _) ⟨_, rfl⟩ R h
theorem tcall_max2 {a b : Int} (h : Q (.int (max a b)) σ) : TCall W n (.stat (.builtin "max")) [.int a, .int b] Q σ := by
  intro A P as s fv vals hr hi hf hv R Qc E c
  cases hf
  obtain ⟨v, w, rfl, ⟨t, e⟩, ⟨u, e'⟩⟩ := VsRel.x2 hv
  subst e e'
  refine max_two_ints hr.1 fun h' tk hk => ?_
  refine c _ (.int (max a b)) h' tk as σ (Ext.refl _) ?_ (R.grow hk) h
  by_cases q : b > a
  · rw [if_pos q]; exact ⟨u, by rw [Int.max_eq_right (by omega)]⟩
  · rw [if_neg q]; exact ⟨t, by rw [Int.max_eq_left (by omega)]⟩
theorem tcall_min2 {a b : Int} (h : Q (.int (min a b)) σ) : TCall W n (.stat (.builtin "min")) [.int a, .int b] Q σ := by
  intro A P as s fv vals hr hi hf hv R Qc E c
  cases hf
  obtain ⟨v, w, rfl, ⟨t, e⟩, ⟨u, e'⟩⟩ := VsRel.x2 hv
  subst e e'
  refine min_two_ints hr.1 fun h' tk hk => ?_
  refine c _ (.int (min a b)) h' tk as σ (Ext.refl _) ?_ (R.grow hk) h
  by_cases q : b < a
  · rw [if_pos q]; exact ⟨u, by rw [Int.min_eq_right (by omega)]⟩
  · rw [if_neg q]; exact ⟨t, by rw [Int.min_eq_left (by omega)]⟩
theorem tcall_list {l : Nat} {xs : List AV} (hl : σ[l]? = some (.list xs)) (hz : xs.length ≤ sizeLine) (h : Q (.ref σ.length) (σ ++ [.list xs])) : TCall W n (.stat (.type "list")) [.ref l] Q σ := by
  intro A P as s fv vals hr hi hf hv R Qc E c
  cases hf
  obtain ⟨v, rfl, h1⟩ := VsRel.x1 hv
  obtain ⟨a, o, rfl, e1, e2, r⟩ := R.ref h1 hl
  obtain ⟨vs, k, rfl, hvs⟩ := r
  refine call_list_seq a (.inl rfl) e2 rfl rfl (fun h' c' hk e' => ?_) (by simp [hvs.length, hz])
  exact c _ (.ref σ.length) h' s.toks (as ++ [s.heap.objs.size]) _ (Ext.snoc ..) (R.vnew _) (R.alloc (ao := .list xs) (get?_size_none _) hk e' ⟨vs, c', rfl, hvs.ext (Ext.snoc ..)⟩ rfl) h
theorem tcall_range1 {b : Int} (h : Q (.ref σ.length) (σ ++ [.range 0 b 1])) : TCall W n (.stat (.type "range")) [.int b] Q σ := by
  intro A P as s fv vals hr hi hf hv R Qc E c
  cases hf
  obtain ⟨v, rfl, ⟨t, e⟩⟩ := VsRel.x1 hv
  subst e
  exact call_range_1 (c _ (.ref σ.length) _ _ (as ++ [s.heap.objs.size]) _ (Ext.snoc ..) (R.vnew _) (R.push (ao := .range 0 b 1) rfl rfl ⟨_, _, _, rfl⟩) h)
theorem tcall_range2 {a b : Int} (h : Q (.ref σ.length) (σ ++ [.range a b 1])) : TCall W n (.stat (.type "range")) [.int a, .int b] Q σ := by
  intro A P as s fv vals hr hi hf hv R Qc E c
  cases hf
  obtain ⟨v, w, rfl, ⟨t, e⟩, ⟨u, e'⟩⟩ := VsRel.x2 hv
  subst e e'
  exact call_range_2 (c _ (.ref σ.length) _ _ (as ++ [s.heap.objs.size]) _ (Ext.snoc ..) (R.vnew _) (R.push (ao := .range a b 1) rfl rfl ⟨_, _, _, rfl⟩) h)
theorem tcall_range3 {a b k : Int} (hk : k ≠ 0) (hp : Builtin.divisionGoesByPylong (b - a) k = false) (h : Q (.ref σ.length) (σ ++ [.range a b k])) : TCall W n (.stat (.type "range")) [.int a, .int b, .int k] Q σ := by
  intro A P as s fv vals hr hi hf hv R Qc E c
  cases hf
  obtain ⟨v, w, x, rfl, ⟨t, e⟩, ⟨u, e'⟩, ⟨u', e''⟩⟩ := VsRel.x3 hv
  subst e e' e''
  exact call_range_3 hk (c _ (.ref σ.length) _ _ (as ++ [s.heap.objs.size]) _ (Ext.snoc ..) (R.vnew _) (R.push (ao := .range a b k) rfl rfl ⟨_, _, _, rfl⟩) h) (.inl hp)
theorem tcall_type_list {l : Nat} {xs : List AV} (hl : σ[l]? = some (.list xs)) (h : Q (.stat (.type "list")) σ) : TCall W n (.stat (.type "type")) [.ref l] Q σ := by
  intro A P as s fv vals hr hi hf hv R Qc E c
  cases hf
  obtain ⟨v, rfl, h1⟩ := VsRel.x1 hv
  obtain ⟨a, o, rfl, e1, e2, r⟩ := R.ref h1 hl
  obtain ⟨vs, k, rfl, hvs⟩ := r
  exact call_type_of (Tx := "list") ⟨_, e2, rfl⟩ (by decide) (c _ (.stat (.type "list")) s.heap s.toks as σ (Ext.refl _) rfl R h)
theorem tcall_type_int {i : Int} (h : Q (.stat (.type "int")) σ) : TCall W n (.stat (.type "type")) [.int i] Q σ := by
  intro A P as s fv vals hr hi hf hv R Qc E c
  cases hf
  obtain ⟨v, rfl, ⟨t, e⟩⟩ := VsRel.x1 hv
  subst e
  exact call_type_of (Tx := "int") (typeIs_int s i t) (by decide) (c _ (.stat (.type "int")) s.heap s.toks as σ (Ext.refl _) rfl R h)
end
end Mine
end
section
namespace Mine
open PySem

def relabelS (scope sc : Scope) : Scope := { scope with names := scope.names.map fun (p : Str × NameKind) => if (p.2 == .free && sc.names.lookup p.1 == some .cell) then (p.1, NameKind.cell) else (p.1, p.2) }
theorem relabel_eq {env : Env} {sc : Scope} (he : EnvIs env sc) (scope : Scope) : relabel scope env = relabelS scope sc := by
  unfold relabel relabelS Env.kindOf
  rw [he.sc, he.kind]
  congr 1
  apply List.map_congr_left
  intro p _
  obtain ⟨x, k⟩ := p
  have : ((ScopeKind.function : ScopeKind) == .function) = true := rfl
  simp only [this, Bool.and_true]
theorem lookup_map_key {f : Str → NameKind → NameKind} (y : Str) : ∀ l : List (Str × NameKind), (l.map fun p => (p.1, f p.1 p.2)).lookup y = (l.lookup y).map (f y)
  | [] => rfl
  | (x, k) :: r => by
    simp only [List.map_cons, List.lookup_cons]
    cases q : y == x with
    | true => have := beq_iff_eq.mp q; subst this; simp
    | false => simp [lookup_map_key y r]
theorem lookup_relabelS (scope sc : Scope) (y : Str) : (relabelS scope sc).names.lookup y = (scope.names.lookup y).map fun k => if (k == .free && sc.names.lookup y == some .cell) then NameKind.cell else k := by
  unfold relabelS
  have : (scope.names.map fun (p : Str × NameKind) => if (p.2 == .free && sc.names.lookup p.1 == some .cell) then (p.1, NameKind.cell) else (p.1, p.2)) = scope.names.map fun p => (p.1, if (p.2 == .free && sc.names.lookup p.1 == some .cell) then NameKind.cell else p.2) := by
    apply List.map_congr_left; intro p _; split <;> rfl
  show (scope.names.map _).lookup y = _
  rw [this]
  exact lookup_map_key (f := fun x k => if (k == .free && sc.names.lookup x == some .cell) then NameKind.cell else k) y scope.names
def mC (scope : Scope) (x : Str) (v : AV) (m : Locs) : Locs := (x, v) :: m.filter fun p => scope.names.lookup p.1 == some .free
theorem lookup_filter_key (f : Str → Bool) (y : Str) : ∀ m : Locs, (m.filter fun p => f p.1).lookup y = if f y then m.lookup y else none
  | [] => by simp
  | (x, v) :: r => by
    simp only [List.filter_cons, List.lookup_cons]
    cases q : y == x with
    | true =>
      have := beq_iff_eq.mp q
      subst this
      cases hf : f y with
      | true => simp
      | false => simp [lookup_filter_key f y r, hf]
    | false =>
      cases hf : f x with
      | true => simp [List.lookup_cons, q, lookup_filter_key f y r]
      | false => simp [lookup_filter_key f y r]

/-- what a comprehension's own names must be -/
def compOk (sc scope : Scope) (x : Str) (m : Locs) : Bool :=
  scope.kind == .function && scope.names.lookup x == some .local && scope.names.all fun p => match p.2 with
    | .local => scope.names.lookup p.1 == some .local
    | .free => (m.lookup p.1).isSome && (sc.names.lookup p.1 == some .cell || sc.names.lookup p.1 == some .free)
    | .cell => false
    | _ => true

def closL (env : Env) : List (Str × NameKind) → List (Str × Addr) → List (Str × Addr)
  | [], acc => acc
  | (x, k) :: r, acc => if k == .free then closL env r ((x, (env.cells.lookup x).getD 0) :: acc) else closL env r acc
theorem closL_eq {env : Env} (f : Str × NameKind → List (Str × Addr) → Sem (ForInStep (List (Str × Addr)))) (hf : ∀ x k acc, f (x, k) acc = if k == .free then (do let c ← cellOf env x; pure (.yield ((x, c) :: acc))) else pure (.yield acc)) :
    ∀ (l : List (Str × NameKind)) (acc : List (Str × Addr)), (∀ p ∈ l, p.2 = .free → (env.cells.lookup p.1).isSome = true) → forIn l acc f = pure (closL env l acc)
  | [], _, _ => rfl
  | (x, k) :: r, acc, h => by
    rw [List.forIn_cons, hf]
    unfold closL
    cases q : k == NameKind.free with
    | true =>
      simp only [if_true]
      obtain ⟨c, hc⟩ := Option.isSome_iff_exists.mp (h (x, k) (.head _) (beq_iff_eq.mp q))
      have : cellOf env x = pure c := by unfold cellOf; rw [hc]
      rw [this, hc]
      show forIn r ((x, c) :: acc) f = _
      exact closL_eq f hf r _ fun p hp => h p (.tail _ hp)
    | false =>
      simp only [Bool.false_eq_true, if_false]
      show forIn r acc f = _
      exact closL_eq f hf r _ fun p hp => h p (.tail _ hp)
theorem closure_eq {env : Env} {scope : Scope} (h : ∀ p ∈ scope.names, p.2 = .free → (env.cells.lookup p.1).isSome = true) : closureFor scope env = pure (closL env scope.names []) := by
  unfold closureFor
  have := closL_eq (env := env) (fun p acc => if p.2 == .free then (do let c ← cellOf env p.1; pure (.yield ((p.1, c) :: acc))) else pure (.yield acc)) (fun _ _ _ => rfl) scope.names [] h
  show (forIn scope.names [] _ >>= fun cs => pure cs) = _
  have e : (forIn scope.names ([] : List (Str × Addr)) fun (p : Str × NameKind) (cs : List (Str × Addr)) => (do
      if p.2 == .free then do let c ← cellOf env p.1; pure (ForInStep.yield ((p.1, c) :: cs)) else pure (ForInStep.yield cs) : Sem (ForInStep (List (Str × Addr))))) = pure (closL env scope.names []) := this
  rw [show (forIn scope.names ([] : List (Str × Addr)) _ : Sem (List (Str × Addr))) = pure (closL env scope.names []) from e]
  rfl
theorem closL_lookup {env : Env} (y : Str) : ∀ (l : List (Str × NameKind)) (acc : List (Str × Addr)), (∀ c, acc.lookup y = some c → env.cells.lookup y = some c) → (acc.lookup y).isSome = true ∨ (y, NameKind.free) ∈ l → (env.cells.lookup y).isSome = true → (closL env l acc).lookup y = env.cells.lookup y
  | [], acc, h, h2, h3 => by
    rcases h2 with h2 | h2
    · obtain ⟨c, hc⟩ := Option.isSome_iff_exists.mp h2
      show acc.lookup y = _
      rw [hc, h c hc]
    · cases h2
  | (x, k) :: r, acc, h, h2, h3 => by
    unfold closL
    have step : ∀ acc', (∀ c, acc'.lookup y = some c → env.cells.lookup y = some c) → (acc'.lookup y).isSome = true ∨ (y, NameKind.free) ∈ r → (closL env r acc').lookup y = env.cells.lookup y := fun acc' a b => closL_lookup y r acc' a b h3
    cases q : k == NameKind.free with
    | true =>
      simp only [if_true]
      by_cases e : y = x
      · subst e
        obtain ⟨c, hc⟩ := Option.isSome_iff_exists.mp h3
        exact step _ (fun c' h' => by simp [List.lookup_cons, hc] at h'; rw [hc, h']) (.inl (by simp [List.lookup_cons]))
      · have hb : (y == x) = false := by simpa using e
        refine step _ (fun c' h' => h c' (by simpa [List.lookup_cons, hb] using h')) ?_
        rcases h2 with h2 | h2
        · exact .inl (by simpa [List.lookup_cons, hb] using h2)
        · rcases List.mem_cons.mp h2 with z | z
          · cases z; exact absurd rfl e
          · exact .inr z
    | false =>
      simp only [Bool.false_eq_true, if_false]
      refine step _ h ?_
      rcases h2 with h2 | h2
      · exact .inl h2
      · rcases List.mem_cons.mp h2 with z | z
        · cases z; exact absurd q (by decide)
        · exact .inr z
theorem mem_of_lookupK : ∀ {l : List (Str × NameKind)} {y : Str} {k : NameKind}, l.lookup y = some k → (y, k) ∈ l
  | (x, k') :: r, y, k, h => by
    rw [List.lookup_cons] at h
    cases q : y == x with
    | true => rw [q] at h; cases h; rw [beq_iff_eq.mp q]; exact .head _
    | false => rw [q] at h; exact .tail _ (mem_of_lookupK h)

section
variable {W : Wd} {n : Nat} {sc : Scope} {m : Locs} {σ : AH} {pos : Pos}
/-- the comprehension's tests -/
def TIfs (W : Wd) (n : Nat) (sc : Scope) (m : Locs) (ifs : List Expr) (QB : Bool → AH → Prop) (σ : AH) : Prop := match ifs with
  | [] => QB true σ
  | c :: cs => TT W n sc m c (fun b σ₁ => if b then TIfs W n sc m cs QB σ₁ else QB false σ₁) σ
theorem ifs_false {A : Around} {env : Env} {s : Shared} {Qc : Bool → Shared → Prop} {E : Value → Shared → Prop} (h : Qc false s) : ∀ ifs : List Expr,
    wpAny (model W.prog W.w) A (forIn ifs false fun c r => if r = true then do let ok ← isTrue c env (eval c env); pure (ForInStep.yield ok) else pure (ForInStep.yield r)) Qc E s
  | [] => wpAny_pure h
  | c :: cs => by
    rw [List.forIn_cons]
    simp only [Bool.false_eq_true, if_false]
    exact wpAny_bind (wpAny_pure (ifs_false h cs))
theorem ifs_run {A : Around} {env : Env} {P : Pr} : ∀ (ifs : List Expr) {QB : Bool → AH → Prop} {σ : AH} {as : List Addr} {s : Shared} {Qc : Bool → Shared → Prop} {E : Value → Shared → Prop}, TIfs W n sc m ifs QB σ →
    Room n A → EnvIs env sc → W.In P → Loc P env m as → Rep W P as σ s.heap →
    (∀ b h' tk' as' σ', Ext as as' → Rep W P as' σ' h' → QB b σ' → Qc b { s with heap := h', toks := tk' }) →
    wpAny (model W.prog W.w) A (forIn ifs true fun c r => if r = true then do let ok ← isTrue c env (eval c env); pure (ForInStep.yield ok) else pure (ForInStep.yield r)) Qc E s
  | [], QB, σ, as, s, Qc, E, h, hr, he, hi, hl, R, c => wpAny_pure (c true s.heap s.toks as σ (Ext.refl _) R h)
  | e :: es, QB, σ, as, s, Qc, E, h, hr, he, hi, hl, R, c => by
    rw [List.forIn_cons]
    simp only [if_true]
    refine wpAny_bind (wpAny_bind (h A env P as s hr he hi hl R _ E fun b h₁ tk₁ as₁ σ₁ x₁ R₁ q₁ => wpAny_pure ?_))
    cases b with
    | true => exact ifs_run es q₁ hr he hi (hl.ext x₁) R₁ fun b h₂ tk₂ as₂ σ₂ x₂ R₂ q₂ => c b h₂ tk₂ as₂ σ₂ (x₁.trans x₂) R₂ q₂
    | false => exact ifs_false (c false h₁ tk₁ as₁ σ₁ x₁ R₁ q₁) es

theorem Rep.move3 {P : Pr} {as : List Addr} {h h' : Heap} {C D I : Addr} {oC oD oI oC' oD' oI' : Obj} (R : Rep W (((P.add C oC).add D oD).add I oI) as σ h) (bC : C ∉ as) (bD : D ∉ as) (bI : I ∉ as) (hP : ∀ b y, P b y → h'.get? b = some y) (gC : h'.get? C = some oC') (gD : h'.get? D = some oD') (gI : h'.get? I = some oI') (ha : ∀ b ∈ as, ∀ y, h.get? b = some y → h'.get? b = some y) : Rep W (((P.add C oC').add D oD').add I oI') as σ h' := by
  refine R.move (fun b y q => ?_) (fun b y hb q => ?_) ha
  · rcases q with ((q | ⟨rfl, rfl⟩) | ⟨rfl, rfl⟩) | ⟨rfl, rfl⟩
    · exact hP b y q
    · exact gC
    · exact gD
    · exact gI
  · rcases q with ((q | ⟨rfl, rfl⟩) | ⟨rfl, rfl⟩) | ⟨rfl, rfl⟩
    · exact .inl (.inl (.inl q))
    · exact absurd hb bC
    · exact absurd hb bD
    · exact absurd hb bI
theorem Rep.into3 {P : Pr} {as : List Addr} {h : Heap} {C D I : Addr} {oC oD oI : Obj} (R : Rep W P as σ h) (bC : C ∉ as) (bD : D ∉ as) (bI : I ∉ as) (gC : h.get? C = some oC) (gD : h.get? D = some oD) (gI : h.get? I = some oI) : Rep W (((P.add C oC).add D oD).add I oI) as σ h := by
  refine R.move (fun b y q => ?_) (fun b y hb q => ?_) fun b hb y e => e
  · rcases q with ((q | ⟨rfl, rfl⟩) | ⟨rfl, rfl⟩) | ⟨rfl, rfl⟩
    · exact R.keep _ _ q
    · exact gC
    · exact gD
    · exact gI
  · rcases q with ((q | ⟨rfl, rfl⟩) | ⟨rfl, rfl⟩) | ⟨rfl, rfl⟩
    · exact q
    · exact absurd hb bC
    · exact absurd hb bD
    · exact absurd hb bI
/-- the new list of a comprehension becomes an object of the abstract heap -/
theorem Rep.done3 {P : Pr} {as : List Addr} {h h' : Heap} {C D I : Addr} {oC oI : Obj} {vs : List Value} {c : Nat} {acc : List AV} (R : Rep W (((P.add C oC).add D { cls := .type "list", data := .seq (List.toArray vs) c }).add I oI) as σ h) (xb : ∀ b o, b ≠ I → h.get? b = some o → h'.get? b = some o) (bD : D ∉ as) (bI : I ∉ as) (pI : ∀ o, ¬ P I o) (pD : ∀ o, ¬ P D o) (dID : I ≠ D) (va : VsRel as vs acc) : Rep W P (as ++ [D]) (σ ++ [.list acc]) h' := by
  have gD₂ : h'.get? D = some { cls := .type "list", data := .seq (List.toArray vs) c } := xb _ _ (Ne.symm dID) (R.keep _ _ (.inl (.inr ⟨rfl, rfl⟩)))
  refine ⟨by simp [R.len], ?_, fun b y q => xb b y (fun z => pI y (z ▸ q)) (R.keep _ _ (.inl (.inl (.inl q)))), fun j b bo e1 e2 => ?_⟩
  · rw [List.nodup_append]
    exact ⟨R.nd, by simp, fun y hy z hz e => by simp at hz; exact bD (hz ▸ e ▸ hy)⟩
  · rcases Nat.lt_trichotomy j as.length with q | q | q
    · rw [List.getElem?_append_left q] at e1
      rw [List.getElem?_append_left (R.len ▸ q)] at e2
      obtain ⟨y, y1, y2, y3, y4⟩ := R.obj j b bo e1 e2
      have hb := List.mem_of_getElem? e1
      exact ⟨y, xb b y (fun z => bI (z ▸ hb)) y1, y2.ext (Ext.snoc ..), fun hm o' q => y3 hm o' (.inl (.inl (.inl q))), y4⟩
    · subst q
      have h1' : b = D := by simpa using e1.symm
      have h2' : bo = .list acc := by rw [R.len] at e2; simpa using e2.symm
      subst h1' h2'
      exact ⟨_, gD₂, ⟨vs, c, rfl, va.ext (Ext.snoc ..)⟩, fun _ => pD, fun q => by cases q⟩
    · rw [List.getElem?_eq_none (by rw [List.length_append, List.length_singleton]; omega)] at e1; cases e1
theorem comp_loop {elt iter : Expr} {x : Str} {px : Pos} {ifs : List Expr} {scope csc : Scope} {cpos : Pos} {A : Around} {cenv : Env} {P : Pr} {as : List Addr} {s : Shared} {I D : Addr} {St : Nat → Obj → Prop} {len : Nat} {It : Nat → AV} {J : Nat → List AV → AH → Prop}
    {oI oC : Obj} {mm : Str → Option Value} {mo : AV → Locs} {R : Result → Shared → Prop} (hlen : len ≤ sizeLine)
    (T : Turns W A as I St len It fun i σ => ∃ acc, J i acc σ) (hr : Room n A) (he : EnvIs cenv csc) (hi : W.In P) (hx : csc.names.lookup x = some .local)
    (hlc : ∀ v av oC' mm' as' P', VRel as' v av → NsObj oC' mm' → mm' x = some v → P' cenv.locals oC' → (∀ a o, P a o → P' a o) → Ext as as' → Loc P' cenv (mo av) as')
    (R0 : Rep W P as σ s.heap) (gI : s.heap.get? I = some oI) (gC : s.heap.get? cenv.locals = some oC) (nsC : NsObj oC mm) (gD : s.heap.PlainList D #[]) (st0 : St 0 oI)
    (nI : W.H.get? I = none) (nC : W.H.get? cenv.locals = none) (nD : W.H.get? D = none) (aI : I ∉ as) (aC : cenv.locals ∉ as) (aD : D ∉ as) (pI : ∀ o, ¬ P I o) (pC : ∀ o, ¬ P cenv.locals o) (pD : ∀ o, ¬ P D o) (dIC : I ≠ cenv.locals) (dID : I ≠ D) (dCD : cenv.locals ≠ D)
    (j0 : J 0 [] σ)
    (turn : ∀ i acc σ', i < len → J i acc σ' → TIfs W n csc (mo (It i)) ifs (fun b σ₁ => if b then TE W n csc (mo (It i)) elt (fun v σ₂ => J (i + 1) (acc ++ [v]) σ₂) σ₁ else J (i + 1) acc σ₁) σ')
    (fin : ∀ h' tk' as' σ' acc oC' mm', Ext as as' → NsObj oC' mm' → h'.get? cenv.locals = some oC' → D ∉ as' → Rep W P (as' ++ [D]) (σ' ++ [.list acc]) h' → cenv.locals ∉ as' ++ [D] → J len acc σ' → R (.ok .next) { s with heap := h', toks := tk' }) :
    codeAny (model W.prog W.w) A (.compLoop (.ListComp elt [⟨.Name x px, iter, ifs, 0⟩] scope cpos) 0 (.ref I) (.ref D) cenv) R s := by
  let C := cenv.locals
  refine codeAny_compLoop_tests (fun k s' => ∃ i h' tk' as' σ' acc oI' oC' oD' mm' vs c', i ≤ len ∧ acc.length ≤ i ∧ k = len + 1 - i ∧ s' = { s with heap := h', toks := tk' } ∧ Ext as as' ∧ NsObj oC' mm' ∧ oD' = ({ cls := .type "list", data := .seq (List.toArray vs) c' } : Obj) ∧ VsRel as' vs acc ∧
      Rep W (((P.add C oC').add D oD').add I oI') as' σ' h' ∧ J i acc σ' ∧ St i oI') ?_ (len + 1) ?_
  · rintro k s' ⟨i, h₁, tk₁, as₁, σ₁, acc, oI₁, oC₁, oD₁, mm₁, vs, c₁, hle, hal, rfl, rfl, x₁, ns₁, rfl, va₁, R₁, j₁, st₁⟩
    have bI₁ : I ∉ as₁ := R₁.off (.inr ⟨rfl, rfl⟩) nI
    have bC₁ : C ∉ as₁ := R₁.off (.inl (.inl (.inr ⟨rfl, rfl⟩))) nC
    have bD₁ : D ∉ as₁ := R₁.off (.inl (.inr ⟨rfl, rfl⟩)) nD
    have hi₁ : W.In (((P.add C oC₁).add D { cls := .type "list", data := .seq (List.toArray vs) c₁ }).add I oI₁) := hi.add.add.add
    by_cases hlt : i < len
    · refine T.item i _ as₁ σ₁ _ oI₁ _ _ hlt hi₁ x₁ R₁ ⟨acc, j₁⟩ (.inr ⟨rfl, rfl⟩) st₁ fun v h₂ tk₂ o₂ hv st₂ sb₂ e₂ => ?_
      have hk₂ : ∀ b o, b ≠ I → h₁.get? b = some o → h₂.get? b = some o := fun b o hb e => (sb₂.2 b hb).trans e
      have gC₂ : h₂.get? C = some oC₁ := hk₂ _ _ (Ne.symm dIC) (R₁.keep _ _ (.inl (.inl (.inr ⟨rfl, rfl⟩))))
      refine wpAny_assign_Name (wpAny_storeName_local (show cenv.scope.names.lookup x = some .local by rw [he.sc]; exact hx) (ns₁.ns gC₂) (fun h₃ ns₃ sb₃ => ?_) (by rw [he.sc, he.kind]; rfl))
      obtain ⟨oC₃, gC₃, nsC₃⟩ := NsObj.of ns₃
      have hk₃ : ∀ b o, b ≠ I → b ≠ C → h₁.get? b = some o → h₃.get? b = some o := fun b o h1 h2 e => (sb₃.2 b h2).trans (hk₂ b o h1 e)
      let P₃ : Pr := ((P.add C oC₃).add D { cls := .type "list", data := .seq (List.toArray vs) c₁ }).add I o₂
      have R₃ : Rep W P₃ as₁ σ₁ h₃ := R₁.move3 bC₁ bD₁ bI₁ (fun b y q => hk₃ b y (fun z => pI y (z ▸ q)) (fun z => pC y ((show b = cenv.locals from z) ▸ q)) (R₁.keep _ _ (.inl (.inl (.inl q))))) gC₃ (hk₃ _ _ (Ne.symm dID) (Ne.symm dCD) (R₁.keep _ _ (.inl (.inr ⟨rfl, rfl⟩)))) ((sb₃.2 _ dIC).trans e₂) fun b hb y e => hk₃ b y (fun z => bI₁ (z ▸ hb)) (fun z => bC₁ (z ▸ hb)) e
      have hi₃ : W.In P₃ := hi.add.add.add
      have loc₃ : Loc P₃ cenv (mo (It i)) as₁ := hlc v (It i) oC₃ _ as₁ P₃ hv nsC₃ (by simp) (.inl (.inl (.inr ⟨rfl, rfl⟩))) (fun a o q => .inl (.inl (.inl q))) x₁
      refine ifs_run ifs (turn i acc σ₁ hlt j₁) hr he hi₃ loc₃ R₃ fun ok h₄ tk₄ as₄ σ₄ x₄ R₄ q₄ => ?_
      cases ok with
      | false =>
        simp only [Bool.false_eq_true, if_false] at q₄ ⊢
        exact ⟨len + 1 - (i + 1), by omega, i + 1, h₄, tk₄, as₄, σ₄, acc, o₂, oC₃, _, _, vs, c₁, hlt, by omega, rfl, rfl, x₁.trans x₄, nsC₃, rfl, va₁.ext x₄, R₄, q₄, st₂⟩
      | true =>
        simp only [if_true] at q₄ ⊢
        refine q₄ A cenv P₃ as₄ _ hr he hi₃ (loc₃.ext x₄) R₄ _ _ fun u au h₅ tk₅ as₅ σ₅ x₅ r₅ R₅ q₅ => ?_
        have gD₅ : h₅.PlainList D (List.toArray vs) := ⟨c₁, R₅.keep _ _ (.inl (.inr ⟨rfl, rfl⟩))⟩
        refine wpAny_list_append_plain (s := { s with heap := h₅, toks := tk₅ }) gD₅ (fun h₆ hl₆ sb₆ => ?_) (by have := va₁.length; simp only [List.size_toArray]; omega)
        obtain ⟨c₆, e₆⟩ := hl₆
        have e₆' : h₆.get? D = some { cls := .type "list", data := .seq (List.toArray (vs ++ [u])) c₆ } := by rw [e₆]; simp
        have bI₅ : I ∉ as₅ := R₅.off (.inr ⟨rfl, rfl⟩) nI
        have bC₅ : C ∉ as₅ := R₅.off (.inl (.inl (.inr ⟨rfl, rfl⟩))) nC
        have bD₅ : D ∉ as₅ := R₅.off (.inl (.inr ⟨rfl, rfl⟩)) nD
        refine ⟨len + 1 - (i + 1), by omega, i + 1, h₆, tk₅, as₅, σ₅, acc ++ [au], o₂, oC₃, _, _, vs ++ [u], c₆, hlt, by simp; omega, rfl, rfl, (x₁.trans x₄).trans x₅, nsC₃, rfl, (va₁.ext (x₄.trans x₅)).append ⟨r₅, trivial⟩, ?_, q₅, st₂⟩
        exact R₅.move3 bC₅ bD₅ bI₅ (fun b y q => (sb₆.2 b fun z => pD y (z ▸ q)).trans (R₅.keep _ _ (.inl (.inl (.inl q))))) ((sb₆.2 _ dCD).trans (R₅.keep _ _ (.inl (.inl (.inr ⟨rfl, rfl⟩))))) e₆' ((sb₆.2 _ dID).trans (R₅.keep _ _ (.inr ⟨rfl, rfl⟩))) fun b hb y e => (sb₆.2 b fun z => bD₅ (z ▸ hb)).trans e
    · have hi' : i = len := by omega
      subst hi'
      refine T.done _ as₁ σ₁ _ oI₁ _ _ hi₁ x₁ R₁ ⟨acc, j₁⟩ (.inr ⟨rfl, rfl⟩) st₁ fun h₂ tk₂ xb => ?_
      have gC₂ : h₂.get? C = some oC₁ := xb _ _ (Ne.symm dIC) (R₁.keep _ _ (.inl (.inl (.inr ⟨rfl, rfl⟩))))
      refine fin h₂ tk₂ as₁ σ₁ acc oC₁ mm₁ x₁ ns₁ gC₂ bD₁ ?_ (by simp only [List.mem_append, List.mem_singleton, not_or]; exact ⟨bC₁, dCD⟩) j₁
      exact R₁.done3 xb bD₁ bI₁ pI pD dID va₁
  · obtain ⟨c₀, gD'⟩ := gD
    refine ⟨0, s.heap, s.toks, as, σ, [], oI, oC, _, mm, [], c₀, Nat.zero_le _, Nat.le_refl _, rfl, rfl, Ext.refl _, nsC, rfl, trivial, ?_, j0, st0⟩
    exact R0.into3 aC aD aI gC gD' gI
end
end Mine
end
section
namespace Mine
open PySem

section
variable {W : Wd} {n : Nat} {sc : Scope} {m : Locs} {σ : AH} {pos : Pos}
/-- what a comprehension goes over -/
def SrcOf (v : AV) (σ : AH) (len : Nat) (It : Nat → AV) (J : Nat → List AV → AH → Prop) : Prop :=
  (∃ l xs, v = .ref l ∧ len = xs.length ∧ (∀ i, i < len → It i = (xs[i]?).getD .none) ∧ σ[l]? = some (.list xs) ∧ ∀ i acc σ', i ≤ len → J i acc σ' → σ'[l]? = some (.list xs)) ∨
  (∃ r a b c, v = .ref r ∧ σ[r]? = some (.range a b c) ∧ Builtin.Range.rangeSize a b c = (len : Int) ∧ ∀ i, i < len → It i = .int (a + i * c))
def CompT (W : Wd) (n : Nat) (sc : Scope) (m : Locs) (scope : Scope) (x : Str) (ifs : List Expr) (elt : Expr) (Q : AV → AH → Prop) (v : AV) (σ : AH) : Prop :=
  ∃ len It J, SrcOf v σ len It J ∧ len ≤ sizeLine ∧ J 0 [] σ ∧
    (∀ i acc σ', i < len → J i acc σ' → TIfs W n (relabelS scope sc) (mC scope x (It i) m) ifs (fun b σ₁ => if b then TE W n (relabelS scope sc) (mC scope x (It i) m) elt (fun v σ₂ => J (i + 1) (acc ++ [v]) σ₂) σ₁ else J (i + 1) acc σ₁) σ') ∧
    ∀ acc σ', J len acc σ' → Q (.ref σ'.length) (σ' ++ [.list acc])

theorem Turns.congr {A : Around} {as : List Addr} {I : Addr} {St : Nat → Obj → Prop} {len : Nat} {It It' : Nat → AV} {J : Nat → AH → Prop} (T : Turns W A as I St len It J) (h : ∀ i, i < len → It' i = It i) : Turns W A as I St len It' J where
  item := fun i P as σ s o Qc E hlt hi x R j pI st c => T.item i P as σ s o Qc E hlt hi x R j pI st fun v h' tk' o' hv => c v h' tk' o' (by rw [h i hlt]; exact hv)
  done := T.done
  self := T.self
  owned := T.owned

theorem comp_loc {env : Env} {P P' : Pr} {as as' : List Addr} {C : Addr} {oC' : Obj} {mm' : Str → Option Value} {scope : Scope} {L : Locs} (he : EnvIs env sc) (hl : Loc P env m as)
    (hfree : ∀ p ∈ scope.names, p.2 = .free → (m.lookup p.1).isSome = true ∧ (sc.names.lookup p.1 = some .cell ∨ sc.names.lookup p.1 = some .free))
    (x' : Ext as as') (hPP : ∀ a o, P a o → P' a o) (ns' : NsObj oC' mm') (hPC : P' C oC')
    (hL : ∀ z av, L.lookup z = some av → scope.names.lookup z = some .local ∧ ∃ v, VRel as' v av ∧ mm' z = some v) :
    Loc P' { (newEnv scope C env.globals (closL env scope.names []) env.qual none .none (some env) builtinsNs) with scope := relabel scope env } (L ++ m.filter fun p => scope.names.lookup p.1 == some .free) as' := by
  refine ⟨⟨oC', mm', hPC, ns', fun y avy q1 q2 => ?_⟩, fun y avy q1 q2 => ?_⟩
  · have q2' : (relabel scope env).names.lookup y = some .local := q2
    rw [relabel_eq he, lookup_relabelS] at q2'
    rw [List.lookup_append] at q1
    cases e : L.lookup y with
    | some av =>
      rw [e] at q1
      cases q1
      exact (hL y _ e).2
    | none =>
      rw [e, Option.none_or, lookup_filter_key (fun z => scope.names.lookup z == some .free) y m] at q1
      split at q1
      · rename_i hf
        rw [beq_iff_eq.mp hf] at q2'
        simp at q2'
        split at q2' <;> cases q2'
      · cases q1
  · have q2' : (relabel scope env).names.lookup y = some .cell ∨ (relabel scope env).names.lookup y = some .free := q2
    rw [relabel_eq he, lookup_relabelS] at q2'
    rw [List.lookup_append] at q1
    cases e : L.lookup y with
    | some av =>
      rw [(hL y _ e).1] at q2'; simp at q2'
    | none =>
      rw [e, Option.none_or, lookup_filter_key (fun z => scope.names.lookup z == some .free) y m] at q1
      split at q1
      · rename_i hf
        have hmem := mem_of_lookupK (beq_iff_eq.mp hf)
        obtain ⟨f1, f2⟩ := hfree _ hmem rfl
        obtain ⟨u, c, o, h1, h2, h3, h4⟩ := hl.cel y avy q1 (by rw [he.sc]; exact f2)
        refine ⟨u, c, o, h1.ext x', ?_, hPP _ _ h3, h4⟩
        show (closL env scope.names []).lookup y = some c
        rw [closL_lookup y scope.names [] (fun c h => by simp at h) (.inr hmem) (by rw [h2]; rfl), h2]
      · cases q1
theorem comp_main {elt iter : Expr} {x : Str} {px : Pos} {ifs : List Expr} {scope : Scope} {cpos cp : Pos} {A : Around} {env : Env} {P : Pr} {as : List Addr} {s : Shared} {use : Option (Value → Sem Unit)} {Q : AV → AH → Prop} {Qc : Value → Shared → Prop} {E : Value → Shared → Prop}
    (hok : compOk sc scope x m = true) (hns : notSet iter = true) (h : TE W n sc m iter (CompT W n sc m scope x ifs elt Q) σ)
    (hr : Room n A) (he : EnvIs env sc) (hi : W.In P) (hl : Loc P env m as) (R : Rep W P as σ s.heap)
    (fin : ∀ (C D : Addr) h' tk' as' σ' oC mm, Ext as as' → NsObj oC mm → h'.get? C = some oC → Rep W P as' σ' h' → VRel as' (.ref D) (.ref (σ'.length - 1)) → C ∉ as' → (∀ o, ¬ P C o) → W.H.get? C = none → Q (.ref (σ'.length - 1)) σ' → compPost (model W.prog W.w) A E use Qc (.ref D) C (.ok .next) { s with heap := h', toks := tk' }) :
    wpAny (model W.prog W.w) A (comprehension (.ListComp elt [⟨.Name x px, iter, ifs, 0⟩] scope cpos) scope env cp (newList []) false (eval iter env) use) Qc E s := by
  unfold compOk at hok
  rw [Bool.and_eq_true, Bool.and_eq_true] at hok
  obtain ⟨⟨hk, hx⟩, hn⟩ := hok
  have hkind : scope.kind = .function := beq_iff_eq.mp hk
  have hx : scope.names.lookup x = some .local := beq_iff_eq.mp hx
  have hall := List.all_eq_true.mp hn
  have hfree : ∀ p ∈ scope.names, p.2 = .free → (m.lookup p.1).isSome = true ∧ (sc.names.lookup p.1 = some .cell ∨ sc.names.lookup p.1 = some .free) := fun p hp e => by
    have := hall p hp
    rw [e] at this
    simpa using this
  have hcells : ∀ p ∈ scope.names, p.2 = .free → (env.cells.lookup p.1).isSome = true := fun p hp e => by
    obtain ⟨h1, h2⟩ := hfree p hp e
    obtain ⟨av, hav⟩ := Option.isSome_iff_exists.mp h1
    obtain ⟨v, c, o, _, hc, _⟩ := hl.cel p.1 av hav (by rw [he.sc]; exact h2)
    rw [hc]; rfl
  refine wpAny_comprehension_free (g := ⟨.Name x px, iter, ifs, 0⟩) rfl (fun y => folded_not hns env y) (closure_eq hcells) hkind (fun p hp e => by have := hall p hp; rw [e] at this; simpa using this) ?_
  refine h A env P as s hr he hi hl R _ E fun xv axv h₁ tk₁ as₁ σ₁ x₁ r₁ R₁ q₁ => ?_
  obtain ⟨len, It, J, src, hlen, j0, turn, fn⟩ := q₁
  -- the part behind the iterator
  have behind : ∀ (oI : Obj) (St : Nat → Obj → Prop), oI.isFreed = false → Turns W A as₁ h₁.objs.size St len It (fun i σ => ∃ acc, J i acc σ) → St 0 oI →
      wpAny (model W.prog W.w) A (newList []) (fun acc s₃ => wpAny (model W.prog W.w) A (newFunctionEnv scope env.globals (closL env scope.names []) [] env.qual none .none (some env)) (fun cenv s₄ =>
        codeAny (model W.prog W.w) A (.compStart (.ListComp elt [⟨.Name x px, iter, ifs, 0⟩] scope cpos) 0 (.ref h₁.objs.size) acc { cenv with scope := relabel scope env }) (compPost (model W.prog W.w) A E use Qc acc cenv.locals) s₄) E s₃) E { s with heap := h₁.push oI, toks := tk₁ } := by
    intro oI St hfI T st0
    refine wpAny_newObj_type (wpAny_newFunctionEnv (fun y hy => ?_) (fun y hy => by simp at hy) (fun h₂ hns₂ hsb₂ => ?_) hkind)
    · have := hall y hy
      intro e; rw [e] at this; simp at this
    dsimp only at hns₂ hsb₂ ⊢
    generalize hH : (h₁.push oI).push { cls := .type "list", dict := none, data := .seq ([] : List Value).toArray } = H2 at hns₂ hsb₂ ⊢
    have sI : (h₁.push oI).objs.size = h₁.objs.size + 1 := Heap.size_push ..
    have sC : H2.objs.size = h₁.objs.size + 2 := by rw [← hH, Heap.size_push, sI]
    have dIC : h₁.objs.size ≠ H2.objs.size := by rw [sC]; omega
    have dID : h₁.objs.size ≠ (h₁.push oI).objs.size := by rw [sI]; omega
    have dCD : H2.objs.size ≠ (h₁.push oI).objs.size := by rw [sC, sI]; omega
    have old : ∀ b o, h₁.get? b = some o → h₂.get? b = some o := fun b o e => hsb₂.extBut b o (Nat.ne_of_lt (Nat.lt_of_lt_of_le (Heap.lt_size e) (by rw [sC]; exact Nat.le_add_right _ 2))) (Heap.get?_push_of_some _ (hH ▸ Heap.get?_push_of_some _ (Heap.get?_push_of_some _ e)))
    have gI : h₂.get? h₁.objs.size = some oI := hsb₂.extBut _ _ dIC (Heap.get?_push_of_some _ (hH ▸ Heap.get?_push_of_some _ (Heap.get?_push_size _ hfI)))
    have gD : h₂.PlainList (h₁.push oI).objs.size #[] := ⟨_, hsb₂.extBut _ _ (Ne.symm dCD) (Heap.get?_push_of_some _ (hH ▸ Heap.get?_push_size _ rfl))⟩
    obtain ⟨oC, gC, nsC⟩ := NsObj.of hns₂
    have fresh : ∀ a, h₁.objs.size ≤ a → h₁.get? a = none := fun a ha => by
      cases e : h₁.get? a with
      | none => rfl
      | some o' => exact absurd (Heap.lt_size e) (Nat.not_lt.mpr ha)
    have frI := fresh h₁.objs.size (Nat.le_refl _)
    have frD := fresh (h₁.push oI).objs.size (by rw [sI]; omega)
    have frC := fresh H2.objs.size (by rw [sC]; omega)
    have nP : ∀ a, h₁.get? a = none → ∀ o, ¬ P a o := fun a e o q => by have := R₁.keep _ _ q; rw [e] at this; cases this
    have hE : EnvIs { (newEnv scope H2.objs.size env.globals (closL env scope.names []) env.qual none .none (some env) builtinsNs) with scope := relabel scope env } (relabelS scope sc) := by
      refine ⟨hkind, by rw [relabel_eq he], he.gl, he.bl⟩
    have loop : ∀ s₄ : Shared, s₄ = { s with heap := h₂, toks := tk₁ + ([] : List (Str × Value)).length } → codeAny (model W.prog W.w) A (.compLoop (.ListComp elt [⟨.Name x px, iter, ifs, 0⟩] scope cpos) 0 (.ref h₁.objs.size) (.ref (h₁.push oI).objs.size) { (newEnv scope H2.objs.size env.globals (closL env scope.names []) env.qual none .none (some env) builtinsNs) with scope := relabel scope env })
        (compPost (model W.prog W.w) A E use Qc (.ref (h₁.push oI).objs.size) H2.objs.size) s₄ := by
      rintro s₄ rfl
      refine comp_loop (mo := fun v => mC scope x v m) (J := J) (P := P) (σ := σ₁) (as := as₁) (mm := fun z => ([] : List (Str × Value)).reverse.lookup z) hlen T hr hE hi ?_ ?_ (R₁.grow old) gI gC nsC gD st0 (hi.none R₁ frI) (hi.none R₁ frC) (hi.none R₁ frD) (R₁.fresh frI) (R₁.fresh frC) (R₁.fresh frD) (nP _ frI) (nP _ frC) (nP _ frD) dIC dID dCD j0 turn ?_
      · rw [lookup_relabelS, hx]; rfl
      · intro v av oC' mm' as' P' hv ns' hmx hPC hPP x'
        refine comp_loc (L := [(x, av)]) he hl hfree (x₁.trans x') hPP ns' hPC fun z avz hz => ?_
        rw [List.lookup_cons] at hz
        cases e : z == x with
        | true => rw [e] at hz; cases hz; rw [beq_iff_eq.mp e]; exact ⟨hx, v, hv, hmx⟩
        | false => rw [e] at hz; cases hz
      · intro h' tk' as' σ' acc oC' mm' x' ns' gC' hD' R' hC' j'
        refine fin H2.objs.size _ h' tk' (as' ++ [(h₁.push oI).objs.size]) (σ' ++ [.list acc]) oC' mm' ((x₁.trans x').trans (Ext.snoc ..)) ns' gC' R' ?_ hC' (nP _ frC) (hi.none R₁ frC) ?_
        · have hl' : as'.length = σ'.length := by have := R'.len; simpa using this
          exact ⟨_, by simp [← hl'], rfl⟩
        · simpa using fn acc σ' j'
    exact codeAny_compStart_list (loop _ rfl) (T.self 0 { s with heap := h₂, toks := tk₁ + ([] : List (Str × Value)).length } oI _ _ gI st0 (loop _ rfl))
  rcases src with ⟨l, xs, rfl, rfl, hIt, e0, hJ⟩ | ⟨l, a, b, k, rfl, e0, hsz, hIt⟩
  · obtain ⟨al, o, rfl, e1, e2, r⟩ := R₁.ref r₁ e0
    obtain ⟨vs, hL, hv⟩ := isList_of e2 r
    refine wpAny_pyIter_list (s := { s with heap := h₁, toks := tk₁ }) hL ?_
    exact behind _ _ rfl ((Turns.list hr.1 e1 fun i σ hle ⟨acc, j⟩ => hJ i acc σ hle j).congr hIt) ⟨rfl, rfl⟩
  · obtain ⟨al, o, rfl, e1, e2, r⟩ := R₁.ref r₁ e0
    obtain ⟨t, u, w, rfl⟩ := r
    cases hsm : Builtin.Range.small a b k with
    | true =>
      refine wpAny_pyIter_range (s := { s with heap := h₁, toks := tk₁ }) e2 hsm ?_
      exact behind _ _ rfl ((Turns.range (a := a) (c := k) (len := len) hr.1).congr hIt) (by simp [hsz])
    | false =>
      refine wpAny_pyIter_longrange (s := { s with heap := h₁, toks := tk₁ }) e2 hsm ?_
      exact behind _ _ rfl ((Turns.long (a := a) (c := k) (len := len) hr.1).congr hIt) (by simp [hsz])

theorem Rep.off1 {P : Pr} {as : List Addr} {h h' : Heap} {C : Addr} (R : Rep W P as σ h) (sb : Heap.SameBut C h h') (hC : C ∉ as) (pC : ∀ o, ¬ P C o) : Rep W P as σ h' :=
  R.move (fun b y q => (sb.2 b fun z => pC y (z ▸ q)).trans (R.keep _ _ q)) (fun _ _ _ q => q) fun b hb _ e => (sb.2 b fun z => hC (z ▸ hb)).trans e
theorem te_comp {elt iter : Expr} {x : Str} {px : Pos} {ifs : List Expr} {scope : Scope} {Q : AV → AH → Prop} (hok : compOk sc scope x m = true) (hns : notSet iter = true) (h : TE W n sc m iter (CompT W n sc m scope x ifs elt Q) σ) :
    TE W n sc m (.ListComp elt [⟨.Name x px, iter, ifs, 0⟩] scope pos) Q σ := by
  intro A env P as s hr he hi hl R Qc E c
  rw [eval_ListComp]
  refine comp_main (use := none) hok hns h hr he hi hl R fun C D h' tk' as' σ' oC mm x' ns' gC R' hv hC pC _ q => ?_
  exact ⟨mm, ns'.ns gC, fun h'' sb => c _ (.ref (σ'.length - 1)) h'' tk' as' σ' x' hv (R'.off1 sb hC pC) q⟩
def swapOk (sc scope : Scope) (y : Str) (py cpos spos : Pos) : Bool :=
  sc.names.lookup y == some .local && py.line == cpos.line && !(scope.names.any fun p => p.1 == y && (p.2 == .local || p.2 == .cell)) && (spos.line == spos.line)
theorem ts_assign_comp {elt iter : Expr} {x y : Str} {px py cpos : Pos} {ifs : List Expr} {scope : Scope} {Q : AF → Locs → AH → Prop} (hok : compOk sc scope x m = true) (hns : notSet iter = true) (hsw : swapOk sc scope y py cpos pos = true)
    (h : TE W n sc m iter (CompT W n sc m scope x ifs elt (fun v σ₁ => Q .next (setL y v m) σ₁)) σ) : TS W n sc (.Assign [.Name y py] (.ListComp elt [⟨.Name x px, iter, ifs, 0⟩] scope cpos) pos) Q m σ := by
  intro A env own P O as s hr he hi ow hl R Qc E c
  unfold swapOk at hsw
  rw [Bool.and_eq_true, Bool.and_eq_true, Bool.and_eq_true] at hsw
  obtain ⟨⟨⟨s1, s2⟩, s3⟩, _⟩ := hsw
  have hsw : swapsWith (.ListComp elt [⟨.Name x px, iter, ifs, 0⟩] scope cpos) (some (.Name y py)) pos.line env = pure true := by
    show (pure (env.blockKind == .function && env.kindOf y == some .local && py.line == cpos.line && !(scope.names.any fun (n, k) => n == y && (k == .local || k == .cell))) : Sem Bool) = pure true
    congr 1
    have e1 : (env.blockKind == ScopeKind.function) = true := by unfold Env.blockKind; rw [he.sc, he.kind]; rfl
    have e2 : (env.kindOf y == some .local) = true := by unfold Env.kindOf; rw [he.sc]; exact s1
    rw [e1, e2, s2, s3]; rfl
  rw [exec_Assign_Name_used _ _ _ _ hsw]
  refine wpAny_bind (wpAny_standAt (wpAny_bind ?_))
  show wpAny _ A (do let _ ← comprehension (.ListComp elt [⟨.Name x px, iter, ifs, 0⟩] scope cpos) scope env _ (newList []) false (eval iter env) (some (assign (.Name y py) env))) _ _ s
  refine wpAny_bind (wpAny_mono (comp_main (use := some (assign (.Name y py) env)) (Qc := fun _ s' => Qc .next s') hok hns h hr he hi.or hl R fun C D h' tk' as' σ' oC mm x' ns' gC R' hv hC pC nC q => ?_) (fun _ s' hq => wpAny_pure (wpAny_pure hq)) fun _ _ e => e)
  have hst : storeOk sc y = true := by unfold storeOk; rw [beq_iff_eq.mp s1]
  have owC : Own env own (P.add C oC) O := ⟨ow.loc, ow.cel, ow.hasC, ow.inj, ow.dom, ow.has, fun a ha o q => q.elim (ow.off a ha o) fun ⟨z, _⟩ => let ⟨o', h'⟩ := ow.has a ha; pC o' (z ▸ .inr h')⟩
  have ownC : C ∉ own := fun q => let ⟨o', h'⟩ := ow.has C q; pC o' (.inr h')
  have R'' : Rep W ((P.add C oC).or O) as' σ' h' := (R'.hold hC gC).weaken fun a o q => by
    rcases q with (q | q) | q
    · exact .inl (.inl q)
    · exact .inr q
    · exact .inl (.inr q)
  show wpAny _ A (assign (.Name y py) env (.ref D)) _ _ _
  refine wpAny_assign_Name (store_own hr he hi.add owC ((hl.ext x').up fun a o q => q.elim (fun q => .inl (.inl q)) .inr) R'' hv hst fun h₂ tk₂ O₂ ow₂ l₂ R₂ => ?_)
  refine ⟨mm, ns'.ns (R₂.keep _ _ (.inl (.inr ⟨rfl, rfl⟩))), fun h₃ sb => ?_⟩
  have ow₃ : Own env own P O₂ := ⟨ow₂.loc, ow₂.cel, ow₂.hasC, ow₂.inj, ow₂.dom, ow₂.has, fun a ha o q => ow₂.off a ha o (.inl q)⟩
  refine c .next .next h₃ tk₂ as' σ' _ O₂ x' rfl ow₃ (l₂.drop ow₃ ownC) ?_ q
  refine (R₂.weaken (P' := P.or O₂) fun a o q => q.elim (fun q => .inl (.inl q)) .inr).off1 sb hC fun o q => ?_
  rcases q with q | q
  · exact pC o (.inl q)
  · exact ownC (ow₂.dom _ _ q)
end
end Mine
end
section
namespace Mine
open PySem

section
variable {W : Wd} {n : Nat} {sc : Scope} {m : Locs} {σ : AH} {pos : Pos}
def TSetI (W : Wd) (n : Nat) (o i v : AV) (Q : AH → Prop) (σ : AH) : Prop :=
  ∀ (A : Around) (P : Pr) (as : List Addr) (s : Shared) (vo vi vv : Value), Room n A → W.In P → VRel as vo o → VRel as vi i → VRel as vv v → Rep W P as σ s.heap →
    ∀ (Qc : Unit → Shared → Prop) (E : Value → Shared → Prop), (∀ h' tk' as' σ', Ext as as' → Rep W P as' σ' h' → Q σ' → Qc () { s with heap := h', toks := tk' }) → wpAny (model W.prog W.w) A (setItem vo vi vv) Qc E s
def TDelI (W : Wd) (n : Nat) (o i : AV) (Q : AH → Prop) (σ : AH) : Prop :=
  ∀ (A : Around) (P : Pr) (as : List Addr) (s : Shared) (vo vi : Value), Room n A → W.In P → VRel as vo o → VRel as vi i → Rep W P as σ s.heap →
    ∀ (Qc : Unit → Shared → Prop) (E : Value → Shared → Prop), (∀ h' tk' as' σ', Ext as as' → Rep W P as' σ' h' → Q σ' → Qc () { s with heap := h', toks := tk' }) → wpAny (model W.prog W.w) A (delItem vo vi) Qc E s
variable {Q : AF → Locs → AH → Prop}
theorem ts_assign_sub {o i e : Expr} {p : Pos} (hs : notComp e = true) (h : TE W n sc m e (fun v σ₁ => TE W n sc m o (fun ov σ₂ => TE W n sc m i (fun iv σ₃ => TSetI W n ov iv v (fun σ₄ => Q .next m σ₄) σ₃) σ₂) σ₁) σ) : TS W n sc (.Assign [.Subscript o i p] e pos) Q m σ := by
  intro A env own P O as s hr he hi ow hl R Qc E c
  refine wpAny_Assign_Subscript (h A env (P.or O) as s hr he hi.or hl R _ E fun v av h₁ tk₁ as₁ σ₁ x₁ r₁ R₁ q₁ => ?_) (swaps_not hs ..)
  refine q₁ A env (P.or O) as₁ _ hr he hi.or (hl.ext x₁) R₁ _ E fun vo ao h₂ tk₂ as₂ σ₂ x₂ r₂ R₂ q₂ => ?_
  refine q₂ A env (P.or O) as₂ _ hr he hi.or (hl.ext (x₁.trans x₂)) R₂ _ E fun vi ai h₃ tk₃ as₃ σ₃ x₃ r₃ R₃ q₃ => ?_
  refine q₃ A (P.or O) as₃ _ vo vi v hr hi.or (r₂.ext x₃) r₃ (r₁.ext (x₂.trans x₃)) R₃ _ E fun h₄ tk₄ as₄ σ₄ x₄ R₄ q₄ => ?_
  have xx := ((x₁.trans x₂).trans x₃).trans x₄
  exact c .next .next h₄ tk₄ as₄ σ₄ m O xx rfl ow (hl.ext xx) R₄ q₄
theorem ts_del_sub {o i : Expr} {p : Pos} (h : TE W n sc m o (fun ov σ₂ => TE W n sc m i (fun iv σ₃ => TDelI W n ov iv (fun σ₄ => Q .next m σ₄) σ₃) σ₂) σ) : TS W n sc (.Delete [.Subscript o i p] pos) Q m σ := by
  intro A env own P O as s hr he hi ow hl R Qc E c
  refine wpAny_Delete (wpAny_deleteEach_cons (PyProof.Rows.delete_Subscript (h A env (P.or O) as s hr he hi.or hl R _ E fun vo ao h₂ tk₂ as₂ σ₂ x₂ r₂ R₂ q₂ => ?_)))
  refine q₂ A env (P.or O) as₂ _ hr he hi.or (hl.ext x₂) R₂ _ E fun vi ai h₃ tk₃ as₃ σ₃ x₃ r₃ R₃ q₃ => ?_
  refine q₃ A (P.or O) as₃ _ vo vi hr hi.or (r₂.ext x₃) r₃ R₃ _ E fun h₄ tk₄ as₄ σ₄ x₄ R₄ q₄ => ?_
  have xx := (x₂.trans x₃).trans x₄
  exact wpAny_deleteEach_nil (c .next .next h₄ tk₄ as₄ σ₄ m O xx rfl ow (hl.ext xx) R₄ q₄)
theorem VsRel.set {as : List Addr} : ∀ {vs : List Value} {xs : List AV}, VsRel as vs xs → ∀ (j : Nat) {v : Value} {x : AV}, VRel as v x → VsRel as (vs.set j v) (xs.set j x)
  | [], [], _, _, _, _, _ => trivial
  | _ :: _, _ :: _, ⟨_, r⟩, 0, _, _, h => ⟨h, r⟩
  | _ :: _, _ :: _, ⟨a, r⟩, j + 1, _, _, h => ⟨a, r.set j h⟩
theorem tset_list {l : Nat} {xs : List AV} {k : Int} {j : Nat} {v : AV} {QH : AH → Prop} (hl : σ[l]? = some (.list xs)) (hj : pyIdx xs.length k = some j) (hb : -(2 ^ 63) ≤ k ∧ k < 2 ^ 63) (h : QH (σ.set l (.list (xs.set j v)))) : TSetI W n (.ref l) (.int k) v QH σ := by
  intro A P as s vo vi vv hr hi h1 h2 h3 R Qc E c
  obtain ⟨a, o, rfl, e1, e2, r⟩ := R.ref h1 hl
  obtain ⟨t, rfl⟩ := h2
  obtain ⟨vs, nn, rfl, hv⟩ := r
  refine setItem_exact e2 (by simpa [hv.length] using hj) hb.1 hb.2 ?_
  refine c _ s.toks as _ (Ext.refl _) (R.set (ao' := .list (xs.set j v)) e1 hl rfl rfl (Heap.SameBut.update ..) (Heap.get?_update_self _ e2 rfl) ?_) h
  exact ⟨vs.set j vv, _, by simp [Obj.mapSeq]; rfl, hv.set j h3⟩
/-- the list without a slice of it -/
def cutL {α : Type} (xs : List α) (sel : Nat → Bool) : List α := xs.zipIdx.filterMap fun p => if sel p.2 = true then none else some p.1
theorem VsRel.cut {as : List Addr} {sel : Nat → Bool} : ∀ {vs : List Value} {xs : List AV}, VsRel as vs xs → ∀ k, VsRel as ((vs.zipIdx k).filterMap fun p => if sel p.2 = true then none else some p.1) ((xs.zipIdx k).filterMap fun p => if sel p.2 = true then none else some p.1)
  | [], [], _, _ => trivial
  | v :: vs, x :: xs, ⟨a, r⟩, k => by
    simp only [List.zipIdx_cons, List.filterMap_cons]
    cases q : sel k with
    | true => simp only [if_true]; exact r.cut (k + 1)
    | false => simp only [Bool.false_eq_true, if_false]; exact ⟨a, r.cut (k + 1)⟩
theorem cutL_run {α : Type} (sel : Nat → Bool) (a b : Nat) (hs : ∀ k, sel k = (decide (a ≤ k) && decide (k < b))) : ∀ (xs : List α) (k : Nat),
    ((xs.zipIdx k).filterMap fun p => if sel p.2 = true then none else some p.1) = xs.take (a - k) ++ xs.drop (max (a - k) (b - k))
  | [], k => by simp
  | x :: xs, k => by
    simp only [List.zipIdx_cons, List.filterMap_cons]
    rw [cutL_run sel a b hs xs (k + 1), hs k]
    by_cases h1 : a ≤ k
    · have e1 : a - k = 0 := by omega
      have e2 : a - (k + 1) = 0 := by omega
      by_cases h2 : k < b
      · simp only [h1, h2, decide_true, Bool.and_self, if_true, e1, e2, List.take_zero, List.nil_append]
        have : max 0 (b - k) = max 0 (b - (k + 1)) + 1 := by rw [Nat.zero_max, Nat.zero_max]; omega
        rw [this, List.drop_succ_cons]
      · have e3 : b - k = 0 := by omega
        have e4 : b - (k + 1) = 0 := by omega
        simp [h1, h2, e1, e2, e3, e4]
    · have e1 : a - k = (a - (k + 1)) + 1 := by omega
      have e2 : max (a - k) (b - k) = max (a - (k + 1)) (b - (k + 1)) + 1 := by
        rw [e1]
        by_cases h3 : b ≤ k
        · rw [Nat.sub_eq_zero_of_le h3, Nat.sub_eq_zero_of_le (Nat.le_succ_of_le h3), Nat.max_zero, Nat.max_zero]
        · rw [show b - k = (b - (k + 1)) + 1 by omega]; exact (Nat.succ_max_succ _ _)
      simp only [h1, decide_false, Bool.false_and, Bool.false_eq_true, if_false, e1]
      rw [← e1, e2, e1, List.take_succ_cons, List.drop_succ_cons]; rfl
/-- del xs[lo:] and del xs[lo:hi], by ones -/
theorem tdel_slice {l sl : Nat} {xs : List AV} {lo hi : Option Int} {QH : AH → Prop} (hl : σ[l]? = some (.list xs)) (hs : σ[sl]? = some (.slice lo hi none)) (hz : xs.length ≤ sizeLine)
    (h : QH (σ.set l (.list (xs.take (sliceBounds lo hi none xs.length).1.toNat ++ xs.drop (max (sliceBounds lo hi none xs.length).1.toNat (sliceBounds lo hi none xs.length).2.1.toNat))))) : TDelI W n (.ref l) (.ref sl) QH σ := by
  intro A P as s vo vi hr hi' h1 h2 R Qc E c
  obtain ⟨a, o, rfl, e1, e2, r⟩ := R.ref h1 hl
  obtain ⟨b, os, rfl, f1, f2, rs⟩ := R.ref h2 hs
  obtain ⟨vs, nn, rfl, hv⟩ := r
  obtain ⟨vl, vu, vst, rfl, p1, p2, p3⟩ := rs
  refine delItem_slice e2 ⟨_, f2, rfl, rfl⟩ p1 p2 p3 (by simp) (by simp [hv.length, hz]) fun sel hsel => ?_
  have hsz : (List.toArray vs).size = xs.length := by simp [hv.length]
  rw [hsz] at hsel
  have hb : (sliceBounds lo hi none xs.length).2.2 = 1 := rfl
  have h0 : 0 ≤ (sliceBounds lo hi none xs.length).1 := by
    cases lo with
    | none => simp [sliceBounds]
    | some k => simp only [sliceBounds, Option.getD_none, show (1 : Int) > 0 from by decide, if_true]; omega
  have h0' : 0 ≤ (sliceBounds lo hi none xs.length).2.1 := by
    cases hi with
    | none => simp [sliceBounds]
    | some k => simp only [sliceBounds, Option.getD_none, show (1 : Int) > 0 from by decide, if_true]; omega
  have hsel' : ∀ k, sel k = (decide ((sliceBounds lo hi none xs.length).1.toNat ≤ k) && decide (k < (sliceBounds lo hi none xs.length).2.1.toNat)) := fun k => by
    rw [hsel k, hb]
    simp only [show (1 : Int) > 0 from by decide, if_true, Int.emod_one, beq_self_eq_true, Bool.and_true]
    congr 1 <;> (apply decide_eq_decide.mpr; omega)
  refine c _ s.toks as _ (Ext.refl _) (R.set (ao' := .list (xs.take (sliceBounds lo hi none xs.length).1.toNat ++ xs.drop (max (sliceBounds lo hi none xs.length).1.toNat (sliceBounds lo hi none xs.length).2.1.toNat))) e1 hl rfl rfl (Heap.SameBut.update ..) (Heap.get?_update_self _ e2 rfl) ?_) h
  refine ⟨vs.zipIdx.filterMap fun p => if sel p.2 = true then none else some p.1, _, by simp [Obj.mapSeq]; rfl, ?_⟩
  have := hv.cut (sel := sel) 0
  rw [cutL_run sel _ _ hsel' xs 0] at this
  simpa using this

/-! a pair (or more) taken apart -/
def TAs (W : Wd) (n : Nat) (sc : Scope) (ts : List Expr) (vs : List AV) (Q : Locs → AH → Prop) (m : Locs) (σ : AH) : Prop := match ts, vs with
  | [], [] => Q m σ
  | t :: ts, v :: vs => TA W n sc t v (fun m₁ σ₁ => TAs W n sc ts vs Q m₁ σ₁) m σ
  | _, _ => False
theorem assignEach_not {env : Env} : ∀ {ts : List Expr}, ts.all notStar = true → assignEach ts env = ts.map fun t => (false, assign t env)
  | [], _ => rfl
  | t :: ts, h => by
    have h' : notStar t = true ∧ ts.all notStar = true := by simpa using h
    have : assignEach (t :: ts) env = (false, assign t env) :: assignEach ts env := by
      cases t <;> first | rfl | (exact nomatch h'.1)
    rw [this, assignEach_not h'.2]; rfl
theorem assign_order {A : Around} {env : Env} {own : List Addr} {P : Pr} : ∀ (ts : List Expr) {avs : List AV} {vs : List Value} {QA : Locs → AH → Prop} {m : Locs} {σ : AH} {O : Pr} {as : List Addr} {s : Shared} {Qc : Unit → Shared → Prop} {E : Value → Shared → Prop}, TAs W n sc ts avs QA m σ → VsRel as vs avs →
    Room n A → EnvIs env sc → W.In P → Own env own P O → Loc (P.or O) env m as → Rep W (P.or O) as σ s.heap →
    (∀ h' tk' as' σ' m' O', Ext as as' → Own env own P O' → Loc (P.or O') env m' as' → Rep W (P.or O') as' σ' h' → QA m' σ' → Qc () { s with heap := h', toks := tk' }) →
    wpAny (model W.prog W.w) A (assignInOrder (ts.map fun t => assign t env) vs) Qc E s
  | [], [], [], _, m, σ, O, as, s, _, _, h, _, _, _, _, ow, hl, R, c => wpAny_assignInOrder_none (c s.heap s.toks as σ m O (Ext.refl _) ow hl R h)
  | t :: ts, v :: avs, u :: vs, _, m, σ, O, as, s, Qc, E, h, ⟨hv, hvs⟩, hr, he, hi, ow, hl, R, c => by
    refine wpAny_assignInOrder_more (h A env own P O as s u hr he hi ow hl R hv _ E fun h₁ tk₁ as₁ σ₁ m₁ O₁ x₁ ow₁ l₁ R₁ q₁ => ?_)
    exact assign_order ts q₁ (hvs.ext x₁) hr he hi ow₁ l₁ R₁ fun h₂ tk₂ as₂ σ₂ m₂ O₂ x₂ ow₂ l₂ R₂ q₂ => c h₂ tk₂ as₂ σ₂ m₂ O₂ (x₁.trans x₂) ow₂ l₂ R₂ q₂
  | [], _ :: _, _, _, _, _, _, _, _, _, _, h, _, _, _, _, _, _, _, _ => h.elim
  | _ :: _, [], _, _, _, _, _, _, _, _, _, h, _, _, _, _, _, _, _, _ => h.elim
  | [], [], _ :: _, _, _, _, _, _, _, _, _, _, h, _, _, _, _, _, _, _ => h.elim
  | _ :: _, _ :: _, [], _, _, _, _, _, _, _, _, _, h, _, _, _, _, _, _, _ => h.elim
theorem Rep.extBut {P : Pr} {as : List Addr} {h h' : Heap} (R : Rep W P as σ h) (x : Heap.ExtBut h.objs.size h h') : Rep W P as σ h' :=
  R.grow fun b o e => x b o (Nat.ne_of_lt (Heap.lt_size e)) e
theorem ta_tuple {ts : List Expr} {k : Nat} {l : Nat} {xs : List AV} {QA : Locs → AH → Prop} (hn : ts.all notStar = true) (hl' : σ[l]? = some (.tuple xs)) (hlen : ts.length = xs.length) (h : TAs W n sc ts xs QA m σ) : TA W n sc (.Tuple ts k pos) (.ref l) QA m σ := by
  intro A env own P O as s vv hr he hi ow hl R hv Qc E c
  obtain ⟨a, o, rfl, e1, e2, r⟩ := R.ref hv hl'
  obtain ⟨vs, nn, rfl, hvs⟩ := r
  have hT : PyProof.Rows.IsTup s.heap a vs.toArray := ⟨_, e2, rfl, nn, rfl⟩
  show wpAny _ A (do standAt pos; unpack (.ref a) (assignEach ts env)) Qc E s
  rw [assignEach_not hn]
  refine wpAny_bind (wpAny_standAt (PyProof.Rows.unpack_tuple hr.1 hT (by simp [hlen, hvs.length]) ?_ fun h' hx => ?_))
  · rw [List.findIdx?_eq_none_iff]; intro p hp; obtain ⟨t, _, rfl⟩ := List.mem_map.mp hp; rfl
  · have : (ts.map fun t => (false, assign t env)).map (·.2) = ts.map fun t => assign t env := by simp
    rw [this]
    exact assign_order ts h hvs hr he hi ow hl (R.extBut hx) fun h₂ tk₂ as₂ σ₂ m₂ O₂ x₂ ow₂ l₂ R₂ q₂ => c h₂ tk₂ as₂ σ₂ m₂ O₂ x₂ ow₂ l₂ R₂ q₂
end
end Mine
end
section
set_option maxRecDepth 100000
namespace Mine
open PySem PySem.W

section
variable {prog : Program} {w : World} {A : Around} {E : Value → Shared → Prop} {s : Shared} {K : Frag} {x C dx : Addr}
theorem setAttr_exact {es : List DictEntry} {n : Nat} {name : Str} {v : Value} {Qc : Unit → Shared → Prop} (X : K.In s.heap) (gx : s.heap.get? x = some ⟨.ref C, some dx, .plain, #[]⟩) (gd : s.heap.get? dx = some (dictOf es n))
    (hs : findIn K (.ref C) "__setattr__" = some (some (.builtin "object.__setattr__"))) (hp : plainOver K C = true) (ht : takerIn K C name = some none) (hh : hasDictIn K C = true) (hl : (getL name es).isSome = true) (hz : (putL name (PyData.keyHash w.params name) (.str name (s.toks + 1)) v es).length ≤ 1000)
    (h : Qc () { s with heap := s.heap.update dx (Obj.putName name (PyData.keyHash w.params name) (.str name (s.toks + 1)) v), toks := s.toks + 2 }) : wpAny (model prog w) A (setAttr (.ref x) name v) Qc E s := by
  have I : InstAt s.heap x ⟨.ref C, some dx, .plain, #[]⟩ C (some (dictOf es n)) := ⟨gx, rfl, rfl, gd⟩
  refine set_plain X I hs (osa_open (s := { s with toks := s.toks + 1 }) X I hp ht fun b => ?_)
  obtain ⟨cd, hc, hd'⟩ := any_some hh
  refine wpAny_bind (wpAny_pure (wpAny_bind (wpAny_bind (wpAny_loadPart gx (wpAny_bind ((looks_clsIn X hc).at ?_))))))
  rw [hd']
  refine wpAny_pure (a := some dx) (wpAny_bind (wpAny_pure (wpAny_bind ?_)))
  unfold nsSet
  refine wpAny_bind (wpAny_bind (wpAny_askSetting (wpAny_pure (wpAny_bind (wpAny_mkText (wpAny_bind (wpAny_loadPart gd ?_)))))))
  have cc : (!es.toArray.any (·.key.isStr name) && es.toArray.any (·.refKey)) = false := by
    unfold getL at hl
    simp only [List.any_toArray]
    split at hl
    · rename_i en he
      rw [List.any_eq_true.mpr ⟨en, List.mem_of_find?_eq_some he, List.find?_some he⟩]; rfl
    · split at hl
      · cases hl
      · rename_i z; rw [Bool.not_eq_true] at z; rw [z, Bool.and_false]
  dsimp only
  rw [aRefKeyMayBeTheName_at, cc]
  refine wpAny_updatePart gd ?_
  have e' : Obj.putName name (PyData.keyHash w.params name) (.str name (s.toks + 1)) v (dictOf es n) = dictOf (putL name (PyData.keyHash w.params name) (.str name (s.toks + 1)) v es) (putN name es n) := putName_dict ..
  have gd' : (s.heap.update dx (Obj.putName name (PyData.keyHash w.params name) (.str name (s.toks + 1)) v)).get? dx = some (dictOf (putL name (PyData.keyHash w.params name) (.str name (s.toks + 1)) v es) (putN name es n)) := by
    rw [Heap.get?_update_self _ gd (by rw [e']; rfl), e']
  refine wpAny_bind (wpAny_lookBehind gd' (pastItsLine_dict (by rw [List.size_toArray, sizeLine_eq]; omega)) ?_)
  exact wpAny_pure (by show Qc () _; exact h)
end

theorem beqC (a b : Str) : (a == b) = (b == a) := by
  rw [Bool.eq_iff_iff, beq_iff_eq, beq_iff_eq]; exact eq_comm
section
variable {P : Params} {as : List Addr}
theorem fs_get {name : Str} : ∀ {es : List DictEntry} {fs : List (Str × AV)}, FsRel P as es fs → ∀ {av : AV}, fs.lookup name = some av → ∃ v, getL name es = some (some v) ∧ VRel as v av
  | [], [], _, _, e => by simp at e
  | e :: es, f :: fs, ⟨⟨t, hk⟩, hv, r⟩, av, q => by
    rw [List.lookup_cons] at q
    unfold getL
    rw [List.find?_cons]
    have hb : e.key.isStr name = (name == f.1) := by
      rw [hk]; exact beqC f.1 name
    rw [hb]
    cases z : name == f.1 with
    | true => rw [z] at q; cases q; exact ⟨e.val, rfl, hv⟩
    | false =>
      rw [z] at q
      obtain ⟨v, g1, g2⟩ := fs_get r q
      refine ⟨v, ?_, g2⟩
      unfold getL at g1
      dsimp only
      cases ff : es.find? (·.key.isStr name) with
      | some en => rw [ff] at g1; exact g1
      | none => rw [ff] at g1; cases hr : es.any (·.refKey) <;> rw [hr] at g1 <;> simp at g1
theorem fs_norefs : ∀ {es : List DictEntry} {fs : List (Str × AV)}, FsRel P as es fs → es.any (·.refKey) = false
  | [], [], _ => rfl
  | e :: es, f :: fs, ⟨⟨t, hk⟩, hv, r⟩ => by
    rw [List.any_cons, fs_norefs r, Bool.or_false]
    unfold DictEntry.refKey; rw [hk]
theorem fs_none {name : Str} : ∀ {es : List DictEntry} {fs : List (Str × AV)}, FsRel P as es fs → fs.lookup name = none → getL name es = some none
  | es, fs, h, q => by
    have hn := fs_norefs h
    have hf : es.find? (·.key.isStr name) = none := by
      clear hn
      induction es generalizing fs with
      | nil => rfl
      | cons e es ih =>
        match fs, h, q with
        | f :: fs, ⟨⟨t, hk⟩, hv, r⟩, q =>
          rw [List.lookup_cons] at q
          have hb : e.key.isStr name = (name == f.1) := by
            rw [hk]; exact beqC f.1 name
          rw [List.find?_cons, hb]
          cases z : name == f.1 with
          | true => rw [z] at q; cases q
          | false => rw [z] at q; exact ih _ r q
    unfold getL
    rw [hf, hn]; rfl
theorem fs_some {name : Str} {es : List DictEntry} {fs : List (Str × AV)} (h : FsRel P as es fs) : (getL name es).isSome = true := by
  cases q : fs.lookup name with
  | none => rw [fs_none h q]; rfl
  | some av => obtain ⟨v, e, _⟩ := fs_get h q; rw [e]; rfl
theorem fs_put {name : Str} {hsh : Int} {t : Tok} {v : Value} {av : AV} (hv : VRel as v av) : ∀ {es : List DictEntry} {fs : List (Str × AV)}, FsRel P as es fs → FsRel P as (putL name hsh (.str name t) v es) (setL name av fs)
  | [], [], _ => ⟨⟨t, rfl⟩, hv, trivial⟩
  | e :: es, f :: fs, ⟨⟨u, hk⟩, hw, r⟩ => by
    obtain ⟨y, a⟩ := f
    unfold putL setL
    have hb : e.key.isStr name = (name == y) := by
      rw [hk]; exact beqC y name
    rw [hb]
    cases z : name == y with
    | true => exact ⟨⟨u, hk⟩, hv, r⟩
    | false => exact ⟨⟨u, hk⟩, hw, fs_put hv r⟩
theorem fs_len : ∀ {es : List DictEntry} {fs : List (Str × AV)}, FsRel P as es fs → es.length = fs.length
  | [], [], _ => rfl
  | _ :: _, _ :: _, ⟨_, _, r⟩ => by simp [fs_len r]
end

section
variable {W : Wd} {n : Nat} {sc : Scope} {m : Locs} {σ : AH} {pos : Pos} {Q : AV → AH → Prop} {K : Frag} {C : Addr}
def TGetA (W : Wd) (n : Nat) (o : AV) (attr : Str) (Q : AV → AH → Prop) (σ : AH) : Prop :=
  ∀ (A : Around) (P : Pr) (as : List Addr) (s : Shared) (vo : Value), Room n A → W.In P → VRel as vo o → Rep W P as σ s.heap → Run W P A as s (getAttr vo attr true) Q
def TSetA (W : Wd) (n : Nat) (o : AV) (attr : Str) (v : AV) (Q : AH → Prop) (σ : AH) : Prop :=
  ∀ (A : Around) (P : Pr) (as : List Addr) (s : Shared) (vo vv : Value), Room n A → W.In P → VRel as vo o → VRel as vv v → Rep W P as σ s.heap →
    ∀ (Qc : Unit → Shared → Prop) (E : Value → Shared → Prop), (∀ h' tk' as' σ', Ext as as' → Rep W P as' σ' h' → Q σ' → Qc () { s with heap := h', toks := tk' }) → wpAny (model W.prog W.w) A (setAttr vo attr vv) Qc E s
theorem te_attr {value : Expr} {attr : Str} (he' : ∀ env, eval (.Attribute value attr pos) env = (do
      let o ← eval value env
      standAt pos.atName
      let r ← holding [o] (getAttr o attr true)
      letTemporaryGo value o r
      pure r)) (h : TE W n sc m value (fun o σ₁ => TGetA W n o attr Q σ₁) σ) : TE W n sc m (.Attribute value attr pos) Q σ := by
  intro A env P as s hr he hi hl R Qc E c
  refine PyProof.Rows.Attribute_any_ (h A env P as s hr he hi hl R _ E fun v av h₁ tk₁ as₁ σ₁ x₁ r₁ R₁ q₁ => ?_) (he' env)
  exact q₁ A P as₁ _ v hr hi r₁ R₁ _ E fun v av h₂ tk₂ as₂ σ₂ x₂ r₂ R₂ q₂ => c v av h₂ tk₂ as₂ σ₂ (x₁.trans x₂) r₂ R₂ q₂
theorem Rep.inst {P : Pr} {as : List Addr} {h : Heap} (R : Rep W P as σ h) {v : Value} {i d : Nat} {fs : List (Str × AV)} (hv : VRel as v (.ref i)) (hi : σ[i]? = some (.inst C d)) (hd : σ[d]? = some (.dict fs)) :
    ∃ x dx es k, v = .ref x ∧ as[d]? = some dx ∧ h.get? x = some ⟨.ref C, some dx, .plain, #[]⟩ ∧ h.get? dx = some (dictOf es k) ∧ FsRel W.w.params as es fs := by
  obtain ⟨x, o, rfl, e1, e2, r⟩ := R.ref hv hi
  obtain ⟨dx, f1, rfl⟩ := r
  obtain ⟨dx', od, g1, g2, g3⟩ := R.at hd
  rw [f1] at g1; cases g1
  obtain ⟨es, k, rfl, hf⟩ := g3
  exact ⟨x, dx, es, k, rfl, f1, e2, g2, hf⟩
def avHanded : AV → Bool
  | .stat _ => false
  | _ => true
theorem tgeta {i d : Nat} {fs : List (Str × AV)} {attr : Str} {v : AV} (X : K.In W.H) (hi : σ[i]? = some (.inst C d)) (hd : σ[d]? = some (.dict fs)) (hf : fs.lookup attr = some v) (hh : avHanded v = true)
    (hg : plainGet K C attr = true) (hD : hasDictIn K C = true) (ha : findIn K (.ref C) attr = some none) (h : Q v σ) : TGetA W n (.ref i) attr Q σ := by
  intro A P as s vo hr hP hv R Qc E c
  obtain ⟨x, dx, es, k, rfl, f1, e2, g2, hfs⟩ := R.inst hv hi hd
  obtain ⟨u, u1, u2⟩ := fs_get hfs hf
  have hh' : handedIn u = true := by
    cases v with
    | none => cases u2; rfl
    | bool b => cases u2; rfl
    | int i => obtain ⟨t, rfl⟩ := u2; rfl
    | str i => obtain ⟨t, rfl⟩ := u2; rfl
    | ref i => obtain ⟨t, _, rfl⟩ := u2; rfl
    | stat u => cases hh
  exact get_value (X.keeps fun b o e => R.keep _ _ (hP _ _ e)) (od := some (dictOf es k)) ⟨e2, rfl, rfl, g2⟩ (plainGet_of hg).1 (findObj_own hD ha rfl (by rw [lookIn_dict]; exact u1)) hh' (c u v s.heap _ as σ (Ext.refl _) u2 R h)
theorem tseta {i d : Nat} {fs : List (Str × AV)} {attr : Str} {v : AV} {QH : AH → Prop} (X : K.In W.H) (hi : σ[i]? = some (.inst C d)) (hd : σ[d]? = some (.dict fs)) (hlen : fs.length < 1000)
    (hs : findIn K (.ref C) "__setattr__" = some (some (.builtin "object.__setattr__"))) (hp : plainOver K C = true) (ht : takerIn K C attr = some none) (hh : hasDictIn K C = true) (h : QH (σ.set d (.dict (setL attr v fs)))) : TSetA W n (.ref i) attr v QH σ := by
  intro A P as s vo vv hr hP hv hvv R Qc E c
  obtain ⟨x, dx, es, k, rfl, f1, e2, g2, hfs⟩ := R.inst hv hi hd
  have hz : ∀ t, (putL attr (PyData.keyHash W.w.params attr) (.str attr t) vv es).length ≤ 1000 := fun t => by
    have := fs_len (fs_put (hsh := PyData.keyHash W.w.params attr) (t := t) (name := attr) hvv hfs)
    rw [this]
    have : ∀ l : Locs, (setL attr v l).length ≤ l.length + 1 := fun l => by
      induction l with
      | nil => simp [setL]
      | cons p l ih => obtain ⟨y, w⟩ := p; unfold setL; split <;> simp <;> omega
    have := this fs; omega
  refine setAttr_exact (X.keeps fun b o e => R.keep _ _ (hP _ _ e)) e2 g2 hs hp ht hh (fs_some hfs) (hz _) ?_
  refine c _ _ as _ (Ext.refl _) (R.set (ao' := .dict (setL attr v fs)) f1 hd rfl rfl (Heap.SameBut.update ..) (Heap.get?_update_self _ g2 (by rw [putName_dict]; rfl)) ?_) h
  rw [putName_dict]
  exact ⟨_, _, rfl, fs_put hvv hfs⟩
theorem tmeth_inst {i d : Nat} {fs : List (Str × AV)} {name : Str} {f : Addr} {QM : AV → List AV → AH → Prop} (X : K.In W.H) (hi : σ[i]? = some (.inst C d)) (hd : σ[d]? = some (.dict fs)) (hf : fs.lookup name = none)
    (hg : plainGet K C name = true) (hm : findIn K (.ref C) name = some (some (.ref f))) (ht : typeIn K (.ref f) = some (.type "function")) (hk : Keeps W (.ref f)) (h : QM (.stat (.ref f)) [.ref i] σ) : TMeth W n (.ref i) name QM σ := by
  intro A P as s vo pl hr hP hv R Qc E c
  have hv' := hv
  obtain ⟨x, dx, es, k, rfl, f1, e2, g2, hfs⟩ := R.inst hv hi hd
  refine method_fn (X.keeps fun b o e => R.keep _ _ (hP _ _ e)) (od := some (dictOf es k)) ⟨e2, rfl, rfl, g2⟩ (plainGet_of hg).1 (plainGet_of hg).2 hm ht ?_ (c _ _ (.stat (.ref f)) [.ref i] s.heap s.toks as σ (Ext.refl _) hk rfl ⟨hv', trivial⟩ R h)
  show (lookIn name (dictOf es k)).map _ = _
  rw [lookIn_dict, fs_none hfs hf]; rfl
variable {QS : AF → Locs → AH → Prop}
theorem ts_assign_attr {o e : Expr} {attr : Str} {p : Pos} (hs : notComp e = true) (h : TE W n sc m e (fun v σ₁ => TE W n sc m o (fun ov σ₂ => TSetA W n ov attr v (fun σ₃ => QS .next m σ₃) σ₂) σ₁) σ) : TS W n sc (.Assign [.Attribute o attr p] e pos) QS m σ := by
  intro A env own P O as s hr he hi ow hl R Qc E c
  refine plainObj_wpAny_Assign_Attribute (h A env (P.or O) as s hr he hi.or hl R _ E fun v av h₁ tk₁ as₁ σ₁ x₁ r₁ R₁ q₁ => ?_) (swaps_not hs ..)
  refine q₁ A env (P.or O) as₁ _ hr he hi.or (hl.ext x₁) R₁ _ E fun vo ao h₂ tk₂ as₂ σ₂ x₂ r₂ R₂ q₂ => ?_
  refine q₂ A (P.or O) as₂ _ vo v hr hi.or r₂ (r₁.ext x₂) R₂ _ E fun h₄ tk₄ as₄ σ₄ x₄ R₄ q₄ => ?_
  have xx := (x₁.trans x₂).trans x₄
  exact c .next .next h₄ tk₄ as₄ σ₄ m O xx rfl ow (hl.ext xx) R₄ q₄
def TInp (W : Wd) (n : Nat) (op : Operator) (a b : AV) (Q : AV → AH → Prop) (σ : AH) : Prop :=
  ∀ (A : Around) (P : Pr) (as : List Addr) (s : Shared) (va vb : Value), Room n A → W.In P → VRel as va a → VRel as vb b → Rep W P as σ s.heap → Run W P A as s (inplaceOp op va vb) Q
theorem ts_aug_attr {o e : Expr} {attr : Str} {p : Pos} {op : Operator} (h : TE W n sc m o (fun ov σ₁ => TGetA W n ov attr (fun old σ₂ => TE W n sc m e (fun v σ₃ => TInp W n op old v (fun r σ₄ => TSetA W n ov attr r (fun σ₅ => QS .next m σ₅) σ₄) σ₃) σ₂) σ₁) σ) : TS W n sc (.AugAssign (.Attribute o attr p) op e pos) QS m σ := by
  intro A env own P O as s hr he hi ow hl R Qc E c
  refine wpAny_AugAssign_AttributeAny (h A env (P.or O) as s hr he hi.or hl R _ E fun vo ao h₁ tk₁ as₁ σ₁ x₁ r₁ R₁ q₁ => ?_)
  refine q₁ A (P.or O) as₁ _ vo hr hi.or r₁ R₁ _ E fun vl al h₂ tk₂ as₂ σ₂ x₂ r₂ R₂ q₂ => ?_
  refine q₂ A env (P.or O) as₂ _ hr he hi.or (hl.ext (x₁.trans x₂)) R₂ _ E fun vv av h₃ tk₃ as₃ σ₃ x₃ r₃ R₃ q₃ => ?_
  refine q₃ A (P.or O) as₃ _ vl vv hr hi.or (r₂.ext x₃) r₃ R₃ _ E fun vr ar h₄ tk₄ as₄ σ₄ x₄ r₄ R₄ q₄ => ?_
  refine q₄ A (P.or O) as₄ _ vo vr hr hi.or (r₁.ext ((x₂.trans x₃).trans x₄)) r₄ R₄ _ E fun h₅ tk₅ as₅ σ₅ x₅ R₅ q₅ => ?_
  have xx := (((x₁.trans x₂).trans x₃).trans x₄).trans x₅
  exact c .next .next h₅ tk₅ as₅ σ₅ m O xx rfl ow (hl.ext xx) R₅ q₅
theorem load_name {A : Around} {env : Env} {P : Pr} {as : List Addr} {s : Shared} {x : Str} {av : AV} {Qc : Value → Shared → Prop} {E : Value → Shared → Prop} (hm : m.lookup x = some av) (hk : nameOk sc x = true) (he : EnvIs env sc) (hl : Loc P env m as) (R : Rep W P as σ s.heap)
    (c : ∀ v, VRel as v av → Qc v s) : wpAny (model W.prog W.w) A (loadName env x) Qc E s := by
  unfold nameOk at hk
  have hsc : env.scope.kind = .function := by rw [he.sc]; exact he.kind
  split at hk
  · rename_i hn
    obtain ⟨oL, mm, h1, h2, h3⟩ := hl.loc
    obtain ⟨v, hv, hmm⟩ := h3 x av hm (by rw [he.sc]; exact hn)
    exact wpAny_loadName_local hsc (by unfold Env.kindOf; rw [he.sc]; exact hn) (h2.ns (R.keep _ _ h1)) hmm (c v hv)
  · rename_i hn
    obtain ⟨v, cc, o, hv, h1, h2, h3⟩ := hl.cel x av hm (.inl (by rw [he.sc]; exact hn))
    exact wpAny_loadName_cell hsc (by unfold Env.kindOf; rw [he.sc]; exact hn) h1 ⟨o, R.keep _ _ h2, h3⟩ (c v hv)
  · rename_i hn
    obtain ⟨v, cc, o, hv, h1, h2, h3⟩ := hl.cel x av hm (.inr (by rw [he.sc]; exact hn))
    rw [Bool.and_eq_true] at hk
    exact wpAny_loadName_free hsc (by unfold Env.kindOf; rw [he.sc]; exact hn) h1 ⟨o, R.keep _ _ h2, h3⟩ (c v hv) (by simpa using hk.2)
  · cases hk
theorem ts_aug_name {x : Str} {px : Pos} {e : Expr} {op : Operator} {old : AV} (hm : m.lookup x = some old) (hk : nameOk sc x = true) (hx : storeOk sc x = true) (h : TE W n sc m e (fun v σ₁ => TInp W n op old v (fun r σ₂ => QS .next (setL x r m) σ₂) σ₁) σ) : TS W n sc (.AugAssign (.Name x px) op e pos) QS m σ := by
  intro A env own P O as s hr he hi ow hl R Qc E c
  refine wpAny_AugAssign_Name (load_name hm hk he hl R fun vo ho => ?_)
  refine h A env (P.or O) as s hr he hi.or hl R _ E fun vv av h₃ tk₃ as₃ σ₃ x₃ r₃ R₃ q₃ => ?_
  refine q₃ A (P.or O) as₃ _ vo vv hr hi.or (ho.ext x₃) r₃ R₃ _ E fun vr ar h₄ tk₄ as₄ σ₄ x₄ r₄ R₄ q₄ => ?_
  have xx := x₃.trans x₄
  exact store_own hr he hi ow (hl.ext xx) R₄ r₄ hx fun h' tk' O' ow' l' R' => c .next .next h' tk' as₄ σ₄ _ O' xx rfl ow' l' R' q₄
theorem tinp_addI {a b : Int} (h : Q (.int (a + b)) σ) : TInp W n .Add (.int a) (.int b) Q σ := by
  intro A P as s va vb hr _ h1 h2 R Qc E c
  obtain ⟨t, rfl⟩ := h1
  obtain ⟨u, rfl⟩ := h2
  exact wpAny_iadd_int (c _ (.int (a + b)) s.heap _ as σ (Ext.refl _) ⟨_, rfl⟩ R h)

/-! making an object -/
theorem Room.make {A : Around} (h : Room (n + 1) A) (C : Addr) (vals : List Value) (kw : List (Str × Value)) : Room n (A.under (.builtin "type.__call__" ⟨.ref C :: vals, kw⟩)) := by
  refine ⟨h.1, ?_, ?_⟩
  · rw [depth_under_kw]; have := h.2.1; omega
  · have e : (A.under (.builtin "type.__call__" ⟨.ref C :: vals, kw⟩)).units = A.units + 1 := rfl
    rw [e]; have := h.2.2; omega
theorem tcall_class {f : Addr} {args : List AV} (X : K.In W.H) (hm : makesIn K C = true) (hi : findIn K (.ref C) "__init__" = some (some (.ref f))) (hf : typeIn K (.ref f) = some (.type "function"))
    (h : TCode W n (.stat (.ref f)) (.ref (σ.length + 1) :: args) (fun v σ₁ => v = .none ∧ Q (.ref (σ.length + 1)) σ₁) (σ ++ [.dict [], .inst C σ.length])) : TCall W (n + 1) (.stat (.ref C)) args Q σ := by
  intro A P as s fv vals hr hP hfv hv R Qc E c
  cases hfv
  have XS : K.In s.heap := X.keeps fun b o e => R.keep _ _ (hP _ _ e)
  obtain ⟨hp, g, d, t, os⟩ := s
  refine wpAny_call (make_core (makes_of XS hm) (looks_findIn XS hi) (fun self => bind_fn XS self hf) (.inl rfl) ?_)
  have R₁ : Rep W P (as ++ [hp.objs.size]) (σ ++ [.dict []]) (hp.push emptyDict) := R.push (ao := .dict []) rfl rfl ⟨[], 0, rfl, trivial⟩
  have hl : as.length = σ.length := R.len
  have R₂ : Rep W P ((as ++ [hp.objs.size]) ++ [(hp.push emptyDict).objs.size]) ((σ ++ [.dict []]) ++ [.inst C σ.length]) ((hp.push emptyDict).push (instObj C hp.objs.size)) :=
    R₁.push (ao := .inst C σ.length) rfl rfl ⟨hp.objs.size, by simp [← hl], rfl⟩
  have e1 : (hp.push emptyDict).objs.size = hp.objs.size + 1 := Heap.size_push ..
  rw [e1] at R₂
  have ext : Ext as ((as ++ [hp.objs.size]) ++ [hp.objs.size + 1]) := (Ext.snoc ..).trans (Ext.snoc ..)
  refine codeAny_mono (h (A.under (.builtin "type.__call__" ⟨.ref C :: vals, []⟩)) P ((as ++ [hp.objs.size]) ++ [hp.objs.size + 1]) ⟨(hp.push emptyDict).push (instObj C hp.objs.size), g, d, t, os⟩ (.ref f) (.ref (hp.objs.size + 1) :: vals)
    (hr.make C vals []) hP rfl ⟨⟨hp.objs.size + 1, by simp [← hl], rfl⟩, hv.ext ext⟩ (by simpa using R₂)
    (fun v s' => v = .none ∧ Qc (.ref (hp.objs.size + 1)) s') E fun v av h' tk' as' σ' x' r' R' q' => ?_) fun r s' z => ?_
  · obtain ⟨rfl, q⟩ := q'
    cases r'
    exact ⟨rfl, c _ (.ref (σ.length + 1)) h' tk' as' σ' (ext.trans x') ⟨hp.objs.size + 1, x'.get (by simp [← hl]), rfl⟩ R' q⟩
  · rcases r with e | (v | _ | _ | _) <;> exact z
end
end Mine
end
section
set_option maxRecDepth 100000
namespace Mine
open PySem PySem.W PyProof.Rows

def fnBody (p : Program) (i : Nat) : List Stmt := match p.main.body[i]? with
  | some (.FunctionDef _ _ b _ _ _ _ _ _ _) => b
  | _ => []
def fnScope (p : Program) (i : Nat) : Scope := match p.main.body[i]? with
  | some (.FunctionDef _ _ _ _ _ _ s _ _ _) => s
  | _ => p.main.scope
def methBody (p : Program) (i j : Nat) : List Stmt := match p.main.body[i]? with
  | some (.ClassDef _ _ _ b _ _ _ _ _ _ _) => (match b[j]? with
    | some (.FunctionDef _ _ b _ _ _ _ _ _ _) => b
    | _ => [])
  | _ => []
def methScope (p : Program) (i j : Nat) : Scope := match p.main.body[i]? with
  | some (.ClassDef _ _ _ b _ _ _ _ _ _ _) => (match b[j]? with
    | some (.FunctionDef _ _ _ _ _ _ s _ _ _) => s
    | _ => p.main.scope)
  | _ => p.main.scope

theorem ints_rel {as : List Addr} : ∀ {vs : List Value} {ns : List Int}, IntsAre vs ns → VsRel as vs (ns.map AV.int)
  | _, _, .nil => trivial
  | _, _, .cons n t r => ⟨⟨t, rfl⟩, ints_rel r⟩

theorem law_bridge {l : OpenLaw} {w : World} {p : Program} {loose : List Str} {mean : ExcName → Option Value} {mg mb : Str → Option Value} {s₁ : Shared} {cl : Str → Option Addr} {mean' : ExcName → Option Value} {args : List WData} {fa ad : Addr} {vs : List Value} {ns : List Int}
    (T : Top p loose mean mg mb s₁.heap) (hL : s₁.heap.IsList ad vs.toArray) (hI : IntsAre vs ns) (hg : s₁.gens = #[])
    (h : TCode ⟨l.prog, w, s₁.heap, mg, mb, T.g, T.b, T.builtins, T.nolimit⟩ 20 (.stat (.ref fa)) [.ref 0] (fun v _ => v = .bool true) [.ints ns]) :
    wpAny (model l.row.prog w) callerA (call (.ref fa) [.ref ad]) (fun v s' => GoodWG l.row.claim cl mean' args s₁ (.ok (.ret v)) s') (fun e s' => GoodWG l.row.claim cl mean' args s₁ (.error e) s') s₁ := by
  obtain ⟨o, ho, hc, k, hd⟩ := hL
  refine h.call callerA (fun a o => s₁.heap.get? a = some o) [ad] s₁ (.ref fa) [.ref ad] ⟨rfl, by decide, by decide⟩ (fun a o e => e) rfl ⟨⟨ad, rfl, rfl⟩, trivial⟩ ?_ _ _ fun v av h' tk' as' σ' x' r' R' q' => ?_
  · refine ⟨rfl, by simp, fun a o e => e, fun i a ao e1 e2 => ?_⟩
    have hi : i = 0 := by
      cases i with
      | zero => rfl
      | succ i => simp at e1
    subst hi
    have : a = ad := by simpa using e1.symm
    subst this
    have : ao = .ints ns := by simpa using e2.symm
    subst this
    exact ⟨o, ho, ⟨vs, k, hc, hd, ints_rel hI⟩, fun q => (nomatch q), fun _ => ho⟩
  · subst q'
    cases r'
    refine GoodW.toG ⟨.inl ⟨.bool true, .bool true, [], rfl, fun _ => rfl, .bool true, postW_of (r := l.row.toRowW) rfl (w_eq_bool (w_res rfl) w_lit) rfl, fun _ => ⟨.nil, fun _ ha => nomatch ha⟩⟩, fun b o e => R'.keep b o e, rfl, hg⟩
end Mine
end
section
set_option maxRecDepth 100000
namespace Mine
open PySem PySem.W

/-- all that stood stands -/
def Sub (σ σ' : AH) : Prop := ∀ (i : Nat) o, σ[i]? = some o → σ'[i]? = some o
theorem Sub.refl (σ : AH) : Sub σ σ := fun _ _ h => h
theorem Sub.trans {a b c : AH} (x : Sub a b) (y : Sub b c) : Sub a c := fun i o h => y i o (x i o h)
theorem lt_of_get {σ : AH} {i : Nat} {o : AO} (h : σ[i]? = some o) : i < σ.length := (List.getElem?_eq_some_iff.mp h).1
theorem Sub.snoc (σ : AH) (l : AH) : Sub σ (σ ++ l) := fun i o h => by rw [List.getElem?_append_left (lt_of_get h)]; exact h
theorem get_snoc (σ : AH) (o : AO) : (σ ++ [o])[σ.length]? = some o := by simp
theorem Sub.len {σ σ' : AH} (h : Sub σ σ') : σ.length ≤ σ'.length := by
  cases q : σ.length with
  | zero => exact Nat.zero_le _
  | succ k =>
    have : σ[k]? = some σ[k] := by simp
    exact lt_of_get (h k _ this)
/-- all that stood stands, but for one -/
def SubX (l : Nat) (σ σ' : AH) : Prop := ∀ (i : Nat) o, i ≠ l → σ[i]? = some o → σ'[i]? = some o
theorem Sub.x {l : Nat} {σ σ' : AH} (h : Sub σ σ') : SubX l σ σ' := fun i o _ e => h i o e
theorem SubX.trans {l : Nat} {a b c : AH} (x : SubX l a b) (y : SubX l b c) : SubX l a c := fun i o h e => y i o h (x i o h e)
theorem SubX.set {l : Nat} (σ : AH) (o : AO) : SubX l σ (σ.set l o) := fun i o' h e => by rw [List.getElem?_set_ne (Ne.symm h)]; exact e
theorem get_set {σ : AH} {l : Nat} {o o' : AO} (h : σ[l]? = some o) : (σ.set l o')[l]? = some o' := by
  have := lt_of_get h; simp [this]

section
variable {W : Wd} {n : Nat} {sc : Scope} {m : Locs} {σ : AH} {pos : Pos} {Q : AV → AH → Prop}
theorem te_callB {x : Str} {p : Pos} {v : Value} {args : List Expr} (hm : W.mg x = none) (hb : bootBuiltins x = some v) (hn : x ≠ "__name__") (hg : globOk sc x = true) (hk : Keeps W v) (hs : args.all notStar = true)
    (h : TEs W n sc m args (fun vs σ₁ => TCall W n (.stat v) vs Q σ₁) σ) : TE W n sc m (.Call (.Name x p) args [] pos) Q σ :=
  te_call rfl hs (te_builtin hm hb hn hg ⟨⟨v, rfl, hk⟩, h⟩)
theorem te_callG {x : Str} {p : Pos} {v : Value} {args : List Expr} (hm : W.mg x = some v) (hg : globOk sc x = true) (hk : Keeps W v) (hs : args.all notStar = true)
    (h : TEs W n sc m args (fun vs σ₁ => TCall W n (.stat v) vs Q σ₁) σ) : TE W n sc m (.Call (.Name x p) args [] pos) Q σ :=
  te_call rfl hs (te_glob hm hg ⟨⟨v, rfl, hk⟩, h⟩)
theorem FnIs.keeps {f : Addr} {ps : List Str} {body : List Stmt} {sc : Scope} (F : FnIs W f ps body sc) : Keeps W (.ref f) := by
  obtain ⟨o, fd, h1, h2, _⟩ := F.ex; exact .fn h1 h2
theorem te_listE (es : List Expr) (h : TEs W n sc m es (fun vs σ₁ => vs.length ≤ sizeLine ∧ ∀ i σ₂, i = σ₁.length → Sub σ₁ σ₂ → σ₂[i]? = some (.list vs) → Q (.ref i) σ₂) σ) : TE W n sc m (.List es pos) Q σ := by
  refine te_list (fun A env P as s pos hr he hi hl R Qc E c => h A env P as s pos hr he hi hl R Qc E fun vs avs h' tk' as' σ' x r R' q => c vs avs h' tk' as' σ' x r R' ⟨q.1, q.2 _ _ rfl (Sub.snoc _ _) (get_snoc _ _)⟩)
end
/-- fewer names -/
def LE (m m' : Locs) : Prop := ∀ x av, m.lookup x = some av → m'.lookup x = some av
theorem LE.nil {m : Locs} : LE [] m := fun _ _ h => by simp at h
theorem LE.cons {x : Str} {v : AV} {m m' : Locs} (h : m'.lookup x = some v) (r : LE m m') : LE ((x, v) :: m) m' := fun y av q => by
  rw [List.lookup_cons] at q
  cases e : y == x with
  | true => rw [e] at q; cases q; rw [beq_iff_eq.mp e]; exact h
  | false => rw [e] at q; exact r y av q
theorem LE.refl (m : Locs) : LE m m := fun _ _ h => h
theorem LE.loc {P : Pr} {env : Env} {m m' : Locs} {as : List Addr} (h : LE m m') (l : Loc P env m' as) : Loc P env m as :=
  ⟨let ⟨oL, mm, a, b, c⟩ := l.loc; ⟨oL, mm, a, b, fun x av q => c x av (h x av q)⟩, fun x av q => l.cel x av (h x av q)⟩
theorem TX.forget {W : Wd} {n : Nat} {sc : Scope} {t : Env → Sem Flow} {Q : AF → Locs → AH → Prop} {m m' : Locs} {σ : AH} (h : LE m m') (x : TX W n sc t Q m σ) : TX W n sc t Q m' σ :=
  fun A env own P O as s r e i o l R => x A env own P O as s r e i o (h.loc l) R
theorem TA.forget {W : Wd} {n : Nat} {sc : Scope} {t : Expr} {v : AV} {Q : Locs → AH → Prop} {m m' : Locs} {σ : AH} (h : LE m m') (x : TA W n sc t v Q m σ) : TA W n sc t v Q m' σ :=
  fun A env own P O as s vv r e i o l R => x A env own P O as s vv r e i o (h.loc l) R
theorem range_up {a b : Int} {len : Nat} (h : b - a = len ∨ (b ≤ a ∧ len = 0)) : Builtin.Range.rangeSize a b 1 = (len : Int) := by
  unfold Builtin.Range.rangeSize
  rw [if_pos (by decide)]
  split
  · rw [Int.ediv_one]; omega
  · omega
end Mine
end
section
set_option maxRecDepth 100000
namespace Mine
open PySem PySem.W PyProof.Rows
/-- the def at f of the fragment, as FnIs -/
def fnAt (K : Frag) (f : Addr) : Option FuncData := match K.lookup f with
  | some ⟨_, _, .func fd, _⟩ => some fd
  | _ => none
theorem fn_ofK {W : Wd} {K : Frag} (X : K.In W.H) {f : Addr} {ps : List Str} {body : List Stmt} {sc : Scope} {fd : FuncData} (h1 : fnAt K f = some fd) (h2 : fd.body = .stmts body) (h3 : fd.scope = sc) (h4 : fd.closure = []) (h5 : fd.globals = mainGlobals) (h6 : fd.builtins = builtinsNs) (h7 : codeIn K fd.code fd.qualname = true)
    (h8 : ∀ vals : List Value, vals.length = ps.length → bindArgs fd ⟨vals, []⟩ = pure (ps.zip vals)) (h9 : (sc.kind == .function && !sc.isCoroutine && !sc.isGenerator && decide ps.Nodup && ps.all fun x => storeOk sc x) = true) : FnIs W f ps body sc := by
  simp only [Bool.and_eq_true, Bool.not_eq_true', decide_eq_true_eq] at h9
  obtain ⟨⟨⟨⟨a, b⟩, c⟩, d⟩, e⟩ := h9
  refine ⟨?_, by simpa using a, b, c, d, e⟩
  unfold fnAt at h1
  split at h1
  · rename_i o c' d' fd' s' q
    cases h1
    exact ⟨_, fd, X _ _ q, rfl, h2, h3, h4, h5, h6, codeRec_of X h7, h8⟩
  · cases h1
theorem ar0 {p : List Value → Prop} (h : p []) (vals : List Value) (e : vals.length = 0) : p vals := by
  rw [List.eq_nil_of_length_eq_zero e]; exact h
theorem ar1 {p : List Value → Prop} (h : ∀ a, p [a]) (vals : List Value) (e : vals.length = 1) : p vals := by
  obtain ⟨a, rfl⟩ := List.length_eq_one_iff.mp e; exact h a
theorem ar2 {p : List Value → Prop} (h : ∀ a b, p [a, b]) (vals : List Value) (e : vals.length = 2) : p vals := by
  cases vals with
  | nil => cases e
  | cons a vs => obtain ⟨b, rfl⟩ := List.length_eq_one_iff.mp (Nat.succ.inj e); exact h a b
theorem ar3 {p : List Value → Prop} (h : ∀ a b c, p [a, b, c]) (vals : List Value) (e : vals.length = 3) : p vals := by
  cases vals with
  | nil => cases e
  | cons a vs => exact ar2 (p := fun vs => p (a :: vs)) (h a) vs (Nat.succ.inj e)
end Mine
end
section
set_option maxRecDepth 100000
set_option linter.unusedVariables false
namespace Mine
open PySem

theorem pickL_plain {α : Type} (xs : List α) (lo hi : Option Int) : pickL xs lo hi none = (xs.drop (lo.elim 0 (clipAt xs.length))).take (hi.elim xs.length (clipAt xs.length) - lo.elim 0 (clipAt xs.length)) := by
  unfold pickL
  rw [sliceBounds_plain]
  have := fun a k => pick_run xs.toArray a k
  simp only [List.getElem?_toArray] at this
  simp only [sliceRange_one, this]
theorem pickL_from {α : Type} (xs : List α) (a : Nat) : pickL xs (some (a : Int)) none none = xs.drop a := by
  rw [pickL_plain]
  simp only [Option.elim, clipAt_nat]
  rcases Nat.le_total a xs.length with h | h
  · rw [Nat.min_eq_left h, List.take_of_length_le (by simp)]
  · rw [Nat.min_eq_right h, List.drop_of_length_le (by simp), List.drop_of_length_le (by simpa using h)]; simp
theorem pickL_upto {α : Type} (xs : List α) (b : Nat) : pickL xs none (some (b : Int)) none = xs.take b := by
  rw [pickL_plain]
  simp only [Option.elim, clipAt_nat, List.drop_zero, Nat.sub_zero]
  rcases Nat.le_total b xs.length with h | h
  · rw [Nat.min_eq_left h]
  · rw [Nat.min_eq_right h, List.take_of_length_le (by simp), List.take_of_length_le (by simpa using h)]
theorem pickL_run {α : Type} (xs : List α) (a b : Nat) : pickL xs (some (a : Int)) (some (b : Int)) none = (xs.drop a).take (b - a) := by
  rw [pickL_plain]
  simp only [Option.elim, clipAt_nat]
  rcases Nat.le_total a xs.length with h | h
  · rw [Nat.min_eq_left h]
    rcases Nat.le_total b xs.length with h' | h'
    · rw [Nat.min_eq_left h']
    · rw [Nat.min_eq_right h', List.take_of_length_le (by simp), List.take_of_length_le (by simp; omega)]
  · rw [Nat.min_eq_right h, List.drop_of_length_le (Nat.le_refl _), List.drop_of_length_le h]; simp
theorem pickL_lastK {α : Type} (xs : List α) (k : Nat) (hk : 1 ≤ k) : pickL xs (some (-(k : Int))) none none = xs.drop (xs.length - k) := by
  rw [pickL_plain]
  simp only [Option.elim, clipAt_neg _ _ hk]
  rw [List.take_of_length_le (by simp)]

section
variable {W : Wd} {n : Nat} {σ : AH} {Q : AV → AH → Prop}
theorem items_of {as : List Addr} : ∀ {vs : List Value} {ns : List Int}, VsRel as vs (ns.map AV.int) → ∃ xs : List (Int × Tok), vs = xs.map (fun p => Value.int p.1 p.2) ∧ xs.map (·.1) = ns
  | [], [], _ => ⟨[], rfl, rfl⟩
  | v :: vs, n :: ns, ⟨⟨t, e⟩, r⟩ => by
    obtain ⟨xs, h1, h2⟩ := items_of r
    exact ⟨(n, t) :: xs, by rw [e, h1]; rfl, by rw [← h2]; rfl⟩
theorem num_mem {xs : List (Int × Tok)} {k : Nat} (hp : 0 < xs.length) (hk : k ≤ xs.toArray.size - 1) : numAt xs.toArray k ∈ xs.map (·.1) := by
  have hk' : k < (xs.map (·.1)).length := by simp at hk ⊢; omega
  rw [numAt_eq, List.getD_eq_getElem?_getD]
  show ((xs.map (·.1))[k]?).getD 0 ∈ _
  rw [List.getElem?_eq_getElem hk']
  exact List.getElem_mem hk'
theorem tcall_maxL {l : Nat} {ns : List Int} (hl : σ[l]? = some (.list (ns.map .int))) (hne : ns ≠ []) (h : ∀ M, M ∈ ns → (∀ a ∈ ns, a ≤ M) → Q (.int M) σ) : TCall W n (.stat (.builtin "max")) [.ref l] Q σ := by
  intro A P as s fv vals hr hi hf hv R Qc E c
  cases hf
  obtain ⟨v, rfl, hv1⟩ := VsRel.x1 hv
  obtain ⟨a, o, rfl, e1, e2, r⟩ := R.ref hv1 hl
  obtain ⟨vs, hL, hvs⟩ := isList_of e2 r
  obtain ⟨xs, rfl, rfl⟩ := items_of hvs
  have e : (xs.map fun p => Value.int p.1 p.2).toArray = intItems xs.toArray := by simp [intItems]
  rw [e] at hL
  have hpos : 0 < xs.length := by cases xs with | nil => exact absurd rfl hne | cons => simp
  refine max_intList hr.1 hL (by simpa using hpos) fun v h' tk hv' keep => ?_
  obtain ⟨t, rfl⟩ := intItems_at hv'
  obtain ⟨b1, b2⟩ := argBest_gt (numAt xs.toArray) (xs.toArray.size - 1)
  refine c _ (.int _) h' tk as σ (Ext.refl _) ⟨t, rfl⟩ (R.grow keep) (h _ ?_ ?_)
  · exact num_mem hpos b1
  · intro x hx
    obtain ⟨j, hj, rfl⟩ := List.mem_iff_getElem.mp hx
    have := b2 j (by simp at hj ⊢; omega)
    rw [numAt_eq _ j, List.getD_eq_getElem?_getD, List.getElem?_eq_getElem hj] at this
    exact this
theorem tcall_minL {l : Nat} {ns : List Int} (hl : σ[l]? = some (.list (ns.map .int))) (hne : ns ≠ []) (h : ∀ M, M ∈ ns → (∀ a ∈ ns, M ≤ a) → Q (.int M) σ) : TCall W n (.stat (.builtin "min")) [.ref l] Q σ := by
  intro A P as s fv vals hr hi hf hv R Qc E c
  cases hf
  obtain ⟨v, rfl, hv1⟩ := VsRel.x1 hv
  obtain ⟨a, o, rfl, e1, e2, r⟩ := R.ref hv1 hl
  obtain ⟨vs, hL, hvs⟩ := isList_of e2 r
  obtain ⟨xs, rfl, rfl⟩ := items_of hvs
  have e : (xs.map fun p => Value.int p.1 p.2).toArray = intItems xs.toArray := by simp [intItems]
  rw [e] at hL
  have hpos : 0 < xs.length := by cases xs with | nil => exact absurd rfl hne | cons => simp
  refine min_intList hr.1 hL (by simpa using hpos) fun v h' tk hv' keep => ?_
  obtain ⟨t, rfl⟩ := intItems_at hv'
  obtain ⟨b1, b2⟩ := argBest_lt (numAt xs.toArray) (xs.toArray.size - 1)
  refine c _ (.int _) h' tk as σ (Ext.refl _) ⟨t, rfl⟩ (R.grow keep) (h _ ?_ ?_)
  · exact num_mem hpos b1
  · intro x hx
    obtain ⟨j, hj, rfl⟩ := List.mem_iff_getElem.mp hx
    have := b2 j (by simp at hj ⊢; omega)
    rw [numAt_eq _ j, List.getD_eq_getElem?_getD, List.getElem?_eq_getElem hj] at this
    exact this
end

/-! data over the abstract heap -/
theorem denInts (σ : AH) : ∀ ns : List Int, DenAll σ (ns.map .int) (ns.map .int)
  | [] => .nil
  | n :: ns => .cons (.int n) (denInts σ ns)
theorem canInts (ns : List Int) : (PyData.list (ns.map .int)).canLay0 = true := by
  rw [PyData.canLay0]
  induction ns with
  | nil => rfl
  | cons n ns ih => rw [List.map_cons, PyData.canLayAll0, ih]; rfl
theorem depInts (ns : List Int) : (PyData.list (ns.map .int)).depth ≤ 1 := by
  rw [PyData.depth]
  have : PyData.depthAll (ns.map .int) = 0 := by
    induction ns with
    | nil => rfl
    | cons n ns ih => rw [List.map_cons, PyData.depthAll, ih]; rfl
  omega
/-- a row of rows -/
def rowsD (rs : List (List Int)) : PyData := .list (rs.map fun r => .list (r.map .int))
theorem canRows (rs : List (List Int)) : (rowsD rs).canLay0 = true := by
  rw [rowsD, PyData.canLay0]
  induction rs with
  | nil => rfl
  | cons n ns ih => rw [List.map_cons, PyData.canLayAll0, ih, canInts]; rfl
theorem depRows (rs : List (List Int)) : (rowsD rs).depth ≤ 2 := by
  rw [rowsD, PyData.depth]
  have : PyData.depthAll (rs.map fun r => .list (r.map .int)) ≤ 1 := by
    induction rs with
    | nil => decide
    | cons n ns ih => rw [List.map_cons, PyData.depthAll]; have := depInts n; omega
  omega
/-- the rows at the places of a list; none of them is the place l -/
def RowsIn (l : Nat) (σ : AH) : List Nat → List (List Int) → Prop
  | [], [] => True
  | i :: is, r :: rs => (i ≠ l ∧ σ[i]? = some (.list (r.map .int))) ∧ RowsIn l σ is rs
  | _, _ => False
def Rows (σ : AH) (l : Nat) (rs : List (List Int)) : Prop := ∃ is : List Nat, σ[l]? = some (.list (is.map .ref)) ∧ RowsIn l σ is rs
theorem RowsIn.length {l : Nat} {σ : AH} : ∀ {is : List Nat} {rs : List (List Int)}, RowsIn l σ is rs → is.length = rs.length
  | [], [], _ => rfl
  | _ :: _, _ :: _, h => by simp [RowsIn.length h.2]
theorem RowsIn.sub {l : Nat} {σ σ' : AH} (s : SubX l σ σ') : ∀ {is : List Nat} {rs : List (List Int)}, RowsIn l σ is rs → RowsIn l σ' is rs
  | [], [], _ => trivial
  | _ :: _, _ :: _, h => ⟨⟨h.1.1, s _ _ h.1.1 h.1.2⟩, RowsIn.sub s h.2⟩
theorem RowsIn.off {l l' : Nat} {σ : AH} (s : ∀ r, σ[l']? ≠ some (.list (List.map AV.int r))) : ∀ {is : List Nat} {rs : List (List Int)}, RowsIn l σ is rs → RowsIn l' σ is rs
  | [], [], _ => trivial
  | i :: is, r :: rs, h => ⟨⟨fun e => s r (e ▸ h.1.2), h.1.2⟩, RowsIn.off s h.2⟩
theorem RowsIn.new {l l' : Nat} {σ : AH} (hl : σ.length ≤ l') : ∀ {is : List Nat} {rs : List (List Int)}, RowsIn l σ is rs → RowsIn l' σ is rs
  | [], [], _ => trivial
  | i :: is, r :: rs, h => ⟨⟨fun e => by have := lt_of_get h.1.2; omega, h.1.2⟩, RowsIn.new hl h.2⟩
theorem RowsIn.append {l : Nat} {σ : AH} : ∀ {is js : List Nat} {rs qs : List (List Int)}, RowsIn l σ is rs → RowsIn l σ js qs → RowsIn l σ (is ++ js) (rs ++ qs)
  | [], _, [], _, _, h => h
  | [], _, _ :: _, _, h, _ => h.elim
  | _ :: _, _, [], _, h, _ => h.elim
  | _ :: _, _, _ :: _, _, h, h' => ⟨h.1, RowsIn.append h.2 h'⟩
theorem RowsIn.take {l : Nat} {σ : AH} : ∀ (k : Nat) {is : List Nat} {rs : List (List Int)}, RowsIn l σ is rs → RowsIn l σ (is.take k) (rs.take k)
  | 0, _, _, _ => by simp [RowsIn]
  | _ + 1, [], [], _ => trivial
  | k + 1, _ :: _, _ :: _, h => ⟨h.1, RowsIn.take k h.2⟩
theorem RowsIn.drop {l : Nat} {σ : AH} : ∀ (k : Nat) {is : List Nat} {rs : List (List Int)}, RowsIn l σ is rs → RowsIn l σ (is.drop k) (rs.drop k)
  | 0, _, _, h => by simpa using h
  | _ + 1, [], [], _ => trivial
  | k + 1, _ :: _, _ :: _, h => RowsIn.drop k h.2
theorem RowsIn.get {l : Nat} {σ : AH} : ∀ {is : List Nat} {rs : List (List Int)}, RowsIn l σ is rs → ∀ {j : Nat} {r : List Int}, rs[j]? = some r → ∃ i, is[j]? = some i ∧ i ≠ l ∧ σ[i]? = some (.list (r.map .int))
  | [], [], _, _, _, e => by simp at e
  | i :: is, r :: rs, h, 0, _, e => ⟨i, rfl, by cases e; exact h.1⟩
  | i :: is, r :: rs, h, j + 1, _, e => RowsIn.get h.2 (j := j) (by simpa using e)
theorem RowsIn.geti {l : Nat} {σ : AH} : ∀ {is : List Nat} {rs : List (List Int)}, RowsIn l σ is rs → ∀ {j i : Nat}, is[j]? = some i → ∃ r, rs[j]? = some r ∧ i ≠ l ∧ σ[i]? = some (.list (r.map .int))
  | [], [], _, _, _, e => by simp at e
  | i :: is, r :: rs, h, 0, _, e => ⟨r, rfl, by cases e; exact h.1⟩
  | i :: is, r :: rs, h, j + 1, _, e => RowsIn.geti h.2 (j := j) (by simpa using e)
theorem RowsIn.den {l : Nat} {σ : AH} : ∀ {is : List Nat} {rs : List (List Int)}, RowsIn l σ is rs → DenAll σ (is.map .ref) (rs.map fun r => .list (r.map .int))
  | [], [], _ => .nil
  | _ :: _, _ :: _, h => .cons (.list h.1.2 (denInts _ _)) (RowsIn.den h.2)
theorem Rows.den {σ : AH} {l : Nat} {rs : List (List Int)} (h : Rows σ l rs) : Den σ (.ref l) (rowsD rs) := by
  obtain ⟨is, h1, h2⟩ := h; exact .list h1 h2.den
theorem Rows.sub {σ σ' : AH} {l : Nat} {rs : List (List Int)} (h : Rows σ l rs) (s : Sub σ σ') : Rows σ' l rs := by
  obtain ⟨is, h1, h2⟩ := h; exact ⟨is, s _ _ h1, h2.sub s.x⟩
theorem Rows.nil {σ : AH} {l : Nat} (h : σ[l]? = some (.list [])) : Rows σ l [] := ⟨[], h, trivial⟩
theorem Rows.push {σ : AH} {l i : Nat} {is : List Nat} {rs : List (List Int)} {r : List Int} (h1 : σ[l]? = some (.list (is.map .ref))) (h2 : RowsIn l σ is rs) (hi : i ≠ l) (hr : σ[i]? = some (.list (r.map .int))) : Rows (σ.set l (.list (is.map .ref ++ [.ref i]))) l (rs ++ [r]) :=
  ⟨is ++ [i], by rw [get_set h1]; simp, (h2.sub (SubX.set σ _)).append ⟨⟨hi, by rw [List.getElem?_set_ne (Ne.symm hi)]; exact hr⟩, trivial⟩⟩
end Mine
end
section
set_option maxRecDepth 100000
set_option linter.unusedVariables false
namespace Mine
open PySem

abbrev cutQ (R : Locs → AH → Prop) (Q : AF → Locs → AH → Prop) : AF → Locs → AH → Prop
  | .next => R
  | .brk => Q .brk
  | .cont => Q .cont
  | .ret v => Q (.ret v)
theorem RowsIn.one {l i : Nat} {σ : AH} {r : List Int} (h : i ≠ l) (e : σ[i]? = some (.list (r.map .int))) : RowsIn l σ [i] [r] := ⟨⟨h, e⟩, trivial⟩
theorem flatten_len {k : Nat} : ∀ {rs : List (List Int)}, (∀ r ∈ rs, r.length ≤ k) → rs.flatten.length ≤ rs.length * k
  | [], _ => by simp
  | r :: rs, h => by
    have h1 := h r (.head _)
    have h2 := flatten_len (rs := rs) fun r hr => h r (.tail _ hr)
    rw [List.flatten_cons, List.length_append, List.length_cons, Nat.add_mul]; omega
theorem LE.trans {a b c : Locs} (x : LE a b) (y : LE b c) : LE a c := fun k v e => y k v (x k v e)
section
variable {W : Wd} {n : Nat} {sc : Scope} {m : Locs} {σ : AH} {pos : Pos}
/-- one statement, and what holds behind it -/
theorem ts_cut {st : Stmt} {rest : List Stmt} {Q : AF → Locs → AH → Prop} (R : Locs → AH → Prop) (h : TS W n sc st (cutQ R Q) m σ) (k : ∀ m' σ', R m' σ' → TSs W n sc rest Q m' σ') : TSs W n sc (st :: rest) Q m σ :=
  ts_cons (h.mono fun f m' σ' q => by cases f <;> first | exact k _ _ q | exact q)
theorem tifs_nil {QB : Bool → AH → Prop} (h : QB true σ) : TIfs W n sc m [] QB σ := h
theorem tifs_cons {c : Expr} {cs : List Expr} {QB : Bool → AH → Prop} (h : TT W n sc m c (fun b σ₁ => if b then TIfs W n sc m cs QB σ₁ else QB false σ₁) σ) : TIfs W n sc m (c :: cs) QB σ := h
theorem pyIdx_nat {len : Nat} {k : Int} {j : Nat} (hk : k = (j : Int)) (hj : j < len) : pyIdx len k = some j := by
  subst hk; unfold pyIdx; rw [if_pos (by omega), if_pos (by omega)]; simp
variable {Q : AV → AH → Prop}
theorem tidx_nums {value slice : Expr} {l : Nat} {zs : List Int} {k : Int} {j : Nat} (hns : notSlice slice = true) (hl : σ[l]? = some (.list (zs.map .int))) (hk : k = (j : Int)) (hj : j < zs.length) (hz : j < 2 ^ 62) (h : Q (.int zs[j]) σ) : TIdx W n value slice (.ref l) (.int k) Q σ :=
  tidx_list hns hl (pyIdx_nat hk (by simpa using hj)) (x := .int zs[j]) (by simp [hj]) (by omega) h
theorem tidx_row {value slice : Expr} {l : Nat} {rs : List (List Int)} {k : Int} {j : Nat} (hns : notSlice slice = true) (hl : Rows σ l rs) (hk : k = (j : Int)) (hj : j < rs.length) (hz : j < 2 ^ 62) (h : ∀ i, i ≠ l → σ[i]? = some (.list (rs[j].map .int)) → Q (.ref i) σ) : TIdx W n value slice (.ref l) (.int k) Q σ := by
  obtain ⟨is, h1, h2⟩ := hl
  obtain ⟨i, e1, e2, e3⟩ := h2.get (j := j) (r := rs[j]) (by simp)
  exact tidx_list hns h1 (pyIdx_nat hk (by simp [h2.length]; exact hj)) (x := .ref i) (by simp [e1]) (by omega) (h i e2 e3)
abbrev intQ (QO : Option Int → AH → Prop) : AV → AH → Prop
  | .int k, σ => QO (some k) σ
  | _, _ => False
theorem topt_none {QO : Option Int → AH → Prop} (h : QO none σ) : TOpt W n sc m none QO σ := h
theorem topt_some {e : Expr} {QO : Option Int → AH → Prop} (h : TE W n sc m e (intQ QO) σ) : TOpt W n sc m (some e) QO σ :=
  TE.mono h fun v σ q => by cases v <;> first | exact ⟨_, rfl, q⟩ | exact q.elim
theorem fmod_nat (a : Int) (b : Nat) (hb : 0 < b) : ∃ k : Nat, a.fmod (b : Int) = k ∧ k < b := by
  refine ⟨(a.fmod b).toNat, ?_, ?_⟩
  all_goals
    rw [Int.fmod_eq_emod_of_nonneg _ (by omega)]
    have h1 := Int.emod_nonneg a (b := (b : Int)) (by omega)
    have h2 := Int.emod_lt_of_pos a (b := (b : Int)) (by omega)
    omega
end
end Mine
end
section
set_option maxRecDepth 100000
set_option linter.unusedVariables false
namespace Mine
open PySem PySem.W

/-! classes of the text -/
def attrOk (K : Frag) (C : Addr) (a : Str) : Bool := (match takerIn K C a with | some none => true | _ => false) && plainGet K C a && (match findIn K (.ref C) a with | some none => true | _ => false)
structure ClsIs (W : Wd) (K : Frag) (C : Addr) (attrs : List Str) : Prop where
  X : K.In W.H
  keep : keepIn K (.ref C) = true
  makes : makesIn K C = true
  hasD : hasDictIn K C = true
  over : plainOver K C = true
  seta : findIn K (.ref C) "__setattr__" = some (some (.builtin "object.__setattr__"))
  ats : (attrs.all fun a => attrOk K C a) = true
structure MethIs (W : Wd) (K : Frag) (C : Addr) (name : Str) (f : Addr) (ps : List Str) (body : List Stmt) (sc : Scope) : Prop where
  find : findIn K (.ref C) name = some (some (.ref f))
  get : plainGet K C name = true
  ty : typeIn K (.ref f) = some (.type "function")
  fn : FnIs W f ps body sc
theorem ClsIs.at {W : Wd} {K : Frag} {C : Addr} {attrs : List Str} (c : ClsIs W K C attrs) {a : Str} (h : attrs.contains a = true) : takerIn K C a = some none ∧ plainGet K C a = true ∧ findIn K (.ref C) a = some none := by
  have := List.all_eq_true.mp c.ats a (by simpa using h)
  unfold attrOk at this
  rw [Bool.and_eq_true, Bool.and_eq_true] at this
  refine ⟨?_, this.1.2, ?_⟩
  · have h1 := this.1.1
    split at h1
    · assumption
    · cases h1
  · have h1 := this.2
    split at h1
    · assumption
    · cases h1
section
variable {W : Wd} {K : Frag} {C : Addr} {attrs : List Str} {n : Nat} {sc : Scope} {m : Locs} {σ : AH} {pos : Pos} {Q : AV → AH → Prop}
theorem ClsIs.keeps (c : ClsIs W K C attrs) : Keeps W (.ref C) := .cls c.X c.keep
theorem ClsIs.get (c : ClsIs W K C attrs) {i d : Nat} {fs : List (Str × AV)} {attr : Str} {v : AV} (hi : σ[i]? = some (.inst C d)) (hd : σ[d]? = some (.dict fs)) (ha : attrs.contains attr = true) (hf : fs.lookup attr = some v) (hh : avHanded v = true) (h : Q v σ) : TGetA W n (.ref i) attr Q σ :=
  tgeta c.X hi hd hf hh (c.at ha).2.1 c.hasD (c.at ha).2.2 h
theorem ClsIs.set (c : ClsIs W K C attrs) {i d : Nat} {fs : List (Str × AV)} {attr : Str} {v : AV} {QH : AH → Prop} (hi : σ[i]? = some (.inst C d)) (hd : σ[d]? = some (.dict fs)) (ha : attrs.contains attr = true) (hl : fs.length < 1000) {fs' : List (Str × AV)} (he : setL attr v fs = fs') (h : QH (σ.set d (.dict fs'))) : TSetA W n (.ref i) attr v QH σ :=
  tseta c.X hi hd hl c.seta c.over (c.at ha).1 c.hasD (he ▸ h)
theorem ClsIs.meth (c : ClsIs W K C attrs) {i d : Nat} {fs : List (Str × AV)} {name : Str} {f : Addr} {ps : List Str} {body : List Stmt} {sc' : Scope} {QM : AV → List AV → AH → Prop} (M : MethIs W K C name f ps body sc') (hi : σ[i]? = some (.inst C d)) (hd : σ[d]? = some (.dict fs)) (hf : fs.lookup name = none) (h : QM (.stat (.ref f)) [.ref i] σ) : TMeth W n (.ref i) name QM σ :=
  tmeth_inst c.X hi hd hf M.get M.find M.ty M.fn.keeps h
theorem ClsIs.make (c : ClsIs W K C attrs) {f : Addr} {ps : List Str} {body : List Stmt} {sc' : Scope} {args : List AV} (M : MethIs W K C "__init__" f ps body sc')
    (h : TCode W n (.stat (.ref f)) (.ref (σ.length + 1) :: args) (fun v σ₁ => v = .none ∧ Q (.ref (σ.length + 1)) σ₁) (σ ++ [.dict [], .inst C σ.length])) : TCall W (n + 1) (.stat (.ref C)) args Q σ :=
  tcall_class c.X c.makes M.find M.ty h
end

/-! all but the places of S stays -/
def Fx (S : List Nat) (σ σ' : AH) : Prop := ∀ i o, i ∉ S → σ[i]? = some o → σ'[i]? = some o
theorem Fx.refl (S : List Nat) (σ : AH) : Fx S σ σ := fun _ _ _ e => e
theorem Fx.trans {S : List Nat} {a b c : AH} (x : Fx S a b) (y : Fx S b c) : Fx S a c := fun i o h e => y i o h (x i o h e)
theorem Fx.of {S : List Nat} {a b : AH} (x : Sub a b) : Fx S a b := fun i o _ e => x i o e
theorem Fx.set {S : List Nat} {σ : AH} {l : Nat} {o : AO} (h : l ∈ S) : Fx S σ (σ.set l o) := fun i o' hi e => by
  rw [List.getElem?_set_ne (show l ≠ i from fun q => hi (q ▸ h))]; exact e
theorem Fx.up {S T : List Nat} {σ σ' : AH} (x : Fx S σ σ') (h : ∀ i ∈ S, i ∈ T) : Fx T σ σ' := fun i o hi e => x i o (fun q => hi (h i q)) e
/-- nothing goes away -/
def Gr (σ σ' : AH) : Prop := σ.length ≤ σ'.length
theorem set_len (σ : AH) (l : Nat) (o : AO) : (σ.set l o).length = σ.length := List.length_set ..
theorem get_ne {σ : AH} {l i : Nat} {o o' : AO} (h : i ≠ l) (e : σ[i]? = some o') : (σ.set l o)[i]? = some o' := by rw [List.getElem?_set_ne (Ne.symm h)]; exact e
theorem ne_of_obj {σ : AH} {i j : Nat} {o o' : AO} (h : σ[i]? = some o) (h' : σ[j]? = some o') (hn : o ≠ o') : i ≠ j := fun e => hn (by rw [e, h'] at h; exact (Option.some.inj h).symm)

/-! the trail -/
structure TrP where
  t : Nat
  d : Nat
  w : Nat
  o : Nat
  k : Nat
abbrev trFs (n : Int) (p : TrP) : List (Str × AV) := [("n", .int n), ("worths", .ref p.w), ("order", .ref p.o), ("marks", .ref p.k)]
structure TrAt (C : Addr) (p : TrP) (n : Int) (ws od mk : List Int) (σ : AH) : Prop where
  t : σ[p.t]? = some (.inst C p.d)
  d : σ[p.d]? = some (.dict (trFs n p))
  w : σ[p.w]? = some (.list (ws.map .int))
  o : σ[p.o]? = some (.list (od.map .int))
  k : σ[p.k]? = some (.list (mk.map .int))
  wo : p.w ≠ p.o
  wk : p.w ≠ p.k
  ok : p.o ≠ p.k
abbrev TrP.S (p : TrP) : List Nat := [p.w, p.o, p.k]
theorem TrAt.fx {C : Addr} {p : TrP} {n : Int} {ws od mk : List Int} {σ σ' : AH} {S : List Nat} (h : TrAt C p n ws od mk σ) (x : Fx S σ σ') (ht : p.t ∉ S) (hd : p.d ∉ S) (hw : p.w ∉ S) (ho : p.o ∉ S) (hk : p.k ∉ S) : TrAt C p n ws od mk σ' :=
  ⟨x _ _ ht h.t, x _ _ hd h.d, x _ _ hw h.w, x _ _ ho h.o, x _ _ hk h.k, h.wo, h.wk, h.ok⟩
theorem TrAt.sub {C : Addr} {p : TrP} {n : Int} {ws od mk : List Int} {σ σ' : AH} (h : TrAt C p n ws od mk σ) (x : Sub σ σ') : TrAt C p n ws od mk σ' :=
  ⟨x _ _ h.t, x _ _ h.d, x _ _ h.w, x _ _ h.o, x _ _ h.k, h.wo, h.wk, h.ok⟩
theorem TrAt.tS {C : Addr} {p : TrP} {n : Int} {ws od mk : List Int} {σ : AH} (h : TrAt C p n ws od mk σ) : p.t ∉ p.S := by
  simp only [List.mem_cons, List.not_mem_nil, or_false, not_or]
  exact ⟨ne_of_obj h.t h.w (by simp), ne_of_obj h.t h.o (by simp), ne_of_obj h.t h.k (by simp)⟩
theorem TrAt.dS {C : Addr} {p : TrP} {n : Int} {ws od mk : List Int} {σ : AH} (h : TrAt C p n ws od mk σ) : p.d ∉ p.S := by
  simp only [List.mem_cons, List.not_mem_nil, or_false, not_or]
  exact ⟨ne_of_obj h.d h.w (by simp), ne_of_obj h.d h.o (by simp), ne_of_obj h.d h.k (by simp)⟩
theorem TrAt.setW {C : Addr} {p : TrP} {n : Int} {ws od mk ws' : List Int} {σ : AH} (h : TrAt C p n ws od mk σ) : TrAt C p n ws' od mk (σ.set p.w (.list (ws'.map .int))) :=
  ⟨get_ne (ne_of_obj h.t h.w (by simp)) h.t, get_ne (ne_of_obj h.d h.w (by simp)) h.d, get_set h.w, get_ne (Ne.symm h.wo) h.o, get_ne (Ne.symm h.wk) h.k, h.wo, h.wk, h.ok⟩
theorem TrAt.setO {C : Addr} {p : TrP} {n : Int} {ws od mk od' : List Int} {σ : AH} (h : TrAt C p n ws od mk σ) : TrAt C p n ws od' mk (σ.set p.o (.list (od'.map .int))) :=
  ⟨get_ne (ne_of_obj h.t h.o (by simp)) h.t, get_ne (ne_of_obj h.d h.o (by simp)) h.d, get_ne h.wo h.w, get_set h.o, get_ne (Ne.symm h.ok) h.k, h.wo, h.wk, h.ok⟩
theorem TrAt.setK {C : Addr} {p : TrP} {n : Int} {ws od mk mk' : List Int} {σ : AH} (h : TrAt C p n ws od mk σ) : TrAt C p n ws od mk' (σ.set p.k (.list (mk'.map .int))) :=
  ⟨get_ne (ne_of_obj h.t h.k (by simp)) h.t, get_ne (ne_of_obj h.d h.k (by simp)) h.d, get_ne h.wk h.w, get_ne h.ok h.o, get_set h.k, h.wo, h.wk, h.ok⟩
theorem Fx.setW (p : TrP) {σ : AH} {o : AO} : Fx p.S σ (σ.set p.w o) := Fx.set (by simp)
theorem Fx.setO (p : TrP) {σ : AH} {o : AO} : Fx p.S σ (σ.set p.o o) := Fx.set (by simp)
theorem Fx.setK (p : TrP) {σ : AH} {o : AO} : Fx p.S σ (σ.set p.k o) := Fx.set (by simp)

/-- the worth of a literal -/
def wv (ws : List Int) (lit : Int) : Int := if 0 < lit then (ws[lit.toNat]?).getD 0 else -((ws[(-lit).toNat]?).getD 0)
/-- the worths once a literal is set -/
def wset (ws : List Int) (lit : Int) : List Int := if 0 < lit then ws.set lit.toNat 1 else ws.set (-lit).toNat (-1)
def inR (n : Nat) (lit : Int) : Prop := -(n : Int) ≤ lit ∧ lit ≤ n
/-- the worths once the literals are wiped -/
def wipe (ws : List Int) (lits : List Int) : List Int := lits.foldl (fun ws lit => ws.set (if lit < 0 then -lit else lit).toNat 0) ws
theorem wset_len (ws : List Int) (lit : Int) : (wset ws lit).length = ws.length := by unfold wset; split <;> simp
theorem wipe_len (lits : List Int) : ∀ ws : List Int, (wipe ws lits).length = ws.length := by
  induction lits with
  | nil => intro ws; rfl
  | cons l ls ih => intro ws; exact (ih _).trans (by simp)
theorem cutEnd {α : Type} (xs : List α) (k : Nat) (h : k ≤ xs.length) : xs.take (sliceBounds (some (k : Int)) none none xs.length).1.toNat ++ xs.drop (max (sliceBounds (some (k : Int)) none none xs.length).1.toNat (sliceBounds (some (k : Int)) none none xs.length).2.1.toNat) = xs.take k := by
  rw [sliceBounds_plain]
  simp only [Option.elim, clipAt_nat]
  rw [Nat.min_eq_left h, Int.toNat_natCast, Int.toNat_natCast, Nat.max_eq_right h]; simp
theorem cutLast {α : Type} (xs : List α) (k : Nat) (hk : 1 ≤ k) (h : k ≤ xs.length) : xs.take (sliceBounds (some (-(k : Int))) none none xs.length).1.toNat ++ xs.drop (max (sliceBounds (some (-(k : Int))) none none xs.length).1.toNat (sliceBounds (some (-(k : Int))) none none xs.length).2.1.toNat) = xs.take (xs.length - k) := by
  rw [sliceBounds_plain]
  simp only [Option.elim, clipAt_neg _ _ hk]
  rw [Int.toNat_natCast, Int.toNat_natCast, Nat.max_eq_right (by omega)]; simp
end Mine
end
section
set_option maxRecDepth 100000
set_option linter.unusedVariables false
namespace Mine
open PySem PySem.W
section
variable {W : Wd} {n : Nat} {sc : Scope} {m : Locs} {σ : AH} {pos : Pos} {Q : AV → AH → Prop} {QS : AF → Locs → AH → Prop}
def notTup : Expr → Bool
  | .Tuple .. => false
  | _ => true
theorem ts_assign_tuple {ts : List Expr} {k : Nat} {tpos : Pos} {e : Expr} (hs : notComp e = true) (ht : notTup e = true) (h : TE W n sc m e (fun v σ₁ => TA W n sc (.Tuple ts k tpos) v (fun m' σ' => QS .next m' σ') m σ₁) σ) : TS W n sc (.Assign [.Tuple ts k tpos] e pos) QS m σ := by
  intro A env own P O as s hr he hi ow hl R Qc E c
  refine PyProof.Rows.Assign_Tuple (h A env (P.or O) as s hr he hi.or hl R _ E fun v av h₁ tk₁ as₁ σ₁ x₁ r₁ R₁ q₁ => ?_) (swaps_not hs (some (.Tuple ts k tpos)) pos.line env) ?_
  · exact q₁ A env own P O as₁ _ v hr he hi ow (hl.ext x₁) R₁ r₁ _ E fun h₂ tk₂ as₂ σ₂ m₂ O₂ x₂ ow₂ l₂ R₂ q₂ => c .next .next h₂ tk₂ as₂ σ₂ m₂ O₂ (x₁.trans x₂) rfl ow₂ l₂ R₂ q₂
  · cases e <;> first | rfl | (cases ht; done)
theorem tas_nil {QA : Locs → AH → Prop} (h : QA m σ) : TAs W n sc [] [] QA m σ := h
theorem tas_cons {t : Expr} {ts : List Expr} {v : AV} {vs : List AV} {QA : Locs → AH → Prop} (h : TA W n sc t v (fun m' σ' => TAs W n sc ts vs QA m' σ') m σ) : TAs W n sc (t :: ts) (v :: vs) QA m σ := h
theorem tbin_shr {a b : Int} (hb : 0 ≤ b) (h : ∀ z, Q (.int z) σ) : TBin W n .RShift (.int a) (.int b) Q σ := by
  by_cases hc : b ≥ ((Builtin.Int.intBits a : Nat) : Int)
  · exact tbin_of (h _) fun _ _ _ _ _ _ _ q => AutoIntOps.rshift_1 (by omega) hc q
  · exact tbin_of (h _) fun _ _ _ _ _ _ _ q => AutoIntOps.rshift_2 (by omega) hc q
theorem tbin_pow2 {b : Int} {k : Nat} (hb : b = (k : Int)) (hk : k ≤ 1000) (h : Q (.int (2 ^ k)) σ) : TBin W n .Pow (.int 2) (.int b) Q σ := by
  subst hb
  cases k with
  | zero => exact tbin_of (z := 1) h fun _ _ _ _ _ _ _ q => AutoIntOps.pow_0 (by decide) rfl q
  | succ k =>
    refine tbin_of (z := 2 ^ (k + 1)) h fun _ _ _ _ _ _ _ q => AutoIntOps.pow_4 (by omega) (by simp; omega) (by decide) (by decide) ?_ ?_
    · have e : Builtin.Int.intBits 2 = 2 := rfl
      rw [e]
      unfold Builtin.Int.intTooBig bitsLine
      simp; omega
    · rw [Int.toNat_natCast]; exact q
end
end Mine
end
section
set_option maxRecDepth 100000
set_option linter.unusedVariables false
namespace Mine
open PySem PySem.W
theorem eqvAllInts : ∀ xs ys : List Int, PyData.eqvAll (xs.map .int) (ys.map .int) = decide (xs = ys)
  | [], [] => rfl
  | [], _ :: _ => rfl
  | _ :: _, [] => rfl
  | x :: xs, y :: ys => by
    rw [List.map_cons, List.map_cons, PyData.eqvAll, eqvAllInts xs ys, PyData.eqv]
    by_cases h : x = y <;> by_cases h' : xs = ys <;> simp [h, h']
theorem eqvInts (xs ys : List Int) : PyData.eqv (.list (xs.map .int)) (.list (ys.map .int)) = decide (xs = ys) := by
  rw [PyData.eqv, eqvAllInts]
theorem tcmp_eqS {W : Wd} {n : Nat} {σ : AH} {Q : AV → AH → Prop} {x y : Str} (hx : PyData.strOk x = true) (hy : PyData.strOk y = true) (h : Q (.bool (x == y)) σ) : TCmp W n .Eq (.str x) (.str y) Q σ :=
  tcmp_eqD (.str x) (.str y) (by rw [PyData.canLay0]; exact hx) (by rw [PyData.canLay0]; exact hy) (by rw [PyData.depth]; decide) (by rw [PyData.eqv]; exact h)
theorem tcmp_neS {W : Wd} {n : Nat} {σ : AH} {Q : AV → AH → Prop} {x y : Str} (hx : PyData.strOk x = true) (hy : PyData.strOk y = true) (h : Q (.bool (!(x == y))) σ) : TCmp W n .NotEq (.str x) (.str y) Q σ :=
  tcmp_neD (.str x) (.str y) (by rw [PyData.canLay0]; exact hx) (by rw [PyData.canLay0]; exact hy) (by rw [PyData.depth]; decide) (by rw [PyData.eqv]; exact h)
theorem Fx.fresh {S : List Nat} {σ σ₁ σ₂ : AH} (x : Sub σ σ₁) (y : Fx S σ₁ σ₂) (h : ∀ i ∈ S, σ.length ≤ i) : Sub σ σ₂ :=
  fun i o e => y i o (fun q => by have := h i q; have := lt_of_get e; omega) (x i o e)
theorem Fx.at {S : List Nat} {σ σ' : AH} (x : Fx S σ σ') {i : Nat} {o : AO} (e : σ[i]? = some o) (h : ∀ j ∈ S, j < i) : σ'[i]? = some o :=
  x i o (fun q => by have := h i q; omega) e
/-- the three lists and the tuple of a snapshot -/
def snapD (ws od mk : List Int) : PyData := .tuple [.list (ws.map .int), .list (od.map .int), .list (mk.map .int)]
theorem canSnap (ws od mk : List Int) : (snapD ws od mk).canLay0 = true := by
  unfold snapD
  rw [PyData.canLay0, PyData.canLayAll0, PyData.canLayAll0, PyData.canLayAll0, PyData.canLayAll0, canInts, canInts, canInts]; rfl
theorem depSnap (ws od mk : List Int) : (snapD ws od mk).depth ≤ 100 := by
  unfold snapD
  have h1 := depInts ws
  have h2 := depInts od
  have h3 := depInts mk
  rw [PyData.depth, PyData.depthAll, PyData.depthAll, PyData.depthAll, PyData.depthAll]
  omega
theorem eqvSnap (a b c a' b' c' : List Int) : PyData.eqv (snapD a b c) (snapD a' b' c') = decide (a = a' ∧ b = b' ∧ c = c') := by
  unfold snapD
  rw [PyData.eqv, PyData.eqvAll, PyData.eqvAll, PyData.eqvAll, PyData.eqvAll, eqvInts, eqvInts, eqvInts]
  by_cases h1 : a = a' <;> by_cases h2 : b = b' <;> by_cases h3 : c = c' <;> simp [h1, h2, h3]
def SnapAt (σ : AH) (b : Nat) (ws od mk : List Int) : Prop := σ[b]? = some (.list (ws.map .int)) ∧ σ[b + 1]? = some (.list (od.map .int)) ∧ σ[b + 2]? = some (.list (mk.map .int)) ∧ σ[b + 3]? = some (.tuple [.ref b, .ref (b + 1), .ref (b + 2)])
theorem SnapAt.den {σ : AH} {b : Nat} {ws od mk : List Int} (h : SnapAt σ b ws od mk) : Den σ (.ref (b + 3)) (snapD ws od mk) :=
  .tuple h.2.2.2 (.cons (.list h.1 (denInts _ _)) (.cons (.list h.2.1 (denInts _ _)) (.cons (.list h.2.2.1 (denInts _ _)) .nil)))
theorem SnapAt.sub {σ σ' : AH} {b : Nat} {ws od mk : List Int} (h : SnapAt σ b ws od mk) (s : Sub σ σ') : SnapAt σ' b ws od mk := ⟨s _ _ h.1, s _ _ h.2.1, s _ _ h.2.2.1, s _ _ h.2.2.2⟩
theorem SnapAt.fx {S : List Nat} {σ σ' : AH} {b : Nat} {ws od mk : List Int} (h : SnapAt σ b ws od mk) (s : Fx S σ σ') (hs : ∀ j ∈ S, j < b) : SnapAt σ' b ws od mk :=
  ⟨s.at h.1 hs, s.at h.2.1 fun j q => by have := hs j q; omega, s.at h.2.2.1 fun j q => by have := hs j q; omega, s.at h.2.2.2 fun j q => by have := hs j q; omega⟩
theorem snap_new (σ : AH) (ws od mk : List Int) {σ' : AH} (e : σ' = σ ++ [.list (ws.map .int)] ++ [.list (od.map .int)] ++ [.list (mk.map .int)] ++ [.tuple [.ref σ.length, .ref (σ.length + 1), .ref (σ.length + 2)]]) : SnapAt σ' σ.length ws od mk ∧ Sub σ σ' := by
  subst e
  exact ⟨⟨by simp, by simp, by simp, by simp⟩, ((((Sub.refl _).trans (Sub.snoc _ _)).trans (Sub.snoc _ _)).trans (Sub.snoc _ _)).trans (Sub.snoc _ _)⟩

/-! the worths -/
def sg (lit : Int) : Int := if 0 < lit then 1 else -1
theorem sg_ne (lit : Int) : sg lit ≠ 0 := by unfold sg; split <;> decide
theorem wset_eq (ws : List Int) (lit : Int) : wset ws lit = ws.set lit.natAbs (sg lit) := by
  unfold wset sg
  split
  · rw [show lit.toNat = lit.natAbs by omega]
  · rw [show (-lit).toNat = lit.natAbs by omega]
theorem wv_eq (ws : List Int) (lit : Int) : wv ws lit = sg lit * (ws[lit.natAbs]?).getD 0 := by
  unfold wv sg
  split
  · rw [show lit.toNat = lit.natAbs by omega]; omega
  · rw [show (-lit).toNat = lit.natAbs by omega]; omega
theorem wipe_cons (ws : List Int) (l : Int) (ls : List Int) : wipe ws (l :: ls) = wipe (ws.set l.natAbs 0) ls := by
  unfold wipe
  rw [List.foldl_cons, show (if l < 0 then -l else l).toNat = l.natAbs by split <;> omega]
def wsets (ws : List Int) (lits : List Int) : List Int := lits.foldl wset ws
theorem wsets_len (lits : List Int) : ∀ ws : List Int, (wsets ws lits).length = ws.length := by
  induction lits with
  | nil => intro ws; rfl
  | cons l ls ih => intro ws; exact (ih _).trans (wset_len ws l)
theorem wsets_snoc (ws lits : List Int) (l : Int) : wsets ws (lits ++ [l]) = wset (wsets ws lits) l := by unfold wsets; rw [List.foldl_append]; rfl
theorem wsets_append (ws lits ls : List Int) : wsets ws (lits ++ ls) = wsets (wsets ws lits) ls := by unfold wsets; rw [List.foldl_append]
theorem wipe_get {v : Nat} : ∀ (lits ws : List Int), v < ws.length → (wipe ws lits)[v]? = if v ∈ lits.map Int.natAbs then some 0 else ws[v]?
  | [], ws, h => by simp [wipe]
  | l :: ls, ws, h => by
    rw [wipe_cons, wipe_get ls _ (by simpa using h)]
    by_cases h1 : v ∈ ls.map Int.natAbs
    · rw [if_pos h1, if_pos (by rw [List.map_cons]; exact .tail _ h1)]
    · rw [if_neg h1]
      by_cases h2 : v = l.natAbs
      · subst h2; rw [if_pos (by rw [List.map_cons]; exact .head _), List.getElem?_set_self h]
      · rw [if_neg (by rw [List.map_cons, List.mem_cons]; exact fun q => q.elim h2 h1), List.getElem?_set_ne (Ne.symm h2)]
theorem wsets_not {v : Nat} : ∀ (lits ws : List Int), v ∉ lits.map Int.natAbs → (wsets ws lits)[v]? = ws[v]?
  | [], ws, _ => rfl
  | l :: ls, ws, h => by
    rw [List.map_cons, List.mem_cons, not_or] at h
    show (wsets (wset ws l) ls)[v]? = _
    rw [wsets_not ls _ h.2, wset_eq, List.getElem?_set_ne (Ne.symm h.1)]
theorem wsets_in {v : Nat} : ∀ (lits ws : List Int), v ∈ lits.map Int.natAbs → v < ws.length → ∃ l ∈ lits, l.natAbs = v ∧ (wsets ws lits)[v]? = some (sg l)
  | l :: ls, ws, h, hv => by
    by_cases h1 : v ∈ ls.map Int.natAbs
    · obtain ⟨l', a, b⟩ := wsets_in ls (wset ws l) h1 (by rw [wset_len]; exact hv)
      exact ⟨l', .tail _ a, b⟩
    · rw [List.map_cons, List.mem_cons] at h
      have h2 : v = l.natAbs := h.resolve_right h1
      refine ⟨l, .head _, h2.symm, ?_⟩
      show (wsets (wset ws l) ls)[v]? = _
      rw [wsets_not ls _ h1, wset_eq, h2, List.getElem?_set_self (by rw [← h2]; exact hv)]
end Mine
end
section
set_option maxRecDepth 100000
set_option linter.unusedVariables false
namespace Mine
open PySem PySem.W
theorem swaps_attr (e o : Expr) (attr : Str) (p : Pos) (l : Nat) (env : Env) : swapsWith e (some (.Attribute o attr p)) l env = pure false := by
  cases e <;> rfl
section
variable {W : Wd} {n : Nat} {sc : Scope} {m : Locs} {σ : AH} {pos : Pos} {QS : AF → Locs → AH → Prop}
theorem ts_assign_attrC {o e : Expr} {attr : Str} {p : Pos} (h : TE W n sc m e (fun v σ₁ => TE W n sc m o (fun ov σ₂ => TSetA W n ov attr v (fun σ₃ => QS .next m σ₃) σ₂) σ₁) σ) : TS W n sc (.Assign [.Attribute o attr p] e pos) QS m σ := by
  intro A env own P O as s hr he hi ow hl R Qc E c
  refine plainObj_wpAny_Assign_Attribute (h A env (P.or O) as s hr he hi.or hl R _ E fun v av h₁ tk₁ as₁ σ₁ x₁ r₁ R₁ q₁ => ?_) (swaps_attr _ _ _ _ _ _)
  refine q₁ A env (P.or O) as₁ _ hr he hi.or (hl.ext x₁) R₁ _ E fun vo ao h₂ tk₂ as₂ σ₂ x₂ r₂ R₂ q₂ => ?_
  refine q₂ A (P.or O) as₂ _ vo v hr hi.or r₂ (r₁.ext x₂) R₂ _ E fun h₄ tk₄ as₄ σ₄ x₄ R₄ q₄ => ?_
  have xx := (x₁.trans x₂).trans x₄
  exact c .next .next h₄ tk₄ as₄ σ₄ m O xx rfl ow (hl.ext xx) R₄ q₄
end
def mkl (mk : List Nat) : List Int := mk.map fun (k : Nat) => (k : Int)
theorem mkl_snoc (mk : List Nat) (j : Nat) : mkl (mk ++ [j]) = mkl mk ++ [(j : Int)] := by simp [mkl]
theorem Sub.at {σ σ' : AH} (s : Sub σ σ') {i : Nat} {o : AO} (h : σ[i]? = some o) : σ'[i]? = some o := s _ _ h
/-- a list of rows, with its places named -/
structure RowsP (σ : AH) (l : Nat) (is : List Nat) (rs : List (List Int)) : Prop where
  g : σ[l]? = some (.list (is.map .ref))
  r : RowsIn l σ is rs
theorem RowsP.rows {σ : AH} {l : Nat} {is : List Nat} {rs : List (List Int)} (h : RowsP σ l is rs) : Rows σ l rs := ⟨is, h.g, h.r⟩
theorem RowsIn.fx {S : List Nat} {l : Nat} {σ σ' : AH} (x : Fx S σ σ') : ∀ {is : List Nat} {rs : List (List Int)}, RowsIn l σ is rs → (∀ i ∈ is, i ∉ S) → RowsIn l σ' is rs
  | [], [], _, _ => trivial
  | _ :: _, _ :: _, h, hs => ⟨⟨h.1.1, x _ _ (hs _ (.head _)) h.1.2⟩, RowsIn.fx x h.2 fun i hi => hs i (.tail _ hi)⟩
theorem RowsP.fx {S : List Nat} {σ σ' : AH} {l : Nat} {is : List Nat} {rs : List (List Int)} (h : RowsP σ l is rs) (x : Fx S σ σ') (hl : l ∉ S) (hs : ∀ i ∈ is, i ∉ S) : RowsP σ' l is rs := ⟨x _ _ hl h.g, h.r.fx x hs⟩
theorem RowsP.sub {σ σ' : AH} {l : Nat} {is : List Nat} {rs : List (List Int)} (h : RowsP σ l is rs) (x : Sub σ σ') : RowsP σ' l is rs := ⟨x _ _ h.g, h.r.sub x.x⟩
theorem RowsIn.lt {l : Nat} {σ : AH} : ∀ {is : List Nat} {rs : List (List Int)}, RowsIn l σ is rs → ∀ i ∈ is, i < σ.length
  | [], _, _, _, hi => by simp at hi
  | _ :: _, _ :: _, h, i, hi => by
    rcases List.mem_cons.mp hi with rfl | hi
    · exact lt_of_get h.1.2
    · exact RowsIn.lt h.2 i hi
end Mine
end
section
set_option maxRecDepth 100000
set_option linter.unusedVariables false
namespace Mine
open PySem PySem.W
section
variable {W : Wd} {n : Nat} {sc : Scope} {m : Locs} {σ : AH} {pos : Pos} {Q : AV → AH → Prop} {QS : AF → Locs → AH → Prop}
/-- x, y = (u, v): the stores run from the last name to the first -/
theorem ts_swap {x y u v : Str} {px py pu pv tpos vpos : Pos} {k k' : Nat} (h1 : (sc.names.lookup x == some .local) = true) (h2 : (sc.names.lookup y == some .local) = true) (h3 : storeOk sc x = true) (h4 : storeOk sc y = true) (hln : (py.line == px.line) = true) (hne : (y == x) = false) (hf : foldedForSure 8 (.Name u pu) = false) (hc : constantsAlone 8 (.Name u pu) = false)
    (h : TE W n sc m (.Tuple [.Name u pu, .Name v pv] k' vpos) (fun t σ₁ => ∃ l a b, t = .ref l ∧ σ₁[l]? = some (.tuple [a, b]) ∧ QS .next (setL x a (setL y b m)) σ₁) σ) :
    TS W n sc (.Assign [.Tuple [.Name x px, .Name y py] k tpos] (.Tuple [.Name u pu, .Name v pv] k' vpos) pos) QS m σ := by
  intro A env own P O as s hr he hi ow hl R Qc E c
  refine PyProof.Rows.Assign_Tuple_swapped (names := [x, y]) (h A env (P.or O) as s hr he hi.or hl R _ E fun v av h₁ tk₁ as₁ σ₁ x₁ r₁ R₁ q₁ => ?_) (swaps_not (e := .Tuple [.Name u pu, .Name v pv] k' vpos) rfl (some (.Tuple [.Name x px, .Name y py] k tpos)) pos.line env) ?_
  · obtain ⟨l, a, b, rfl, hg, q⟩ := q₁
    obtain ⟨ad, o, rfl, e1, e2, r⟩ := R₁.ref r₁ hg
    obtain ⟨vs, nn, rfl, hvs⟩ := r
    match vs, hvs with
    | [va, vb], ⟨ra, rb, _⟩ =>
      have hT : PyProof.Rows.IsTup h₁ ad [va, vb].toArray := ⟨_, e2, rfl, nn, rfl⟩
      have e2 : [x, y].length = [va, vb].toArray.size := rfl
      rw [e2]
      refine PyProof.Rows.unpackItems_tuple (s := { s with heap := h₁, toks := tk₁ }) hr.1 hT fun h' hx => ?_
      show wpAny _ A (assignInOrder [bindName env y, bindName env x] [vb, va]) _ E _
      refine wpAny_assignInOrder_more (PyProof.Rows.bindName_ (store_own hr he hi ow (hl.ext x₁) (R₁.extBut hx) rb h4 fun h'' tk' O' ow' l' R' => ?_))
      refine wpAny_assignInOrder_more (PyProof.Rows.bindName_ (store_own hr he hi ow' l' R' ra h3 fun h3 tk3 O3 ow3 l3 R3 => ?_))
      exact wpAny_assignInOrder_none (c .next .next h3 tk3 as₁ σ₁ _ O3 x₁ rfl ow3 l3 R3 q)
  · have b1 : env.blockKind = .function := by unfold Env.blockKind; rw [he.sc, he.kind]; rfl
    have b2 : env.kindOf x = some .local := by unfold Env.kindOf; rw [he.sc]; exact beq_iff_eq.mp h1
    have b3 : env.kindOf y = some .local := by unfold Env.kindOf; rw [he.sc]; exact beq_iff_eq.mp h2
    have b4 : py.line = px.line := beq_iff_eq.mp hln
    unfold swappedStores
    simp [b1, b2, b3, b4, Expr.pos]
    have hd : [x, y].eraseDups.length = 2 := by simp [List.eraseDups_cons, hne]
    rw [if_pos hd, if_neg (fun q => by have q := q.1; rw [hf] at q; cases q), if_neg (fun q => by have q := q.1; rw [hc] at q; cases q)]
/-- a tuple of numbers that the module made -/
def TupIs (W : Wd) (a : Addr) (ns : List Int) : Prop := ∃ vs : List Value, PyProof.Rows.IsTup W.H a vs.toArray ∧ PyProof.Rows.IntsAre vs ns
theorem tidx_stat {value slice : Expr} {a : Addr} {ns : List Int} {k x : Int} {j : Nat} (hns : notSlice slice = true) (T : TupIs W a ns) (hk : k = (j : Int)) (hx : ns[j]? = some x) (hb : j < 2 ^ 62) (h : Q (.int x) σ) : TIdx W n value slice (.stat (.ref a)) (.int k) Q σ := by
  intro A P as s vo vi hr hi h1 h2 R Qc E c
  cases h1
  obtain ⟨t, rfl⟩ := h2
  obtain ⟨vs, hT, hv⟩ := T
  have hT' : PyProof.Rows.IsTup s.heap a vs.toArray := by
    obtain ⟨o, e, r⟩ := hT
    exact ⟨o, R.keep _ _ (hi _ _ e), r⟩
  have hv' : VsRel as vs (ns.map AV.int) := ints_rel hv
  have hx' : (ns.map AV.int)[j]? = some (.int x) := by rw [List.getElem?_map, hx]; rfl
  obtain ⟨v, v1, v2⟩ := hv'.get hx'
  have hlt : j < ns.length := (List.getElem?_eq_some_iff.mp hx).1
  have hlen := hv'.length
  rw [List.length_map] at hlen
  subst hk
  exact PyProof.Rows.tail_any hT'.typeIs PyProof.Rows.slot_tuple_getitem.lookup (PyProof.Rows.getItem_tuple hT' (by omega) (by omega) (j := j) (by simp [seqIndex?, hlen]; omega) (by simpa using v1) (c v (.int x) s.heap s.toks as σ (Ext.refl _) v2 R h)) (subscripted_not hns ..)
/-- a comprehension that is stored in a name which is no plain local -/
theorem ts_assign_compC {elt iter : Expr} {x y : Str} {px py cpos : Pos} {ifs : List Expr} {scope : Scope} (hok : compOk sc scope x m = true) (hns : notSet iter = true) (hk : (sc.names.lookup y == some .local) = false) (hx : storeOk sc y = true)
    (h : TE W n sc m iter (CompT W n sc m scope x ifs elt (fun v σ₁ => QS .next (setL y v m) σ₁)) σ) : TS W n sc (.Assign [.Name y py] (.ListComp elt [⟨.Name x px, iter, ifs, 0⟩] scope cpos) pos) QS m σ := by
  intro A env own P O as s hr he hi ow hl R Qc E c
  refine wpAny_Assign_Name (te_comp hok hns h A env (P.or O) as s hr he hi.or hl R _ E fun v av h₁ tk₁ as₁ σ₁ x₁ r₁ R₁ q₁ => ?_) ?_
  · exact store_own hr he hi ow (hl.ext x₁) R₁ r₁ hx fun h' tk' O' ow' l' R' => c .next .next h' tk' as₁ σ₁ _ O' x₁ rfl ow' l' R' q₁
  · show (pure (env.blockKind == .function && env.kindOf y == some .local && py.line == cpos.line && !(scope.names.any fun (n, k) => n == y && (k == .local || k == .cell))) : Sem Bool) = pure false
    have e2 : (env.kindOf y == some .local) = false := by unfold Env.kindOf; rw [he.sc]; exact hk
    rw [e2, Bool.and_false]; rfl
end
end Mine
end
section
set_option maxRecDepth 100000
set_option linter.unusedVariables false
namespace Mine
open PySem PySem.W PyProof.Rows
section
variable {prog : Program} {w : World} {A : Around} {E : Value → Shared → Prop} {s : Shared} {env : Env}
/-- what is left of the heap once any(genexp) has run: all but the code's table of places, which is there still -/
structure GenLeft (s s' : Shared) (c P : Addr) : Prop where
  heap : ∀ b o, b ≠ P → s.heap.get? b = some o → s'.heap.get? b = some o
  bare : AllBare s'.gens
  os : s'.os = s.os
  drawn : s'.drawn = s.drawn
  lim : s'.heap.NoLimit
  code : ∃ ps, s'.heap.IsCode c P ps ∧ s'.heap.TableAt c P ps
theorem passing_all (n : Nat) : passing (fun _ => true) n 0 = List.range n := by
  unfold passing; simp
theorem any_gen {elt iter : Expr} {x : Str} {px pos : Pos} {scope : Scope} {cl : List (Str × Addr)} {l c P bm : Addr} {ps : Array Value} {mg : Str → Option Value} {ob : Obj} {vs : List Value} {tr : Nat → Bool} {Q : Value → Shared → Prop}
    (hh : A.handled = none) (hco : scope.isCoroutine = false) (hclos : closureFor scope env = pure cl) (hcell : ∀ y ∈ scope.names, y.2 ≠ .cell) (h0 : scope.names.lookup (".0" : Str) = some NameKind.local) (hx : scope.names.lookup x = some .local) (hkind : scope.kind = .function) (hroom : A.depth < recursionLimit)
    (hit : ∀ Q' : Value → Shared → Prop, Q' (.ref l) s → wpAny (model prog w) A (eval iter env) Q' E s) (hs : ∀ x, genFold iter env x = pure x)
    (hL : s.heap.IsList l vs.toArray) (hlP : l ≠ P) (hlim : s.heap.NoLimit) (hbare : AllBare s.gens) (hcode : env.code = .ref c) (hC : s.heap.IsCode c P ps) (hT : s.heap.TableAt c P ps) (hM : BMod s.heap env.globals mg bm ob) (hgP : env.globals ≠ P) (hbP : bm ≠ P) (hsP : cStatics ≠ P)
    (hel : ∀ (C : Addr) (code : Value) (A' : Around) (E' : Value → Shared → Prop) (i : Nat) (v : Value) (s₂ : Shared) (m₂ : Str → Option Value), A'.handled = none → s.heap.objs.size ≤ C → vs[i]? = some v → s₂.heap.Ns C m₂ → m₂ x = some v → (∀ b o, b ≠ P → s.heap.get? b = some o → s₂.heap.get? b = some o) →
      wpAny (model prog w) A' (eval elt (genEnv scope cl C code builtinsNs env)) (fun y s₃ => y = .bool (tr i) ∧ PySem.Keeps s₂ s₃) E' s₂)
    (hQ : ∀ s', GenLeft s s' c P → Q (.bool ((List.range vs.length).any tr)) s') :
    wpAny (model prog w) A (eval (.GeneratorExp elt [⟨.Name x px, iter, [], 0⟩] scope pos) env) (fun g s₅ => wpAny (model prog w) A (call (.builtin "any") [g]) Q E s₅) E s := by
  have hlt : l < s.heap.objs.size := by obtain ⟨_, e, _⟩ := hL; exact Heap.lt_size e
  refine wpAny_GeneratorExp_walksQ hh hco hclos hcell h0 hx hkind hroom (hit _ ?_) hs
  refine wpAny_pyIter_list hL ⟨hlim.push _, ?_⟩
  -- behind the code object
  have tail : ∀ (h₃ : Heap) (tk : Nat) (code : Value) (ps' : Array Value), (∀ b o, b ≠ P → (s.heap.push { cls := .type "list_iterator", data := .fields #[.ref l, .int 0 0] }).get? b = some o → h₃.get? b = some o) → s.heap.objs.size + 1 ≤ h₃.objs.size → h₃.NoLimit → h₃.IsCode c P ps' → h₃.TableAt c P ps' →
      wpAny (model prog w) A (builtinsFor env.globals env.builtins) (fun bi s₄ =>
        ∃ I fp wr n₀ P St₀ pz F, (Value.ref s.heap.objs.size) = .ref I ∧ (∀ A' : Around, A'.handled = none → Walks prog w A' I fp wr n₀ P St₀) ∧ St₀ 0 s₄.heap ∧ (∀ b ∈ fp, b < s₄.heap.objs.size) ∧ s₄.heap.NoLimit ∧ cStatics ∉ wr ∧
          (∀ href : Heap, (∀ b o, s₄.heap.get? b = some o → href.get? b = some o) →
            QuietGen prog w (genEnv scope cl s₄.heap.objs.size code bi env) x [] elt (List.range s₄.heap.objs.size) wr P pz F href) ∧
          (∀ a h₅ tk gs, gs.bare = true → s₄.heap.objs.size < a → h₅.objs.size = a + 1 → (∀ b o, s₄.heap.get? b = some o → h₅.get? b = some o) →
            WalksS prog w A.in4 a (a :: s₄.heap.objs.size :: List.range s₄.heap.objs.size) (s₄.heap.objs.size :: wr) (GenOnlyQ s₄.gens.size) (passing pz n₀ 0).length
              (fun j y => ∃ i, (passing pz n₀ 0)[j]? = some i ∧ F i y) (GenAt prog w A.in4 a s₄.gens.size s₄.heap.objs.size (List.range s₄.heap.objs.size) wr pz n₀ F) →
            GenAt prog w A.in4 a s₄.gens.size s₄.heap.objs.size (List.range s₄.heap.objs.size) wr pz n₀ F 0 { s₄ with gens := s₄.gens.push gs, toks := tk, heap := h₅ } →
            wpAny (model prog w) A (call (.builtin "any") [.ref a]) Q E { s₄ with gens := s₄.gens.push gs, toks := tk, heap := h₅ })) E { s with heap := h₃, toks := tk } := by
    intro h₃ tk code ps' hk hsz hl₃ hC₃ hT₃
    have hk' : ∀ b o, b ≠ P → s.heap.get? b = some o → h₃.get? b = some o := fun b o hb e => hk b o hb (Heap.get?_push_of_some _ e)
    have hns : h₃.Ns env.globals mg := by
      obtain ⟨o, es, ep, ho, r⟩ := hM.ns
      exact ⟨o, es, ep, hk' _ _ hgP ho, r⟩
    refine wpAny_builtinsFor hns hM.name hM.ne (hk' _ _ hbP hM.obj) hM.cls hM.dict hM.data ?_
    have hiP : s.heap.objs.size ≠ P := Nat.ne_of_gt hC.lt.2
    have hst : (s.heap.push { cls := .type "list_iterator", data := .fields #[.ref l, .int 0 0] }).get? s.heap.objs.size = some { cls := .type "list_iterator", data := .fields #[.ref l, .int 0 0] } := Heap.get?_push_size _ rfl
    refine ⟨s.heap.objs.size, [s.heap.objs.size, l], [s.heap.objs.size], vs.toArray.size, _, _, fun _ => true, fun i y => y = .bool (tr i), rfl, fun A' hA => Walks.list hA _ _ (Nat.ne_of_lt hlt) vs.toArray, ⟨⟨_, hk _ _ hiP hst, rfl, rfl⟩, ?_⟩, ?_, hl₃, ?_, ?_, ?_⟩
    · obtain ⟨o, e, r⟩ := hL
      exact ⟨o, hk' _ _ hlP e, r⟩
    · intro b hb
      show b < h₃.objs.size
      rcases List.mem_cons.mp hb with rfl | hb
      · exact Nat.lt_of_lt_of_le (Nat.lt_succ_self _) hsz
      · rw [List.mem_singleton.mp hb]; exact Nat.lt_of_lt_of_le hlt (Nat.le_of_succ_le hsz)
    · intro q
      have hc : cStatics < s.heap.objs.size := let ⟨_, hn, _⟩ := hlim; hn.lt
      rw [List.mem_singleton.mp q] at hc
      exact absurd hc (Nat.lt_irrefl _)
    · intro href hhref
      refine ⟨fun A' E' i v s₂ m₂ hA hv hns2 hm2 hf => wpAny_pure ⟨rfl, s₂.heap, s₂.toks, rfl, fun _ _ e => e⟩, fun A' E' i v s₂ m₂ hA hv _ hns2 hm2 hf => ?_⟩
      refine hel h₃.objs.size code A' E' i v s₂ m₂ hA (Nat.le_of_succ_le hsz) (by simpa using hv) hns2 hm2 fun b o hb e => ?_
      have hbl := Heap.lt_size e
      exact hf b (List.mem_range.mpr (show b < h₃.objs.size from Nat.lt_of_lt_of_le hbl (Nat.le_of_succ_le hsz))) (fun q => by rw [List.mem_singleton.mp q] at hbl; exact absurd hbl (Nat.lt_irrefl _)) o (hhref b o (hk' b o hb e))
    · intro a h₅ tk₅ gs hgb hag hsz₅ hk₅ WW hat
      have WW := WW.in4_1
      have hpl : (passing (fun _ => true) vs.toArray.size 0).length = vs.length := by rw [passing_all]; simp
      refine call_any_walkS (WW.self 0 _ _ _ hat ⟨a, _, _, _, _, _, _, tr, rfl, WW, hat, ?_, fun s' hm => ?_⟩)
      · intro j v s₆ Q₆ E₆ hv hq
        obtain ⟨i, hi, rfl⟩ := hv
        rw [passing_all] at hi
        have : j = i := by
          have := List.getElem?_eq_some_iff.mp hi
          obtain ⟨_, e⟩ := this
          simpa using e
        subst this
        exact wpAny_truthy_bool hq
      · rw [hpl]
        have kp : ∀ b o, b < h₃.objs.size → b ≠ s.heap.objs.size → h₃.get? b = some o → s'.heap.get? b = some o := fun b o h1 h2 e => hm.heap b o (fun q => by
          rcases List.mem_cons.mp q with q | q
          · have : b = h₃.objs.size := q
            exact absurd (this ▸ h1) (Nat.lt_irrefl _)
          · exact h2 (List.mem_singleton.mp q)) (hk₅ b o e)
        have hcl := hC.lt
        refine hQ s' ⟨fun b o hb e => ?_, (hbare.push hgb).movedS hm, hm.os, hm.drawn, ?_, ps', ?_, ?_⟩
        · exact kp b o (Nat.lt_of_lt_of_le (Heap.lt_size e) (Nat.le_of_succ_le hsz)) (Nat.ne_of_lt (Heap.lt_size e)) (hk' b o hb e)
        · have hc : cStatics < s.heap.objs.size := let ⟨_, hn, _⟩ := hlim; hn.lt
          obtain ⟨mm, ⟨o, es, ep, ho, r⟩, hrest⟩ := hl₃
          exact ⟨mm, ⟨o, es, ep, kp _ _ (Heap.lt_size ho) (Nat.ne_of_lt hc) ho, r⟩, hrest⟩
        · obtain ⟨o, vs', file, tf, flags, tg, inF, text, tt, op, a1, r1, r2, r3, r4, r5, r6, b1, r⟩ := hC₃
          exact ⟨o, vs', file, tf, flags, tg, inF, text, tt, op, kp _ _ (Heap.lt_size a1) (Nat.ne_of_lt hcl.1) a1, r1, r2, r3, r4, r5, r6, kp _ _ (Heap.lt_size b1) (Nat.ne_of_lt hcl.2) b1, r⟩
        · obtain ⟨⟨o, vs', a1, r⟩, t1⟩ := hT₃
          exact ⟨⟨o, vs', kp _ _ (Heap.lt_size a1) (Nat.ne_of_lt hcl.1) a1, r⟩, kp _ _ (Heap.lt_size t1) (Nat.ne_of_lt hcl.2) t1⟩
  cases hf : codeAmong pos ps.toList with
  | some c' =>
    refine wpAny_genexprCode_hit hcode (hC.push _) hf ?_
    exact tail _ s.toks c' ps (fun b o _ e => e) (by rw [Heap.size_push]; exact Nat.le_refl _) (hlim.push _) (hC.push _) (hT.push _)
  | none =>
    refine wpAny_genexprCodeX hcode (hC.push _) (hT.push _) hf fun c' h₃ tk₃ hx₃ hge hlt3 hcode₃ _ htab₃ _ => ?_
    refine tail h₃ tk₃ (.ref c') _ (fun b o hb e => hx₃ b o hb e) ?_ ((hlim.push _).extBut hx₃ hsP) hcode₃ htab₃
    have : (s.heap.push { cls := .type "list_iterator", data := .fields #[.ref l, .int 0 0] }).objs.size ≤ c' := hge
    rw [Heap.size_push] at this
    exact Nat.le_trans this (Nat.le_of_lt hlt3)
end
end Mine
end
section
set_option maxRecDepth 100000
set_option linter.unusedVariables false
namespace Mine
open PySem PySem.W PyProof.Rows
/-- everything of the world's heap -/
abbrev inH (W : Wd) : Pr := fun a o => W.H.get? a = some o
/-- a triple of the law's own body: the generators and the code's table may change -/
def TXG (W : Wd) (n : Nat) (sc : Scope) (cd : Value) (os0 : OsState) (t : Env → Sem Flow) (Post : Flow → Shared → Prop) (m : Locs) (σ : AH) : Prop :=
  ∀ (A : Around) (env : Env) (own : List Addr) (O : Pr) (as : List Addr) (s : Shared), Room n A → EnvIs env sc → env.code = cd → Own env own (inH W) O → Loc ((inH W).or O) env m as → Rep W ((inH W).or O) as σ s.heap → AllBare s.gens → s.os = os0 →
    ∀ (Qc : Flow → Shared → Prop) (E : Value → Shared → Prop), (∀ f s', Post f s' → Qc f s') → wpAny (model W.prog W.w) A (t env) Qc E s
abbrev nextG (R : Locs → AH → Prop) : AF → Locs → AH → Prop
  | .next => R
  | _ => fun _ _ => False
section
variable {W : Wd} {n : Nat} {sc : Scope} {m : Locs} {σ : AH} {cd : Value} {os0 : OsState} {Post : Flow → Shared → Prop}
theorem tsg_cons {st : Stmt} {rest : List Stmt} (h : TS W n sc st (nextG (TXG W n sc cd os0 (execs rest) Post)) m σ) : TXG W n sc cd os0 (execs (st :: rest)) Post m σ := by
  intro A env own O as s hr he hc ow hl R hb ho Qc E c
  refine wpAny_execs_cons (h A env own (inH W) O as s hr he (fun _ _ e => e) ow hl R _ E fun f af h₁ tk₁ as₁ σ₁ m₁ O₁ x₁ f₁ ow₁ l₁ R₁ q₁ => ?_)
  cases af with
  | next => cases f₁; exact q₁ A env own O₁ as₁ { s with heap := h₁, toks := tk₁ } hr he hc ow₁ l₁ R₁ hb ho _ E c
  | brk => exact q₁.elim
  | cont => exact q₁.elim
  | ret v => exact q₁.elim
/-- the rest without generators -/
theorem tsg_plain {ss : List Stmt} (h : TSs W n sc ss (fun f m' σ' => f = .ret (.bool true)) m σ) (c : ∀ s', s'.os = os0 → AllBare s'.gens → (∀ a o, W.H.get? a = some o → s'.heap.get? a = some o) → Post (.ret (.bool true)) s') : TXG W n sc cd os0 (execs ss) Post m σ := by
  intro A env own O as s hr he hc ow hl R hb ho Qc E cc
  refine h A env own (inH W) O as s hr he (fun _ _ e => e) ow hl R _ E fun f af h₁ tk₁ as₁ σ₁ m₁ O₁ x₁ f₁ ow₁ l₁ R₁ q₁ => ?_
  subst q₁
  obtain ⟨y, rfl, hy⟩ := f₁
  cases hy
  exact cc _ _ (c _ ho hb fun a o e => R₁.keep a o (.inl e))
theorem code_fnG {f : Addr} {ps : List Str} {body : List Stmt} {sc : Scope} {args : List AV} {PostV : Value → Shared → Prop} (F : FnIs W f ps body sc) (hcd : ∃ o fd, W.H.get? f = some o ∧ o.data = .func fd ∧ fd.code = cd) (ha : args.length = ps.length) (h : TXG W n sc cd os0 (execs body) (fun fl s' => ∃ v, fl = .ret v ∧ PostV v s') (ps.zip args) σ)
    {A : Around} {as : List Addr} {s : Shared} {vals : List Value} (hr : Room (n + 1) A) (hv : VsRel as vals args) (R : Rep W (inH W) as σ s.heap) (hb : AllBare s.gens) (ho : s.os = os0) (Qc E : Value → Shared → Prop) (c : ∀ v s', PostV v s' → Qc v s') :
    codeAny (model W.prog W.w) A (.call (.ref f) ⟨vals, []⟩) (fun r s' => match r with | .ok (.ret v) => Qc v s' | .ok _ => False | .error e => E e s') s := by
  obtain ⟨o', fd', g1, g2, g3⟩ := hcd
  have hi : W.In (inH W) := fun _ _ e => e
  obtain ⟨o, fd, h1, h2, h3, rfl, h5, h6, h7, h8, h9⟩ := F.ex
  have efd : fd.code = cd := by rw [g1] at h1; cases h1; rw [g2] at h2; cases h2; exact g3
  have hst : ∀ b x, W.H.get? b = some x → s.heap.get? b = some x := fun b x e => R.keep _ _ (hi _ _ e)
  have hlv : vals.length = ps.length := hv.length.trans ha
  have hloc : ∀ x ∈ ps, fd.scope.names.lookup x = some .local ∨ fd.scope.names.lookup x = some .cell := fun x hx => by
    have := List.all_eq_true.mp F.loc x hx
    unfold storeOk at this
    split at this
    · rename_i e; exact .inl e
    · rename_i e; exact .inr e
    · cases this
  refine codeAny_call_cells (binds := ps.zip vals) (by have := hr.2.1; omega) (hst _ _ h1) h2 (W.lim.keeps hst) (h8.keeps hst) h3 (h9 vals hlv) h5 ?_ ?_ F.co F.gen F.kind
  · intro x hx
    rcases hloc x.1 (List.of_mem_zip (a := x.1) (b := x.2) hx).1 with e | e
    · exact .inl e
    · exact .inr ⟨e, cellsFrom_has _ _ _ _ e⟩
  · intro s₁ X
    obtain ⟨hp, tk, rfl⟩ := X.toInCall.same
    generalize henv : callEnvC fd s.heap.objs.size f = env at X ⊢
    have eL : env.locals = s.heap.objs.size := by rw [← henv]; rfl
    have esc : env.scope = fd.scope := by rw [← henv]; rfl
    have egl : env.globals = mainGlobals := by rw [← henv]; exact h6
    have ebl : env.builtins = builtinsNs := by rw [← henv]; exact h7
    have ecd : env.code = cd := by rw [← henv]; exact efd
    have ecl : env.cells = cellsFrom (s.heap.objs.size + 1) fd.scope.names [] := by rw [← henv]; rfl
    obtain ⟨oL, e0, nsL⟩ := NsObj.of X.toInCall.ns
    let own : List Addr := env.locals :: env.cells.filterMap fun p => env.cells.lookup p.1
    let O : Pr := fun a o => a ∈ own ∧ hp.get? a = some o
    have ownC : ∀ x c, env.cells.lookup x = some c → c ∈ own := fun x c e => .tail _ (List.mem_filterMap.mpr ⟨(x, c), mem_of_lookup e, e⟩)
    have ownI : ∀ a ∈ own, a = env.locals ∨ ∃ x, env.cells.lookup x = some a := fun a ha => by
      rcases List.mem_cons.mp ha with e | ha
      · exact .inl e
      · obtain ⟨p, _, e⟩ := List.mem_filterMap.mp ha; exact .inr ⟨p.1, e⟩
    have above : ∀ a ∈ own, s.heap.objs.size ≤ a := fun a ha => by
      rcases ownI a ha with e | ⟨x, e⟩
      · rw [e, eL]; exact Nat.le_refl _
      · have := X.above x a (mem_of_lookup e); rw [eL] at this; exact Nat.le_of_lt this
    have ow : Own env own (inH W) O := by
      refine ⟨.head _, fun x c e => ⟨ownC x c e, Nat.ne_of_gt (X.above x c (mem_of_lookup e)), ?_⟩, fun x e => ?_, fun x y c e1 e2 => name_of_addr X.apart (mem_of_lookup e1) (mem_of_lookup e2), fun a o q => q.1, fun a ha => ?_, fun a ha o q => ?_⟩
      · obtain ⟨oc, q1, q2⟩ := X.cell x c e
        exact ⟨oc, _, ⟨ownC x c e, q1⟩, q2⟩
      · rw [ecl]; rw [esc] at e
        exact Option.isSome_iff_exists.mp (cellsFrom_has _ _ _ _ e)
      · rcases ownI a ha with e | ⟨x, e⟩
        · exact ⟨oL, ha, e ▸ e0⟩
        · obtain ⟨oc, q1, _⟩ := X.cell x a e; exact ⟨oc, ha, q1⟩
      · have := Heap.lt_size (R.keep _ _ q); exact absurd (above a ha) (Nat.not_le.mpr this)
    have R₁ : Rep W ((inH W).or O) as σ hp := by
      refine R.move (fun b x q => ?_) (fun b x hb q => ?_) fun b _ x e => X.toInCall.keep b x e
      · rcases q with q | q
        · exact X.toInCall.keep _ _ (R.keep _ _ q)
        · exact q.2
      · rcases q with q | q
        · exact q
        · obtain ⟨z, hz⟩ := R.lt hb
          have := Heap.lt_size hz
          exact absurd (above b q.1) (Nat.not_le.mpr this)
    have l₁ : Loc ((inH W).or O) env (ps.zip args) as := by
      refine ⟨⟨oL, _, .inr ⟨.head _, e0⟩, nsL, fun x av q1 q2 => ?_⟩, fun x av q1 q2 => ?_⟩
      · obtain ⟨v, v1, v2⟩ := lookup_zip_rel hv q1
        exact ⟨v, v2, bindL_get F.nd v1 q2⟩
      · obtain ⟨v, v1, v2⟩ := lookup_zip_rel hv q1
        have hk : env.scope.names.lookup x = some .cell := by
          rcases hloc x (lookup_zip_mem q1) with e | e
          · rw [esc] at q2; rw [e] at q2; rcases q2 with q2 | q2 <;> cases q2
          · rw [esc]; exact e
        obtain ⟨cc, hc⟩ := ow.hasC x hk
        obtain ⟨oc, k1, k2⟩ := X.cell x cc hc
        refine ⟨v, cc, oc, v2, hc, .inr ⟨ownC x cc hc, k1⟩, ?_⟩
        rw [k2]
        exact congrArg _ (bindC_get F.nd v1 (by show ¬ env.scope.names.lookup x = some .local; rw [hk]; intro z; cases z))
    refine h (A.deeper env) env own O as { s with heap := hp, toks := tk } (hr.deeper env) ⟨F.kind, esc, egl, ebl⟩ ecd ow l₁ R₁ hb ho _ _ fun fl s' q => ?_
    obtain ⟨v, rfl, q⟩ := q
    exact c v s' q
end
end Mine
end
section
set_option maxRecDepth 100000
set_option linter.unusedVariables false
namespace Mine
open PySem PySem.W PyProof.Rows
/-- the same world on another heap -/
abbrev Wd.on (W : Wd) (H' : Heap) (gl : H'.Ns mainGlobals W.mg) (bl : H'.Ns builtinsNs W.mb) (lim : H'.NoLimit) : Wd := ⟨W.prog, W.w, H', W.mg, W.mb, gl, bl, W.bt, lim⟩
structure Tab (W : Wd) (c tb : Addr) : Prop where
  code : ∃ ps, W.H.IsCode c tb ps ∧ W.H.TableAt c tb ps
  g : mainGlobals ≠ tb
  b : builtinsNs ≠ tb
  s : cStatics ≠ tb
theorem ns_on {h h' : Heap} {a tb : Addr} {m : Str → Option Value} (e : ∀ b, b ≠ tb → h'.get? b = h.get? b) (ne : a ≠ tb) (x : h.Ns a m) : h'.Ns a m := by
  obtain ⟨o, es, ep, ho, r⟩ := x
  exact ⟨o, es, ep, (e a ne).trans ho, r⟩
theorem lim_on {h h' : Heap} {tb : Addr} (e : ∀ b, b ≠ tb → h'.get? b = h.get? b) (ne : cStatics ≠ tb) (x : h.NoLimit) : h'.NoLimit := by
  obtain ⟨mm, ⟨o, es, ep, ho, r⟩, hrest⟩ := x
  exact ⟨mm, ⟨o, es, ep, (e _ ne).trans ho, r⟩, hrest⟩
theorem trip1 {l : List Value} (h : TriplesOk l) (q : Str) (t : Tok) : l[1]? ≠ some (.str q t) := by
  intro e
  unfold TriplesOk at h
  split at h
  · simp at e
  · simp at e
  · exact h
theorem FnIs.on {W : Wd} {c tb f : Addr} {ps : List Str} {body : List Stmt} {sc : Scope} (F : FnIs W f ps body sc) (T : Tab W c tb) {H' : Heap} (e : ∀ b, b ≠ tb → H'.get? b = W.H.get? b) (gl : H'.Ns mainGlobals W.mg) (bl : H'.Ns builtinsNs W.mb) (lim : H'.NoLimit) : FnIs (W.on H' gl bl lim) f ps body sc := by
  obtain ⟨o, fd, h1, h2, h3, h4, h5, h6, h7, ⟨cc, oc, vs, t, k1, k2, k3, k4⟩, h9⟩ := F.ex
  obtain ⟨qs, hC, hT⟩ := T.code
  have hf : f ≠ tb := fun z => by
    rw [z, hT.2] at h1; cases h1; cases h2
  have hcc : cc ≠ tb := fun z => by
    rw [z, hT.2] at k2
    cases k2
    cases k3
    obtain ⟨_, _, _, _, _, _, _, _, _, op, _, _, _, _, _, _, _, b1, b2, tr, _⟩ := hC
    rw [hT.2] at b1; cases b1; cases b2
    exact trip1 tr _ _ (by simpa using k4)
  exact ⟨⟨o, fd, (e f hf).trans h1, h2, h3, h4, h5, h6, h7, ⟨cc, oc, vs, t, k1, (e cc hcc).trans k2, k3, k4⟩, h9⟩, F.kind, F.co, F.gen, F.nd, F.loc⟩
theorem gen_world {W : Wd} {env : Env} {own : List Addr} {O : Pr} {m : Locs} {as : List Addr} {σ : AH} {s s' : Shared} {c tb : Addr} (R : Rep W ((inH W).or O) as σ s.heap) (ow : Own env own (inH W) O) (hl : Loc ((inH W).or O) env m as) (T : Tab W c tb) (G : GenLeft s s' c tb) :
    ∃ (H' : Heap) (gl : H'.Ns mainGlobals W.mg) (bl : H'.Ns builtinsNs W.mb) (lim : H'.NoLimit), (∀ b, b ≠ tb → H'.get? b = W.H.get? b) ∧ Tab (W.on H' gl bl lim) c tb ∧ Own env own (inH (W.on H' gl bl lim)) O ∧ Loc ((inH (W.on H' gl bl lim)).or O) env m as ∧ Rep (W.on H' gl bl lim) ((inH (W.on H' gl bl lim)).or O) as σ s'.heap := by
  obtain ⟨qs, hC, hT⟩ := T.code
  obtain ⟨qs', hC', hT'⟩ := G.code
  have e : ∀ b, b ≠ tb → (regrown W.H tb qs').get? b = W.H.get? b := fun b hb => Heap.get?_update_other _ _ (Ne.symm hb)
  have et : (regrown W.H tb qs').get? tb = some { cls := .none, data := .fields qs' } := Heap.get?_update_self _ hT.2 rfl
  have hnt : tb ∉ own := fun q => ow.off tb q _ hT.2
  have hat : tb ∉ as := fun q => by
    obtain ⟨i, hi⟩ := List.getElem?_of_mem q
    have hlt : i < σ.length := by rw [← R.len]; exact (List.getElem?_eq_some_iff.mp hi).1
    obtain ⟨o, k1, k2, k3, k4⟩ := R.obj i tb σ[i] hi (List.getElem?_eq_getElem hlt)
    cases hm : (σ[i]).isMut with
    | true => exact k3 hm _ (.inl hT.2)
    | false =>
      have := k4 hm
      rw [hT.2] at this
      cases this
      revert k2 hm
      generalize σ[i] = ao
      intro hm k2
      cases ao with
      | «ints» ns => obtain ⟨vs, nn, z, _⟩ := k2; cases z
      | _ => cases hm
  refine ⟨regrown W.H tb qs', ns_on e T.g W.gl, ns_on e T.b W.bl, lim_on e T.s W.lim, e, ⟨⟨qs', ?_, ?_⟩, T.g, T.b, T.s⟩, ?_, ?_, ?_⟩
  · obtain ⟨o, vs, file, tf, flags, tg, inF, text, tt, op, a1, r1, r2, r3, r4, r5, r6, b1, b2, b3, b4⟩ := hC
    obtain ⟨_, _, _, _, _, _, _, _, _, op', _, _, _, _, _, _, _, d1, d2, d3, _⟩ := hC'
    exact ⟨o, vs, file, tf, flags, tg, inF, text, tt, _, (e c b4).trans a1, r1, r2, r3, r4, r5, r6, et, rfl, d3, b4⟩
  · obtain ⟨⟨o, vs, a1, r⟩, _⟩ := hT
    have : c ≠ tb := by obtain ⟨_, _, _, _, _, _, _, _, _, _, _, _, _, _, _, _, _, _, _, _, b4⟩ := hC; exact b4
    exact ⟨⟨o, vs, (e c this).trans a1, r⟩, et⟩
  · refine ⟨ow.loc, ow.cel, ow.hasC, ow.inj, ow.dom, ow.has, fun a ha o q => ?_⟩
    have : a ≠ tb := fun z => hnt (z ▸ ha)
    exact ow.off a ha o ((e a this).symm.trans q)
  · refine ⟨?_, fun x av q1 q2 => ?_⟩
    · obtain ⟨oL, mm, k1, k2, k3⟩ := hl.loc
      exact ⟨oL, mm, .inr (k1.elim (fun z => absurd z (ow.off _ ow.loc _)) id), k2, k3⟩
    · obtain ⟨v, cc, o, k1, k2, k3, k4⟩ := hl.cel x av q1 q2
      exact ⟨v, cc, o, k1, k2, .inr (k3.elim (fun z => absurd z (ow.off _ (ow.cel x cc k2).1 _)) id), k4⟩
  · refine ⟨R.len, R.nd, fun b y q => ?_, fun i a ao e1 e2 => ?_⟩
    · by_cases z : b = tb
      · subst z
        rcases q with q | q
        · have q : (regrown W.H b qs').get? b = some y := q
          rw [et] at q; cases q; exact hT'.2
        · exact absurd (ow.dom _ _ q) hnt
      · refine G.heap b y z (R.keep b y ?_)
        rcases q with q | q
        · exact .inl ((e b z).symm.trans q)
        · exact .inr q
    · have ha : a ≠ tb := fun z => hat (z ▸ List.mem_of_getElem? e1)
      obtain ⟨o, k1, k2, k3, k4⟩ := R.obj i a ao e1 e2
      refine ⟨o, G.heap a o ha k1, k2, fun hm o' q => k3 hm o' ?_, fun hm => (e a ha).trans (k4 hm)⟩
      rcases q with q | q
      · exact .inl ((e a ha).symm.trans q)
      · exact .inr q
end Mine
end
section
set_option maxRecDepth 100000
set_option linter.unusedVariables false
namespace Mine
open PySem PySem.W PyProof.Rows
theorem name_run {W : Wd} {sc : Scope} {m : Locs} {σ : AH} {A : Around} {env : Env} {P : Pr} {as : List Addr} {s : Shared} {x : Str} {pos : Pos} {av : AV} {Qc : Value → Shared → Prop} {E : Value → Shared → Prop} (hm : m.lookup x = some av) (hk : nameOk sc x = true) (he : EnvIs env sc) (hl : Loc P env m as) (R : Rep W P as σ s.heap)
    (fin : ∀ v, VRel as v av → Qc v s) : wpAny (model W.prog W.w) A (eval (.Name x pos) env) Qc E s := by
  unfold nameOk at hk
  have hsc : env.scope.kind = .function := by rw [he.sc]; exact he.kind
  split at hk
  · rename_i hn
    obtain ⟨oL, mm, h1, h2, h3⟩ := hl.loc
    obtain ⟨v, hv, hmm⟩ := h3 x av hm (by rw [he.sc]; exact hn)
    exact wpAny_Name (wpAny_loadName_local hsc (by unfold Env.kindOf; rw [he.sc]; exact hn) (h2.ns (R.keep _ _ h1)) hmm (fin v hv)) (by simpa using hk)
  · rename_i hn
    obtain ⟨v, cc, o, hv, h1, h2, h3⟩ := hl.cel x av hm (.inl (by rw [he.sc]; exact hn))
    exact wpAny_Name (wpAny_loadName_cell hsc (by unfold Env.kindOf; rw [he.sc]; exact hn) h1 ⟨o, R.keep _ _ h2, h3⟩ (fin v hv)) (by simpa using hk)
  · rename_i hn
    obtain ⟨v, cc, o, hv, h1, h2, h3⟩ := hl.cel x av hm (.inr (by rw [he.sc]; exact hn))
    rw [Bool.and_eq_true] at hk
    exact wpAny_Name (wpAny_loadName_free hsc (by unfold Env.kindOf; rw [he.sc]; exact hn) h1 ⟨o, R.keep _ _ h2, h3⟩ (fin v hv) (by simpa using hk.2)) (by simpa using hk.1)
  · cases hk
theorem tab_off {W : Wd} {O : Pr} {as : List Addr} {σ : AH} {h : Heap} {c tb : Addr} (R : Rep W ((inH W).or O) as σ h) (T : Tab W c tb) : tb ∉ as := fun q => by
  obtain ⟨qs, hC, hT⟩ := T.code
  obtain ⟨i, hi⟩ := List.getElem?_of_mem q
  have hlt : i < σ.length := by rw [← R.len]; exact (List.getElem?_eq_some_iff.mp hi).1
  obtain ⟨o, k1, k2, k3, k4⟩ := R.obj i tb σ[i] hi (List.getElem?_eq_getElem hlt)
  cases hm : (σ[i]).isMut with
  | true => exact k3 hm _ (.inl hT.2)
  | false =>
    have := k4 hm
    rw [hT.2] at this
    cases this
    revert k2 hm
    generalize σ[i] = ao
    intro hm k2
    cases ao with
    | «ints» ns => obtain ⟨vs, nn, z, _⟩ := k2; cases z
    | _ => cases hm
theorem any_idx (f : Int → Bool) : ∀ cl : List Int, (List.range cl.length).any (fun i => f ((cl[i]?).getD 0)) = cl.any f := by
  intro cl
  have : (List.range cl.length).map (fun i => (cl[i]?).getD 0) = cl := by
    apply List.ext_getElem (by simp)
    intro i h1 h2
    simp [List.getElem?_eq_getElem h2]
  conv => rhs; rw [← this]
  rw [List.any_map]; rfl
theorem anyG {W : Wd} {sc gsc : Scope} {env : Env} {own : List Addr} {O : Pr} {m : Locs} {as : List Addr} {σ : AH} {s : Shared} {A : Around} {E : Value → Shared → Prop} {c tb bm : Addr} {ob : Obj} {lcl lw : Nat} {cl ws : List Int} {p1 p2 p3 p4 p5 p6 p7 p8 : Pos} {Q : Value → Shared → Prop}
    (hgn : gsc.names = [((".0" : Str), NameKind.local), (("lit" : Str), NameKind.local), (("worth_one" : Str), NameKind.free)]) (hgk : gsc.kind = .function) (hgc : gsc.isCoroutine = false)
    (hsn : sc.names.lookup ("worth_one" : Str) = some NameKind.cell) (hck : nameOk sc "clause" = true) (hak : globOk sc "any" = true) (hmany : W.mg "any" = none)
    (hh : A.handled = none) (hroom : A.depth < recursionLimit) (he : EnvIs env sc) (hcd : env.code = .ref c) (ow : Own env own (inH W) O) (hl : Loc ((inH W).or O) env m as) (R : Rep W ((inH W).or O) as σ s.heap) (hb : AllBare s.gens) (T : Tab W c tb) (M : BMod W.H mainGlobals W.mg bm ob) (hbt : bm ≠ tb)
    (mc : m.lookup ("clause" : Str) = some (AV.ref lcl)) (gc : σ[lcl]? = some (.list (cl.map .int))) (mw : m.lookup ("worth_one" : Str) = some (AV.ref lw)) (gw : σ[lw]? = some (.list (ws.map .int)))
    (hQ : ∀ s', GenLeft s s' c tb → Q (.bool (cl.any fun l => ws.any (· == l))) s') :
    wpAny (model W.prog W.w) A (eval (.Call (.Name "any" p1) [.GeneratorExp (.Compare (.Name "lit" p2) [.In] [.Name "worth_one" p3] p4) [⟨.Name "lit" p5, .Name "clause" p6, [], 0⟩] gsc p7] [] p8) env) Q E s := by
  have hi : W.In ((inH W).or O) := fun _ _ e => .inl e
  have keepH : ∀ b o, W.H.get? b = some o → s.heap.get? b = some o := fun b o e => R.keep b o (.inl e)
  obtain ⟨ps, hC, hT⟩ := T.code
  have e : eval (.Call (.Name "any" p1) [.GeneratorExp (.Compare (.Name "lit" p2) [.In] [.Name "worth_one" p3] p4) [⟨.Name "lit" p5, .Name "clause" p6, [], 0⟩] gsc p7] [] p8) env = (do callWith p8 (← eval (.Name "any" p1) env) [] (backTo p8 (starEach [.GeneratorExp (.Compare (.Name "lit" p2) [.In] [.Name "worth_one" p3] p4) [⟨.Name "lit" p5, .Name "clause" p6, [], 0⟩] gsc p7] env)) []) := rfl
  rw [e]
  have hany : ∀ Q' : Value → Shared → Prop, Q' (.builtin "any") s → wpAny (model W.prog W.w) A (eval (.Name "any" p1) env) Q' E s := fun Q' q => by
    unfold globOk at hak
    split at hak
    · rename_i hn'
      refine Calls.Name_function_global (by rw [he.sc]; exact he.kind) (by unfold Env.kindOf; rw [he.sc]; exact hn') ?_ (by simpa using hak)
      refine Calls.loadGlobal_builtin (mg := W.mg) (mb := W.mb) ?_ hmany ?_ ((W.bt "any" (by decide +kernel)).trans rfl) q
      · rw [he.gl]; exact W.gl.keeps keepH
      · rw [he.bl]; exact W.bl.keeps keepH
    · cases hak
  refine wpAny_bind (hany _ ?_)
  refine callWith_of (P := fun _ => True) (by rw [any_backTo p8 env _ rfl]; rfl) (fun h _ => ⟨.machine, .inr (.inl rfl), Looks.of_pure rfl⟩) ?_
  refine Calls.evalArgs_plain ?_
  refine wpAny_items_cons ?_ (star_not (e := .GeneratorExp (.Compare (.Name "lit" p2) [.In] [.Name "worth_one" p3] p4) [⟨.Name "lit" p5, .Name "clause" p6, [], 0⟩] gsc p7) rfl [] env)
  -- the two lists
  have hat : tb ∉ as := tab_off R T
  obtain ⟨vC, aC, oC, hvC, c1, c2, c3⟩ : ∃ v a o, v = Value.ref a ∧ as[lcl]? = some a ∧ s.heap.get? a = some o ∧ ORel W.w.params as o (.list (cl.map .int)) := by
    have hlt : lcl < as.length := by rw [R.len]; exact lt_of_get gc
    obtain ⟨o, k1, k2, _⟩ := R.obj lcl as[lcl] _ (List.getElem?_eq_getElem hlt) gc
    exact ⟨_, as[lcl], o, rfl, List.getElem?_eq_getElem hlt, k1, k2⟩
  obtain ⟨vsC, hLC, hvsC⟩ := isList_of c2 c3
  obtain ⟨vW, ccW, oW, w1, w2, w3, w4⟩ := hl.cel _ _ mw (.inl (by rw [he.sc]; exact hsn))
  obtain ⟨aW, oW2, rfl, x1, x2, x3⟩ := R.ref w1 gw
  obtain ⟨vsW, hLW, hvsW⟩ := isList_of x2 x3
  have hcW : ccW ≠ tb := fun z => ow.off ccW (ow.cel _ _ w2).1 _ (z ▸ hT.2)
  have gcW : s.heap.get? ccW = some oW := R.keep _ _ w3
  have hcells : ∀ p ∈ gsc.names, p.2 = .free → (env.cells.lookup p.1).isSome = true := fun p hp e => by
    rw [hgn] at hp
    simp only [List.mem_cons, List.not_mem_nil, or_false] at hp
    rcases hp with rfl | rfl | rfl
    · cases e
    · cases e
    · rw [w2]; rfl
  have hlW : (closL env gsc.names []).lookup ("worth_one" : Str) = some ccW := by
    rw [closL_lookup _ gsc.names [] (fun c h => by simp at h) (.inr (by rw [hgn]; simp)) (by rw [w2]; rfl), w2]
  refine wpAny_mono (any_gen (l := aC) (c := c) (P := tb) (bm := bm) (ps := ps) (mg := W.mg) (ob := ob) (vs := vsC) (tr := fun i => ws.any (· == (cl[i]?).getD 0)) hh hgc (closure_eq hcells) ?_ (by rw [hgn]; decide +kernel) (by rw [hgn]; decide +kernel) hgk hroom (fun Q' q => name_run mc hck he hl R fun v hv => ?_) (fun x => show foldedSetIterable (.Name "clause" p6) env x = pure x from folded_not rfl env x) hLC (fun z => hat (z ▸ List.mem_of_getElem? c1)) (W.lim.keeps keepH) hb hcd (hC.keeps keepH) (hT.keeps keepH) (by rw [he.gl]; exact M.keeps keepH) (by rw [he.gl]; exact T.g) hbt T.s ?_ fun s' G => ?_) (fun g s₅ h₅ => wpAny_items_nil ⟨trivial, h₅⟩) fun _ _ x => x
  · intro y hy e
    rw [hgn] at hy
    simp only [List.mem_cons, List.not_mem_nil, or_false] at hy
    rcases hy with rfl | rfl | rfl <;> cases e
  · obtain ⟨a, k1, rfl⟩ := hv
    rw [c1] at k1
    cases k1
    exact q
  · intro C code A' E' i v s₂ m₂ hA hCC hv hns hm2 hk2
    obtain ⟨a, t, rfl, hcl⟩ : ∃ a t, v = Value.int a t ∧ cl[i]? = some a := by
      have hlt : i < cl.length := by
        have := (List.getElem?_eq_some_iff.mp hv).1
        rw [hvsC.length, List.length_map] at this; exact this
      obtain ⟨v', k1, t, k2⟩ := hvsC.get (i := i) (x := .int cl[i]) (by rw [List.getElem?_map, List.getElem?_eq_getElem hlt]; rfl)
      rw [hv] at k1
      cases k1
      exact ⟨_, t, k2, List.getElem?_eq_getElem hlt⟩
    have hLW2 : s₂.heap.IsList aW vsW.toArray := by
      obtain ⟨o, k1, r⟩ := hLW
      exact ⟨o, hk2 _ _ (fun z => hat (z ▸ List.mem_of_getElem? x1)) k1, r⟩
    refine wpAny_Compare1 ?_ rfl
    refine wpAny_Name (wpAny_loadName_local hgk (show gsc.names.lookup ("lit" : Str) = some NameKind.local by rw [hgn]; decide +kernel) hns hm2 ?_) (by decide +kernel)
    refine wpAny_Name (wpAny_loadName_free hgk (show gsc.names.lookup ("worth_one" : Str) = some NameKind.free by rw [hgn]; decide +kernel) hlW ⟨oW, hk2 _ _ hcW gcW, w4⟩ ?_ (by decide +kernel)) (by decide +kernel)
    refine in_list_ints hLW2 (ints_of hvsW) ⟨?_, s₂.heap, s₂.toks, rfl, fun _ _ e => e⟩
    rw [hcl]; rfl
  · have := hQ s' G
    rw [← any_idx _ cl] at this
    rw [hvsC.length, List.length_map]
    exact this
end Mine
end
section
set_option maxRecDepth 100000
set_option linter.unusedVariables false
namespace Mine
open PySem PySem.W PyProof.Rows
/-- a store beside an object that is to stay -/
theorem store_I {W : Wd} {n : Nat} {sc : Scope} {A : Around} {env : Env} {own : List Addr} {O : Pr} {as : List Addr} {σ : AH} {m : Locs} {s : Shared} {x : Str} {vv : Value} {v : AV} {I : Addr} {oI : Obj} {Qc : Unit → Shared → Prop} {E : Value → Shared → Prop}
    (hr : Room n A) (he : EnvIs env sc) (ow : Own env own (inH W) O) (hl : Loc ((inH W).or O) env m as) (R : Rep W ((inH W).or O) as σ s.heap) (hI : s.heap.get? I = some oI) (nas : I ∉ as) (nown : I ∉ own) (hv : VRel as vv v) (hx : storeOk sc x = true)
    (c : ∀ h' tk' O', Own env own (inH W) O' → Loc ((inH W).or O') env (setL x v m) as → Rep W ((inH W).or O') as σ h' → h'.get? I = some oI → Qc () { s with heap := h', toks := tk' }) : wpAny (model W.prog W.w) A (storeName env x vv) Qc E s := by
  have hi : W.In ((inH W).add I oI) := fun _ _ e => .inl e
  have ow' : Own env own ((inH W).add I oI) O := ⟨ow.loc, ow.cel, ow.hasC, ow.inj, ow.dom, ow.has, fun a ha o q => q.elim (ow.off a ha o) fun ⟨z, _⟩ => nown (z ▸ ha)⟩
  have R' : Rep W (((inH W).add I oI).or O) as σ s.heap := (R.hold nas hI).weaken fun a o q => by
    rcases q with (q | q) | q
    · exact .inl (.inl q)
    · exact .inr q
    · exact .inl (.inr q)
  refine store_own hr he hi ow' (hl.up fun a o q => q.elim (fun q => .inl (.inl q)) .inr) R' hv hx fun h' tk' O' w l r => ?_
  have w' : Own env own (inH W) O' := ⟨w.loc, w.cel, w.hasC, w.inj, w.dom, w.has, fun a ha o q => w.off a ha o (.inl q)⟩
  exact c h' tk' O' w' (l.drop w' nown) (r.weaken fun a o q => q.elim (fun q => .inl (.inl q)) .inr) (r.keep I oI (.inl (.inr ⟨rfl, rfl⟩)))
theorem take_all (f : List Int → Bool) {cs : List (List Int)} {i : Nat} {c : List Int} (h : cs[i]? = some c) : (cs.take (i + 1)).all f = ((cs.take i).all f && f c) := by
  rw [List.take_add_one, h, List.all_append]; simp
section
variable {W : Wd} {n : Nat} {sc gsc : Scope} {m : Locs} {σ : AH} {c tb bm : Addr} {ob : Obj} {os0 : OsState} {Post : Flow → Shared → Prop}
theorem loopG {p0 p1 p2 p3 p4 p5 p6 p7 p8 q0 q1 q2 q3 q4 q5 q6 : Pos} {k : Nat} {rest : List Stmt} {lc lw : Nat} {is : List Nat} {cs : List (List Int)} {ws : List Int}
    (hgn : gsc.names = [((".0" : Str), NameKind.local), (("lit" : Str), NameKind.local), (("worth_one" : Str), NameKind.free)]) (hgk : gsc.kind = .function) (hgc : gsc.isCoroutine = false)
    (hsn : sc.names.lookup ("worth_one" : Str) = some NameKind.cell) (hck : nameOk sc "clause" = true) (hak : globOk sc "any" = true) (hmany : W.mg "any" = none) (hks : nameOk sc "clauses" = true) (hss : storeOk sc "clause" = true) (hsw : storeOk sc "want" = true)
    (T : Tab W c tb) (M : BMod W.H mainGlobals W.mg bm ob) (hbt : bm ≠ tb)
    (mc : m.lookup ("clauses" : Str) = some (AV.ref lc)) (mw : m.lookup ("worth_one" : Str) = some (AV.ref lw)) (mt : m.lookup ("want" : Str) = some (AV.bool true)) (gw : σ[lw]? = some (.list (ws.map .int))) (hR : RowsP σ lc is cs)
    (next : ∀ (H' : Heap) (gl : H'.Ns mainGlobals W.mg) (bl : H'.Ns builtinsNs W.mb) (lim : H'.NoLimit), (∀ b, b ≠ tb → H'.get? b = W.H.get? b) → Tab (W.on H' gl bl lim) c tb → ∀ m' : Locs, (∀ x : Str, x ≠ "clause" → x ≠ "want" → m'.lookup x = m.lookup x) → m'.lookup ("want" : Str) = some (AV.bool (cs.all fun c => c.any fun l => ws.any (· == l))) →
      TXG (W.on H' gl bl lim) n sc (.ref c) os0 (execs rest) Post m' σ) :
    TXG W n sc (.ref c) os0 (execs (.For (.Name "clause" q0) (.Name "clauses" q1) [.If (.UnaryOp .Not (.Call (.Name "any" p1) [.GeneratorExp (.Compare (.Name "lit" p2) [.In] [.Name "worth_one" p3] p4) [⟨.Name "lit" p5, .Name "clause" p6, [], 0⟩] gsc p7] [] p8) q2) [.Assign [.Name "want" q3] (.Constant (.bool false) k q4) q5] [] q6] [] p0 :: rest)) Post m σ := by
  intro A env own O as s hr he hcd ow hl R hb ho Qc E fin
  refine wpAny_execs_cons (wpAny_For (name_run mc hks he hl R fun v hv => ?_) fun x => folded_not rfl env x)
  obtain ⟨al, e1, rfl⟩ := hv
  obtain ⟨a, oa, h1, h2, h3⟩ := R.at hR.g
  have : a = al := by rw [e1] at h1; exact (Option.some.inj h1).symm
  subst this
  obtain ⟨vs, hL, hv⟩ := isList_of h2 h3
  refine wpAny_pyIter_list hL ?_
  have fr := get?_size_none s.heap
  have hkeepH : ∀ b o, W.H.get? b = some o → s.heap.get? b = some o := fun b o e => R.keep b o (.inl e)
  have nI : W.H.get? s.heap.objs.size = none := by
    cases q : W.H.get? s.heap.objs.size with
    | none => rfl
    | some o => have := hkeepH _ _ q; rw [fr] at this; cases this
  have nas : s.heap.objs.size ∉ as := R.fresh fr
  have nown : s.heap.objs.size ∉ own := fun q => by
    obtain ⟨o, h⟩ := ow.has _ q
    have := R.keep _ _ (.inr h); rw [fr] at this; cases this
  have nIt : s.heap.objs.size ≠ tb := fun z => by
    obtain ⟨qs, hC, hT⟩ := T.code
    have := hkeepH _ _ hT.2
    rw [← z, fr] at this; cases this
  have R₂ := R.grow (h' := s.heap.push { cls := .type "list_iterator", data := .fields #[.ref a, .int 0 0] }) fun b o e => Heap.get?_push_of_some _ e
  have eI : (s.heap.push { cls := .type "list_iterator", data := .fields #[.ref a, .int 0 0] }).get? s.heap.objs.size = some { cls := .type "list_iterator", data := .fields #[.ref a, .int 0 0] } := Heap.get?_push_size _ rfl
  revert eI R₂
  generalize s.heap.push { cls := .type "list_iterator", data := .fields #[.ref a, .int 0 0] } = h₀
  revert nI nas nown nIt
  generalize s.heap.objs.size = I
  intro nI nas nown nIt R₂ eI
  refine codeAny_forLoop_any (fun kk s' => ∃ (i : Nat) (H' : Heap) (gl : H'.Ns mainGlobals W.mg) (bl : H'.Ns builtinsNs W.mb) (lim : H'.NoLimit) (m' : Locs) (O' : Pr), i ≤ cs.length ∧ kk = cs.length + 1 - i ∧ (∀ b, b ≠ tb → H'.get? b = W.H.get? b) ∧ Tab (W.on H' gl bl lim) c tb ∧ Own env own (inH (W.on H' gl bl lim)) O' ∧ Loc ((inH (W.on H' gl bl lim)).or O') env m' as ∧ Rep (W.on H' gl bl lim) ((inH (W.on H' gl bl lim)).or O') as σ s'.heap ∧ AllBare s'.gens ∧ s'.os = os0 ∧
      (∀ x : Str, x ≠ "clause" → x ≠ "want" → m'.lookup x = m.lookup x) ∧ m'.lookup ("want" : Str) = some (AV.bool ((cs.take i).all fun c => c.any fun l => ws.any (· == l))) ∧ s'.heap.IsListIter I a i) ?_ (cs.length + 1)
    ⟨0, W.H, W.gl, W.bl, W.lim, m, O, Nat.zero_le _, rfl, fun _ _ => rfl, T, ow, hl, R₂, hb, ho, fun _ _ _ => rfl, mt, _, eI, rfl, rfl⟩
  rintro kk s₁ ⟨i, H₁, gl₁, bl₁, lim₁, m₁, O₁, hle, rfl, e₁, T₁, ow₁, l₁, R₁, hb₁, ho₁, hm₁, hw₁, hI₁⟩
  obtain ⟨a', oa', k1, k2, k3⟩ := R₁.at hR.g
  have : a' = a := by rw [e1] at k1; exact (Option.some.inj k1).symm
  subst this
  obtain ⟨vs₁, hL₁, hv₁⟩ := isList_of k2 k3
  have nI₁ : H₁.get? I = none := (e₁ I nIt).trans nI
  have nP : ∀ x, ¬ ((inH (W.on H₁ gl₁ bl₁ lim₁)).or O₁) I x := fun x q => by
    rcases q with q | q
    · have q : H₁.get? I = some x := q
      rw [nI₁] at q; cases q
    · exact nown (ow₁.dom _ _ q)
  have mv : ∀ h₂, (∀ b x, b ≠ I → s₁.heap.get? b = some x → h₂.get? b = some x) → Rep (W.on H₁ gl₁ bl₁ lim₁) ((inH (W.on H₁ gl₁ bl₁ lim₁)).or O₁) as σ h₂ := fun h₂ hk => by
    refine R₁.move (fun b x q => ?_) (fun b x hb q => q) fun b hb x e => hk b x (fun z => nas (z ▸ hb)) e
    exact hk b x (fun z => nP x (z ▸ q)) (R₁.keep b x q)
  by_cases hlt : i < cs.length
  · have hx : cs[i]? = some cs[i] := List.getElem?_eq_getElem hlt
    have hlen : is.length = cs.length := hR.r.length
    have hir : is[i]? = some (is[i]'(by omega)) := List.getElem?_eq_getElem _
    generalize is[i]'(by omega) = r at hir
    obtain ⟨cl, hc, -, hrow⟩ := hR.r.geti hir
    obtain ⟨v, hv1, hv2⟩ := hv₁.get (i := i) (x := AV.ref r) (by rw [List.getElem?_map, hir]; rfl)
    refine wpAny_pyNext_list_item hI₁ hL₁ (x := v) (by simpa using hv1) fun h₂ hit sb => ?_
    have R₂ := mv h₂ fun b x hb e => (sb.2 b hb).trans e
    obtain ⟨oI, i1, i2, i3⟩ := hit
    refine wpAny_pure ?_
    refine wpAny_assign_Name ?_
    refine store_I (W := W.on H₁ gl₁ bl₁ lim₁) hr he ow₁ l₁ R₂ i1 nas nown hv2 hss fun h₃ tk₃ O₃ ow₃ l₃ R₃ i₃ => ?_
    refine wpAny_execs_cons (wpAny_If (wpAny_isTrue_Not (wpAny_isTrue_value ?_)))
    refine anyG (W := W.on H₁ gl₁ bl₁ lim₁) (bm := bm) (ob := ob) (lcl := r) (lw := lw) (cl := cl) (ws := ws) hgn hgk hgc hsn hck hak hmany hr.1 (by have := hr.2.1; omega) he hcd ow₃ l₃ R₃ hb₁ T₁ ?_ hbt (setL_same _ _ _) hrow ((setL_other _ (by decide +kernel) _).trans ((hm₁ _ (by decide +kernel) (by decide +kernel)).trans mw)) gw fun s₄ G => ?_
    · exact ⟨gl₁, M.name, M.ne, (e₁ bm hbt).trans M.obj, M.cls, M.dict, M.data⟩
    refine wpAny_truthy_bool ?_
    obtain ⟨H₄, gl₄, bl₄, lim₄, e₄, T₄, ow₄, l₄, R₄⟩ := gen_world (W := W.on H₁ gl₁ bl₁ lim₁) R₃ ow₃ l₃ T₁ G
    have e₄' : ∀ b, b ≠ tb → H₄.get? b = W.H.get? b := fun b hb => (e₄ b hb).trans (e₁ b hb)
    have i₄ : s₄.heap.get? I = some oI := G.heap I oI nIt i₃
    have ho₄ : s₄.os = os0 := G.os.trans ho₁
    have hm₄ : ∀ x : Str, x ≠ "clause" → x ≠ "want" → (setL "clause" (.ref r) m₁).lookup x = m.lookup x := fun x z1 z2 => (setL_other _ z1 _).trans (hm₁ x z1 z2)
    have hw₄ : (setL "clause" (.ref r) m₁).lookup ("want" : Str) = _ := (setL_other _ (by decide +kernel) _).trans hw₁
    have hta := take_all (fun c => c.any fun l => ws.any (· == l)) hc
    cases hq : (cl.any fun l => ws.any (· == l)) with
    | true =>
      rw [if_neg (by decide)]
      refine wpAny_execs_nil (wpAny_execs_nil ⟨cs.length + 1 - (i + 1), by omega, i + 1, H₄, gl₄, bl₄, lim₄, _, _, hlt, rfl, e₄', T₄, ow₄, l₄, R₄, G.bare, ho₄, hm₄, ?_, oI, i₄, i2, i3⟩)
      rw [hw₄, hta]; simp only [hq, Bool.and_true]
    | false =>
      rw [if_pos (by decide)]
      refine wpAny_execs_cons (wpAny_Assign_Name (wpAny_Constant_bool ?_))
      refine store_I (W := W.on H₄ gl₄ bl₄ lim₄) hr he ow₄ l₄ R₄ i₄ nas nown (v := .bool false) rfl hsw fun h₅ tk₅ O₅ ow₅ l₅ R₅ i₅ => ?_
      refine wpAny_execs_nil (wpAny_execs_nil ⟨cs.length + 1 - (i + 1), by omega, i + 1, H₄, gl₄, bl₄, lim₄, _, _, hlt, rfl, e₄', T₄, ow₅, l₅, R₅, G.bare, ho₄, fun x z1 z2 => (setL_other _ z2 _).trans (hm₄ x z1 z2), ?_, oI, i₅, i2, i3⟩)
      rw [setL_same, hta]; simp only [hq, Bool.and_false]
  · have hi' : i = cs.length := by omega
    subst hi'
    refine wpAny_pyNext_list_end hr.1 hI₁ hL₁ (by simp [hv₁.length, hR.r.length]) fun h₂ xb => ?_
    rw [List.take_length] at hw₁
    exact wpAny_execs_nil (next H₁ gl₁ bl₁ lim₁ e₁ T₁ m₁ hm₁ hw₁ A env own O₁ as { s₁ with heap := h₂ } hr he hcd ow₁ l₁ (mv h₂ xb) hb₁ ho₁ Qc E fin)
end
end Mine
end
section
set_option maxRecDepth 100000
set_option linter.unusedVariables false
namespace Mine
open PySem PySem.W PyProof.Rows
theorem tab_of {W : Wd} {c tb : Addr} {qs : Array Value} (h1 : W.H.IsCode c tb qs) (h2 : W.H.TableAt c tb qs) : Tab W c tb := by
  have ne : ∀ {a : Addr} {m : Str → Option Value}, W.H.Ns a m → a ≠ tb := fun x z => by
    obtain ⟨o, es, ep, ho, hd, _⟩ := x
    rw [z, h2.2] at ho; cases ho; cases hd
  obtain ⟨_, hn, _⟩ := W.lim
  exact ⟨⟨qs, h1, h2⟩, ne W.gl, ne W.bl, ne hn⟩
/-- the answer of the law's call -/
def PostG (s₁ : Shared) (c tb : Addr) (v : Value) (s' : Shared) : Prop :=
  v = .bool true ∧ s'.os = s₁.os ∧ AllBare s'.gens ∧ (∀ b o, b ≠ tb → s₁.heap.get? b = some o → s'.heap.get? b = some o) ∧ ∃ ps, s'.heap.TableAt c tb ps
theorem oldK_of {h h' : Heap} {c tb : Addr} (h0 : h.TableAt c tb #[]) (k : ∀ b o, b ≠ tb → h.get? b = some o → h'.get? b = some o) (t : ∃ ps, h'.TableAt c tb ps) : OldK h h' := by
  obtain ⟨ps, t⟩ := t
  refine ⟨fun b o e => ?_, fun b o e => ?_⟩
  · by_cases z : b = tb
    · subst z
      rw [h0.2] at e
      cases e
      exact .inr (.inl ⟨h0.isCodeTable, rfl, #[], ps, rfl, by rw [Array.empty_append]; exact t.2⟩)
    · exact .inl (k b o z e)
  · by_cases z : b = tb
    · subst z; exact ⟨_, t.2⟩
    · exact ⟨o, k b o z e⟩
theorem law_bridgeG {l : OpenLaw} {w : World} {p : Program} {loose : List Str} {mean : ExcName → Option Value} {mg mb : Str → Option Value} {s₁ : Shared} {cl : Str → Option Addr} {mean' : ExcName → Option Value} {args : List WData} {fa ad c tb : Addr} {vs : List Value} {ns : List Int} {ps : List Str} {body : List Stmt} {sc : Scope}
    (T : Top p loose mean mg mb s₁.heap) (hL : s₁.heap.IsList ad vs.toArray) (hI : IntsAre vs ns) (hg : s₁.gens = #[]) (h0 : s₁.heap.TableAt c tb #[])
    (F : FnIs ⟨l.prog, w, s₁.heap, mg, mb, T.g, T.b, T.builtins, T.nolimit⟩ fa ps body sc) (hcd : ∃ o fd, s₁.heap.get? fa = some o ∧ o.data = .func fd ∧ fd.code = .ref c) (hps : 1 = ps.length)
    (h : TXG ⟨l.prog, w, s₁.heap, mg, mb, T.g, T.b, T.builtins, T.nolimit⟩ 19 sc (.ref c) s₁.os (execs body) (fun fl s' => ∃ v, fl = .ret v ∧ PostG s₁ c tb v s') (ps.zip [.ref 0]) [.ints ns]) :
    wpAny (model l.row.prog w) callerA (call (.ref fa) [.ref ad]) (fun v s' => GoodWG l.row.claim cl mean' args s₁ (.ok (.ret v)) s') (fun e s' => GoodWG l.row.claim cl mean' args s₁ (.error e) s') s₁ := by
  obtain ⟨o, ho, hc, k, hd⟩ := hL
  refine wpAny_call (code_fnG (args := [.ref 0]) F hcd hps h (A := callerA) (as := [ad]) (vals := [.ref ad]) ⟨rfl, by decide, by decide⟩ ⟨⟨ad, rfl, rfl⟩, trivial⟩ ?_ (by rw [hg]; exact .of_eq rfl) rfl _ _ fun v s' q => ?_)
  · refine ⟨rfl, by simp, fun a o e => e, fun i a ao e1 e2 => ?_⟩
    have hi : i = 0 := by
      cases i with
      | zero => rfl
      | succ i => simp at e1
    subst hi
    have : a = ad := by simpa using e1.symm
    subst this
    have : ao = .ints ns := by simpa using e2.symm
    subst this
    exact ⟨o, ho, ⟨vs, k, hc, hd, ints_rel hI⟩, fun q => (nomatch q), fun _ => ho⟩
  · obtain ⟨rfl, q1, q2, q3, q4⟩ := q
    exact ⟨.inl ⟨.bool true, .bool true, [], rfl, fun _ => rfl, .bool true, postW_of (r := l.row.toRowW) rfl (w_eq_bool (w_res rfl) w_lit) rfl, fun _ => ⟨.nil, fun _ ha => nomatch ha⟩⟩, oldK_of h0 q3 q4, q1, q2⟩
end Mine
end
section
set_option maxRecDepth 100000
set_option linter.unusedVariables false
namespace Mine
/-! the plain mirror of the solver -/
inductive CS where
  | tru
  | fls
  | opn
  | unit (l : Int)
def csS : CS → PySem.Str
  | .tru => "true"
  | .fls => "false"
  | .opn => "open"
  | .unit _ => "unit"
theorem cs_ok (c : CS) : PySem.PyData.strOk (csS c) = true := by
  cases c with
  | unit l => show PySem.PyData.strOk "unit" = true; decide +kernel
  | _ => decide +kernel
theorem ok_false : PySem.PyData.strOk "false" = true := by decide +kernel
theorem ok_unit : PySem.PyData.strOk "unit" = true := by decide +kernel
def csF : CS → Bool
  | .fls => true
  | _ => false
def csU : CS → Bool
  | .unit _ => true
  | _ => false
theorem cs_false (c : CS) : (csS c == ("false" : PySem.Str)) = csF c := by
  cases c with
  | unit l => show (("unit" : PySem.Str) == "false") = false; decide +kernel
  | _ => decide +kernel
theorem cs_unit (c : CS) : (csS c == ("unit" : PySem.Str)) = csU c := by
  cases c with
  | unit l => show (("unit" : PySem.Str) == "unit") = true; decide +kernel
  | _ => decide +kernel
def csI : CS → Int
  | .unit l => l
  | _ => 0
def unsetOf (c ws : List Int) : List Int := c.filter fun l => wv ws l == 0
def cstate (c ws : List Int) : CS :=
  if c.any (fun l => wv ws l == 1) then .tru else
  match unsetOf c ws with
  | [] => .fls
  | x :: xs => if (x :: xs).all (· == x) then .unit x else .opn
/-- one walk over the clauses: (no conflict, worths, order, moved) -/
def passM : List (List Int) → List Int → List Int → Bool → Bool × List Int × List Int × Bool
  | [], ws, od, mv => (true, ws, od, mv)
  | c :: cs, ws, od, mv => match cstate c ws with
    | .fls => (false, ws, od, mv)
    | .unit l => passM cs (wset ws l) (od ++ [l]) true
    | _ => passM cs ws od mv
def propM (cs : List (List Int)) : Nat → List Int → List Int → Bool × List Int × List Int
  | 0, ws, od => (true, ws, od)
  | k + 1, ws, od => match passM cs ws od false with
    | (false, ws', od', _) => (false, ws', od')
    | (true, ws', od', mv) => if mv then propM cs k ws' od' else (true, ws', od')
/-- the first name that has no worth, from v on -/
def ffree (ws : List Int) : Nat → Nat → Nat
  | _, 0 => 0
  | v, k + 1 => if (ws[v]?).getD 0 = 0 then v else ffree ws (v + 1) k
structure St where
  ws : List Int
  od : List Int
  ms : List Nat
  pf : List (List Int)
def decs (od : List Int) (mk : List Nat) : List Int := mk.map fun k => (od[k]?).getD 0
inductive Turn where
  | unsat (s : St)
  | sat (s : St)
  | go (s : St)
def turnM (n : Nat) (cs : List (List Int)) (s : St) : Turn :=
  match propM cs (n + 1) s.ws s.od with
  | (false, ws, od) =>
    let pf := s.pf ++ [(decs od s.ms).map fun d => -d]
    match s.ms.getLast? with
    | none => .unsat ⟨ws, od, s.ms, pf⟩
    | some j => .go ⟨wset (wipe ws (od.drop j)) (-((od[j]?).getD 0)), od.take j ++ [-((od[j]?).getD 0)], s.ms.dropLast, pf⟩
  | (true, ws, od) =>
    let v := ffree ws 1 n
    if v = 0 then .sat ⟨ws, od, s.ms, s.pf⟩ else .go ⟨wset ws v, od ++ [(v : Int)], s.ms ++ [od.length], s.pf⟩
def solveM (n : Nat) (cs : List (List Int)) : Nat → St → PySem.Str × St
  | 0, s => ("fuel", s)
  | k + 1, s => match turnM n cs s with
    | .unsat s' => ("unsat", s')
    | .sat s' => ("sat", s')
    | .go s' => solveM n cs k s'

/-- what follows_by_propagation sets first; none: one literal is true at once -/
def folM : List Int → List Int → List Int → Option (List Int × List Int)
  | [], ws, od => some (ws, od)
  | l :: ls, ws, od => if wv ws l = 1 then none else if wv ws l = 0 then folM ls (wset ws (-l)) (od ++ [-l]) else folM ls ws od
def followsM (n : Nat) (cs : List (List Int)) (c : List Int) : Bool := match folM c (List.replicate (n + 1) 0) [] with
  | none => true
  | some (ws, od) => !(propM cs (n + 1) ws od).1
/-! the trail's law -/
structure OdOk (n : Nat) (od : List Int) : Prop where
  r : ∀ l ∈ od, inR n l
  nz : ∀ l ∈ od, l ≠ 0
  nd : (od.map Int.natAbs).Nodup
theorem OdOk.take {n : Nat} {od : List Int} (h : OdOk n od) (k : Nat) : OdOk n (od.take k) :=
  ⟨fun l hl => h.r l (List.mem_of_mem_take hl), fun l hl => h.nz l (List.mem_of_mem_take hl), by rw [List.map_take]; exact h.nd.sublist (List.take_sublist _ _)⟩
theorem OdOk.snoc {n : Nat} {od : List Int} {l : Int} (h : OdOk n od) (h1 : inR n l) (h2 : l ≠ 0) (h3 : l.natAbs ∉ od.map Int.natAbs) : OdOk n (od ++ [l]) := by
  refine ⟨fun x hx => ?_, fun x hx => ?_, ?_⟩
  · rcases List.mem_append.mp hx with q | q
    · exact h.r x q
    · rw [List.mem_singleton.mp q]; exact h1
  · rcases List.mem_append.mp hx with q | q
    · exact h.nz x q
    · rw [List.mem_singleton.mp q]; exact h2
  · rw [List.map_append, List.nodup_append]
    refine ⟨h.nd, by simp, fun a ha b hb e => ?_⟩
    simp at hb
    subst e; subst hb; exact h3 ha
theorem OdOk.nil (n : Nat) : OdOk n [] := ⟨by simp, by simp, by simp⟩
abbrev W0 (n : Nat) : List Int := List.replicate (n + 1) 0
theorem nodup_bound : ∀ (n : Nat) (l : List Nat), l.Nodup → (∀ x ∈ l, x < n) → l.length ≤ n
  | 0, l, _, h => by
    cases l with
    | nil => simp
    | cons a l => have := h a (.head _); omega
  | n + 1, l, nd, h => by
    by_cases hm : n ∈ l
    · have e := List.length_erase_of_mem hm
      have := nodup_bound n (l.erase n) (nd.erase n) fun x hx => by
        have h1 := (List.Nodup.mem_erase_iff nd).mp hx
        have := h x h1.2
        have := h1.1
        omega
      omega
    · have := nodup_bound n l nd fun x hx => by
        have := h x hx
        have : x ≠ n := fun e => hm (e ▸ hx)
        omega
      omega
theorem OdOk.len {n : Nat} {od : List Int} (h : OdOk n od) : od.length ≤ n := by
  have := nodup_bound n (od.map fun l => l.natAbs - 1) (by
    have nd := h.nd
    have nz := h.nz
    clear h
    induction od with
    | nil => simp
    | cons x xs ih =>
      rw [List.map_cons, List.nodup_cons] at nd ⊢
      refine ⟨fun q => ?_, ih nd.2 fun l hl => nz l (.tail _ hl)⟩
      obtain ⟨y, a, b⟩ := List.mem_map.mp q
      refine nd.1 (List.mem_map.mpr ⟨y, a, ?_⟩)
      have := nz x (.head _)
      have := nz y (.tail _ a)
      omega) (fun x hx => by
    obtain ⟨y, a, b⟩ := List.mem_map.mp hx
    have h1 := h.r y a
    have h2 := h.nz y a
    unfold inR at h1
    omega)
  simpa using this
/-- the worths are those of the order -/
structure TrOk (n : Nat) (ws od : List Int) : Prop where
  e : ws = wsets (W0 n) od
  ok : OdOk n od
theorem TrOk.len {n : Nat} {ws od : List Int} (h : TrOk n ws od) : ws.length = n + 1 := by rw [h.e, wsets_len]; simp
theorem TrOk.nil (n : Nat) : TrOk n (W0 n) [] := ⟨rfl, OdOk.nil n⟩
theorem wv_zero {n : Nat} {od : List Int} {l : Int} (hl : inR n l) (h : wv (wsets (W0 n) od) l = 0) : l.natAbs ∉ od.map Int.natAbs := by
  intro q
  unfold inR at hl
  obtain ⟨l', _, _, e⟩ := wsets_in od (W0 n) q (by simp; omega)
  rw [wv_eq, e] at h
  have h1 := sg_ne l
  have h2 := sg_ne l'
  rw [Option.getD_some] at h
  rcases Int.mul_eq_zero.mp h with h | h
  · exact h1 h
  · exact h2 h
theorem TrOk.snoc {n : Nat} {ws od : List Int} {l : Int} (h : TrOk n ws od) (h1 : inR n l) (h2 : l ≠ 0) (h3 : l.natAbs ∉ od.map Int.natAbs) : TrOk n (wset ws l) (od ++ [l]) :=
  ⟨by rw [wsets_snoc, h.e], h.ok.snoc h1 h2 h3⟩
theorem cstate_unit {c ws : List Int} {l : Int} (h : cstate c ws = .unit l) : l ∈ c ∧ wv ws l = 0 := by
  unfold cstate at h
  split at h
  · cases h
  · split at h
    · cases h
    · rename_i x xs e
      split at h
      · cases h
        have : l ∈ unsetOf c ws := by rw [e]; exact .head _
        unfold unsetOf at this
        rw [List.mem_filter] at this
        exact ⟨this.1, by simpa using this.2⟩
      · cases h
theorem undone {n : Nat} {od : List Int} (h : OdOk n od) (j : Nat) : wipe (wsets (W0 n) od) (od.drop j) = wsets (W0 n) (od.take j) := by
  have hl : (wsets (W0 n) od).length = n + 1 := by rw [wsets_len]; simp
  have hl2 : (wsets (W0 n) (od.take j)).length = n + 1 := by rw [wsets_len]; simp
  apply List.ext_getElem?
  intro v
  by_cases hv : v < n + 1
  · rw [wipe_get _ _ (by omega)]
    have nd := h.nd
    rw [← List.take_append_drop j od, List.map_append, List.nodup_append] at nd
    split
    · rename_i hin
      rw [wsets_not (od.take j) _ (fun q => nd.2.2 v q v hin rfl)]
      rw [List.getElem?_replicate, if_pos (by omega)]
    · rename_i hin
      have e := wsets_append (W0 n) (od.take j) (od.drop j)
      rw [List.take_append_drop] at e
      rw [e, wsets_not (od.drop j) _ hin]
  · rw [List.getElem?_eq_none (by rw [wipe_len]; omega), List.getElem?_eq_none (by omega)]
def okCls (n : Nat) (cs : List (List Int)) : Prop := ∀ c ∈ cs, ∀ l ∈ c, inR n l ∧ l ≠ 0
theorem pass_ok {n : Nat} : ∀ (cs : List (List Int)) {ws od : List Int} (mv : Bool), okCls n cs → TrOk n ws od → TrOk n (passM cs ws od mv).2.1 (passM cs ws od mv).2.2.1 ∧ ∃ e, (passM cs ws od mv).2.2.1 = od ++ e
  | [], ws, od, mv, _, h => ⟨h, [], by simp [passM]⟩
  | c :: cs, ws, od, mv, hc, h => by
    unfold passM
    have hc' : okCls n cs := fun c hc1 => hc c (.tail _ hc1)
    split
    · exact ⟨h, [], by simp⟩
    · rename_i l e
      obtain ⟨h1, h2⟩ := cstate_unit e
      obtain ⟨h3, h4⟩ := hc c (.head _) l h1
      have h5 := h.snoc h3 h4 (wv_zero h3 (by rw [← h.e]; exact h2))
      obtain ⟨a, ex, b⟩ := pass_ok cs true hc' h5
      exact ⟨a, l :: ex, by rw [b]; simp⟩
    · exact pass_ok cs mv hc' h
theorem prop_ok {n : Nat} {cs : List (List Int)} (hc : okCls n cs) : ∀ (k : Nat) {ws od : List Int}, TrOk n ws od → TrOk n (propM cs k ws od).2.1 (propM cs k ws od).2.2 ∧ ∃ e, (propM cs k ws od).2.2 = od ++ e
  | 0, ws, od, h => ⟨h, [], by simp [propM]⟩
  | k + 1, ws, od, h => by
    have hp := pass_ok cs false hc h
    unfold propM
    split
    · rename_i e; rw [e] at hp; exact hp
    · rename_i ws' od' mv e
      rw [e] at hp
      split
      · obtain ⟨a, ex, b⟩ := prop_ok hc k hp.1
        obtain ⟨ex', b'⟩ := hp.2
        exact ⟨a, ex' ++ ex, by rw [b, b']; simp⟩
      · exact hp
theorem ffree_spec (ws : List Int) : ∀ (k v : Nat), 1 ≤ v → (ffree ws v k = 0 ∧ ∀ u, v ≤ u → u < v + k → (ws[u]?).getD 0 ≠ 0) ∨ (v ≤ ffree ws v k ∧ ffree ws v k < v + k ∧ (ws[ffree ws v k]?).getD 0 = 0)
  | 0, v, h => .inl ⟨rfl, fun u a b => by omega⟩
  | k + 1, v, h => by
    unfold ffree
    split
    · rename_i e; exact .inr ⟨by omega, by omega, e⟩
    · rename_i e
      rcases ffree_spec ws k (v + 1) (by omega) with ⟨a, b⟩ | ⟨a, b, c⟩
      · refine .inl ⟨a, fun u h1 h2 => ?_⟩
        by_cases hu : u = v
        · subst hu; exact e
        · exact b u (by omega) (by omega)
      · exact .inr ⟨by omega, by omega, c⟩
/-- marks: each is a place of the order, and they grow -/
structure StOk (n : Nat) (s : St) : Prop where
  t : TrOk n s.ws s.od
  lt : ∀ k ∈ s.ms, k < s.od.length
  inc : s.ms.Pairwise (· < ·)
theorem pw_bound : ∀ (l : List Nat) (n : Nat), l.Pairwise (· < ·) → (∀ k ∈ l, k < n) → l.length ≤ n := fun l n h hb =>
  nodup_bound n l (h.imp fun q => Nat.ne_of_lt q) hb
theorem turn_ok {n : Nat} {cs : List (List Int)} {s s' : St} (hc : okCls n cs) (h : StOk n s) (e : turnM n cs s = .go s') : StOk n s' := by
  have hp := prop_ok hc (n + 1) h.t
  unfold turnM at e
  split at e
  · rename_i ws od ep
    rw [ep] at hp
    obtain ⟨hT, ex, hex⟩ := hp
    dsimp only at hT hex e
    split at e
    · cases e
    · rename_i j hj
      obtain ⟨mk', hmk⟩ : ∃ mk', s.ms = mk' ++ [j] := by
        obtain ⟨a, b⟩ := List.getLast?_eq_some_iff.mp hj
        exact ⟨a, b⟩
      have hjl := h.lt j (by rw [hmk]; simp)
      have hjo : j < od.length := by rw [hex]; simp; omega
      cases e
      have hin := hT.ok
      have hl := hin.r od[j] (List.getElem_mem _)
      have hz := hin.nz od[j] (List.getElem_mem _)
      unfold inR at hl
      rw [List.getElem?_eq_getElem hjo]
      refine ⟨?_, ?_, ?_⟩
      · refine TrOk.snoc (l := -od[j]) ⟨by rw [hT.e]; exact undone hin j, hin.take j⟩ (by unfold inR; omega) (by omega) ?_
        intro q
        have nd := hin.nd
        rw [← List.take_append_drop j od, List.map_append, List.nodup_append] at nd
        refine nd.2.2 _ q _ (List.mem_map.mpr ⟨od[j], ?_, rfl⟩) (by omega)
        rw [List.drop_eq_getElem_cons hjo]; exact .head _
      · intro k hk
        rw [hmk, List.dropLast_concat] at hk
        have h1 := h.inc
        rw [hmk, List.pairwise_append] at h1
        have := h1.2.2 k hk j (by simp)
        simp; omega
      · rw [hmk, List.dropLast_concat]
        have h1 := h.inc
        rw [hmk, List.pairwise_append] at h1
        exact h1.1
  · rename_i ws od ep
    rw [ep] at hp
    obtain ⟨hT, ex, hex⟩ := hp
    dsimp only at hT hex e
    split at e
    · cases e
    · rename_i hv
      cases e
      rcases ffree_spec ws n 1 (Nat.le_refl _) with ⟨a, _⟩ | ⟨a, b, c⟩
      · exact absurd a hv
      · refine ⟨?_, ?_, ?_⟩
        · refine hT.snoc (l := (ffree ws 1 n : Int)) (by unfold inR; omega) (by omega) ?_
          refine wv_zero (n := n) (by unfold inR; omega) ?_
          rw [wv_eq, ← hT.e, show ((ffree ws 1 n : Nat) : Int).natAbs = ffree ws 1 n by omega, c]; simp
        · intro k hk
          rcases List.mem_append.mp hk with q | q
          · have := h.lt k q
            simp [hex]; omega
          · simp at q; simp; omega
        · rw [List.pairwise_append]
          refine ⟨h.inc, by simp, fun a ha b hb => ?_⟩
          simp at hb
          have := h.lt a ha
          rw [hb, hex]; simp; omega
end Mine
end
section
set_option maxRecDepth 100000
set_option linter.unusedVariables false
namespace Mine
open PySem PySem.W
structure SolP where
  s : Nat
  d : Nat
  c : Nat
  l : Nat
  p : TrP
  ci : List Nat
abbrev solFs (n : Nat) (q : SolP) (k : Int) : List (Str × AV) := [("n", .int n), ("clauses", .ref q.c), ("trail", .ref q.p.t), ("proof", .ref q.l), ("conflicts", .int k)]
structure SolAt (Cs Ct : Addr) (q : SolP) (n : Nat) (cs : List (List Int)) (st : St) (k : Int) (li : List Nat) (σ : AH) : Prop where
  s : σ[q.s]? = some (.inst Cs q.d)
  d : σ[q.d]? = some (.dict (solFs n q k))
  t : TrAt Ct q.p n st.ws st.od (mkl st.ms) σ
  c : RowsP σ q.c q.ci cs
  f : RowsP σ q.l li st.pf
  oc : q.d < q.c ∧ ∀ i ∈ q.ci, q.d < i ∧ i < q.c
  ot : q.c < q.p.t ∧ q.c < q.p.d ∧ q.c < q.p.w ∧ q.c < q.p.o ∧ q.c < q.p.k
  ol : q.p.t < q.l ∧ q.p.d < q.l ∧ q.p.w < q.l ∧ q.p.o < q.l ∧ q.p.k < q.l
  of : ∀ i ∈ li, q.l < i
abbrev SolP.S (q : SolP) : List Nat := [q.p.w, q.p.o, q.p.k, q.d, q.l]
section
variable {Cs Ct : Addr} {q : SolP} {n : Nat} {cs : List (List Int)} {st : St} {k : Int} {li : List Nat} {σ σ' : AH}
theorem SolAt.cS (h : SolAt Cs Ct q n cs st k li σ) : q.c ∉ q.p.S := by
  have := h.ot
  simp only [List.mem_cons, List.not_mem_nil, or_false, not_or]; omega
theorem SolAt.ciS (h : SolAt Cs Ct q n cs st k li σ) : ∀ i ∈ q.ci, i ∉ q.p.S := by
  intro i hi
  have := h.ot
  have := h.oc.2 i hi
  simp only [List.mem_cons, List.not_mem_nil, or_false, not_or]; omega
theorem SolAt.sub (h : SolAt Cs Ct q n cs st k li σ) (x : Sub σ σ') : SolAt Cs Ct q n cs st k li σ' :=
  ⟨x _ _ h.s, x _ _ h.d, h.t.sub x, h.c.sub x, h.f.sub x, h.oc, h.ot, h.ol, h.of⟩
theorem SolAt.fx {S : List Nat} (h : SolAt Cs Ct q n cs st k li σ) (x : Fx S σ σ') (hS : ∀ i ∈ S, σ.length ≤ i) : SolAt Cs Ct q n cs st k li σ' :=
  h.sub fun i o e => x i o (fun z => by have := hS i z; have := lt_of_get e; omega) e
/-- the trail moved, nothing else -/
theorem SolAt.tr (h : SolAt Cs Ct q n cs st k li σ) (x : Fx q.p.S σ σ') {st' : St} (ht : TrAt Ct q.p n st'.ws st'.od (mkl st'.ms) σ') (hp : st'.pf = st.pf) : SolAt Cs Ct q n cs st' k li σ' := by
  have o1 := h.oc
  have o2 := h.ot
  have o3 := h.ol
  refine ⟨x _ _ ?_ h.s, x _ _ ?_ h.d, ht, h.c.fx x h.cS h.ciS, ?_, h.oc, h.ot, h.ol, h.of⟩
  · simp only [List.mem_cons, List.not_mem_nil, or_false, not_or]
    exact ⟨ne_of_obj h.s h.t.w (by simp), ne_of_obj h.s h.t.o (by simp), ne_of_obj h.s h.t.k (by simp)⟩
  · simp only [List.mem_cons, List.not_mem_nil, or_false, not_or]
    omega
  · rw [hp]
    refine h.f.fx x ?_ fun i hi => ?_
    · simp only [List.mem_cons, List.not_mem_nil, or_false, not_or]; omega
    · have := h.of i hi
      simp only [List.mem_cons, List.not_mem_nil, or_false, not_or]; omega
theorem SolAt.pS (q : SolP) : ∀ i ∈ q.p.S, i ∈ q.S := by
  intro i hi
  simp only [List.mem_cons, List.not_mem_nil, or_false] at hi ⊢
  rcases hi with rfl | rfl | rfl <;> simp
/-- one more row of the proof -/
theorem SolAt.push (h : SolAt Cs Ct q n cs st k li σ) {r : List Int} {i : Nat} (hi : q.l < i) (hr : σ[i]? = some (.list (r.map .int))) : SolAt Cs Ct q n cs { st with pf := st.pf ++ [r] } k (li ++ [i]) (σ.set q.l (.list (li.map .ref ++ [.ref i]))) := by
  have o1 := h.oc
  have o2 := h.ot
  have o3 := h.ol
  have x : Fx [q.l] σ (σ.set q.l (.list (li.map .ref ++ [.ref i]))) := Fx.set (by simp)
  refine ⟨get_ne (ne_of_obj h.s h.f.g (by simp)) h.s, get_ne (by omega) h.d, ?_, ?_, ?_, h.oc, h.ot, h.ol, ?_⟩
  · refine h.t.fx x ?_ ?_ ?_ ?_ ?_ <;> simp only [List.mem_cons, List.not_mem_nil, or_false] <;> omega
  · refine h.c.fx x ?_ fun j hj => ?_
    · simp only [List.mem_cons, List.not_mem_nil, or_false]; omega
    · have := h.oc.2 j hj
      simp only [List.mem_cons, List.not_mem_nil, or_false]; omega
  · refine ⟨by rw [get_set h.f.g]; simp, (h.f.r.sub (SubX.set σ _)).append (RowsIn.one (by omega) (get_ne (by omega) hr))⟩
  · intro j hj
    rcases List.mem_append.mp hj with z | z
    · exact h.of j z
    · rw [List.mem_singleton.mp z]; exact hi
/-- an object that is being made -/
structure IA (σ : AH) (C : Addr) (s0 d0 : Nat) (fs : List (Str × AV)) (σ' : AH) : Prop where
  s : σ'[s0]? = some (.inst C d0)
  d : σ'[d0]? = some (.dict fs)
  x : Fx [d0] σ σ'
theorem IA.set {σ : AH} {C : Addr} {s d : Nat} {fs : List (Str × AV)} {σ' : AH} (h : IA σ C s d fs σ') (fs' : List (Str × AV)) : IA σ C s d fs' (σ'.set d (.dict fs')) :=
  ⟨get_ne (ne_of_obj h.s h.d (by simp)) h.s, get_set h.d, h.x.trans (Fx.set (by simp))⟩
theorem IA.sub {σ : AH} {C : Addr} {s d : Nat} {fs : List (Str × AV)} {σ' σ'' : AH} (h : IA σ C s d fs σ') (x : Sub σ' σ'') : IA σ C s d fs σ'' := ⟨x _ _ h.s, x _ _ h.d, h.x.trans (Fx.of x)⟩
/-- the count of conflicts -/
theorem SolAt.cnt (h : SolAt Cs Ct q n cs st k li σ) {k' : Int} : SolAt Cs Ct q n cs st k' li (σ.set q.d (.dict (solFs n q k'))) := by
  have o1 := h.oc
  have o2 := h.ot
  have o3 := h.ol
  have x : Fx [q.d] σ (σ.set q.d (.dict (solFs n q k'))) := Fx.set (by simp)
  refine ⟨get_ne (ne_of_obj h.s h.d (by simp)) h.s, get_set h.d, ?_, ?_, ?_, h.oc, h.ot, h.ol, h.of⟩
  · refine h.t.fx x ?_ ?_ ?_ ?_ ?_ <;> simp only [List.mem_cons, List.not_mem_nil, or_false] <;> omega
  · refine h.c.fx x ?_ fun j hj => ?_
    · simp only [List.mem_cons, List.not_mem_nil, or_false]; omega
    · have := h.oc.2 j hj
      simp only [List.mem_cons, List.not_mem_nil, or_false]; omega
  · refine h.f.fx x ?_ fun j hj => ?_
    · simp only [List.mem_cons, List.not_mem_nil, or_false]; omega
    · have := h.of j hj
      simp only [List.mem_cons, List.not_mem_nil, or_false]; omega
end
end Mine
end
section
set_option maxRecDepth 100000
set_option maxHeartbeats 4000000
set_option linter.unusedVariables false
namespace Mine
open PySem PySem.W PyProof.Rows
local macro_rules | `(tactic| k_is_topread) => `(tactic| (first
    | with_reducible (first | refine ts_nil ?_ | refine ts_return ?_ | refine ts_if ?_ | refine ts_pass ?_ | refine ts_continue ?_ | refine ts_break ?_ | refine ts_del_sub ?_ | refine tas_nil ?_ | refine tas_cons ?_ | refine te_int ?_ | refine te_bool ?_ | refine te_str ?_ | refine te_none ?_ | refine te_binop ?_ | refine te_un ?_ | refine te_list ?_ | refine te_tuple ?_ | refine te_index ?_ | refine te_slice ?_ | refine topt_none ?_ | refine topt_some ?_ | refine tes_nil ?_ | refine tt_not ?_ | refine tt_bool ?_ | refine tall_and_nil ?_ | refine tall_or_nil ?_ | refine tall_and ?_ | refine tall_or ?_ | refine ttr_bool ?_ | refine tbin_add ?_ | refine tbin_sub ?_ | refine tcmp_lt ?_ | refine tcmp_le ?_ | refine tcmp_gt ?_ | refine tcmp_ge ?_ | refine tcmp_eq ?_ | refine tcmp_ne ?_ | refine tun_neg ?_)
    | ((with_reducible refine And.intro ?_ ?_); (first | (rw [sizeLine_eq]; exact of_decide_eq_true rfl) | omega))
    | ((with_reducible first | refine ts_expr ?_ ?_ | refine ts_assign_attr ?_ ?_ | refine ts_assign_sub ?_ ?_ | refine te_cmp ?_ ?_ | refine tes_cons ?_ ?_ | refine tt_cmp ?_ ?_ | refine tt_val ?_ ?_); exact rfl)
    | ((with_reducible first | refine ts_assign_name ?_ ?_ ?_ | refine ts_assign_tuple ?_ ?_ ?_ | apply te_name); exact rfl; exact rfl)
    | ((with_reducible apply te_builtin); assumption; exact rfl; decide +kernel; exact rfl)
    | ((with_reducible apply te_callB); assumption; exact rfl; decide +kernel; exact rfl; (first | exact .type _ | exact .builtin _); exact rfl)
    | ((with_reducible refine tbin_mod ?_ ?_); decide)
    | ((with_reducible refine tbin_div ?_ ?_ ?_); decide; exact PyProof.noPylong_small (by decide))
    | ((with_reducible refine tbin_mul ?_ ?_); (first | exact IntMulOk.of_right (intBits_le_64 (by omega) (by omega)) | exact IntMulOk.of_left (intBits_le_64 (by omega) (by omega))))
    | ((with_reducible refine te_meth ?_ ?_ ?_); exact rfl; exact fun _ => rfl)
    | ((with_reducible refine te_attr ?_ ?_); exact fun _ => rfl)
    | with_reducible refine tun_not ?_))
abbrev pw := PySem.Challenge.pw_k11_0005

/-- the script's cell -/
def cellA (ns : List Int) (i : Nat) : Int := (ns[i]?).getD 0
theorem cell_spec {W : Wd} {f : Addr} (F : FnIs W f ["script", "i"] (fnBody pw 5) (fnScope pw 5)) (hlen : W.mg "len" = none) {n : Nat} {ns : List Int} {σ : AH} {i : Nat} {Q : AV → AH → Prop} {a : Int} (ha : a = (i : Int)) (hs : σ[0]? = some (.ints ns)) (hz : ns.length < 2 ^ 62) (h : Q (.int (cellA ns i)) σ) :
    TCode W (n + 1) (.stat (.ref f)) [.ref 0, .int a] Q σ := by
  subst ha
  refine code_fn F rfl ?_
  refine ts_cons ?_
  repeat (first | with_reducible refine ts_cons ?_ | k_is_topread)

  repeat (first | with_reducible refine ts_cons ?_ | k_is_topread)
  refine tcall_len_ints hs (by omega) ?_
  repeat (first | with_reducible refine ts_cons ?_ | k_is_topread)
  split
  · rename_i hlt
    have hlt : i < ns.length := by simpa using hlt
    repeat (first | with_reducible refine ts_cons ?_ | k_is_topread)
    refine tidx_ints rfl hs (by omega) (x := ns[i]) (by simp) (by omega) ?_
    have : cellA ns i = ns[i] := by simp [cellA, hlt]
    rw [this] at h
    exact h
  · rename_i hlt
    have hlt : ¬ i < ns.length := by simpa using hlt
    repeat (first | with_reducible refine ts_cons ?_ | k_is_topread)
    have : cellA ns i = 0 := by simp [cellA, List.getElem?_eq_none (Nat.not_lt.mp hlt)]
    rw [this] at h
    exact h


theorem lv_spec {W : Wd} {f : Addr} (F : FnIs W f ["lit", "values"] (fnBody pw 1) (fnScope pw 1)) {lv : Nat} {n l : Nat} {ws : List Int} {lit : Int} {σ : AH} {Q : AV → AH → Prop}
    (hl : σ[l]? = some (.list (ws.map .int))) (hw : ws.length = n + 1) (hn : n ≤ 1000) (hlit : inR n lit) (h : Q (.int (wv ws lit)) σ) :
    TCode W (lv + 1) (.stat (.ref f)) [.int lit, .ref l] Q σ := by
  unfold inR at hlit
  refine code_fn F rfl ?_
  refine ts_cons ?_
  repeat (first | with_reducible refine ts_cons ?_ | k_is_topread)
  split
  · rename_i hpos
    have hpos : 0 < lit := by simpa using hpos
    repeat (first | with_reducible refine ts_cons ?_ | k_is_topread)
    refine tidx_nums rfl hl (j := lit.toNat) (by omega) (by omega) (by omega) ?_
    have e : wv ws lit = ws[lit.toNat] := by unfold wv; rw [if_pos hpos, List.getElem?_eq_getElem (by omega)]; rfl
    rw [e] at h
    exact h
  · rename_i hpos
    have hpos : ¬ 0 < lit := by simpa using hpos
    repeat (first | with_reducible refine ts_cons ?_ | k_is_topread)
    refine tidx_nums rfl hl (j := (-lit).toNat) (by omega) (by omega) (by omega) ?_
    repeat (first | with_reducible refine ts_cons ?_ | k_is_topread)
    have e : wv ws lit = -ws[(-lit).toNat] := by unfold wv; rw [if_neg hpos, List.getElem?_eq_getElem (by omega)]; rfl
    rw [e] at h
    exact h


theorem cs_spec {W : Wd} {f fw : Addr} (F : FnIs W f ["clause", "values"] (fnBody pw 2) (fnScope pw 2)) (Fw : FnIs W fw ["lit", "values"] (fnBody pw 1) (fnScope pw 1)) (gw : W.mg "literal_value" = some (.ref fw)) (hlen : W.mg "len" = none) {lv n lc lw : Nat} {c ws : List Int} {σ : AH} {Q : AV → AH → Prop}
    (hc : σ[lc]? = some (.list (c.map .int))) (hw : σ[lw]? = some (.list (ws.map .int))) (hwl : ws.length = n + 1) (hn : n ≤ 1000) (hr : ∀ l ∈ c, inR n l) (hcl : c.length ≤ 100000)
    (h : ∀ t σ', Sub σ σ' → σ'[t]? = some (.tuple [.str (csS (cstate c ws)), .int (csI (cstate c ws))]) → Q (.ref t) σ') :
    TCode W (lv + 2) (.stat (.ref f)) [.ref lc, .ref lw] Q σ := by
  refine code_fn F rfl ?_
  refine ts_cons ?_
  refine ts_for_list rfl rfl ?_
  repeat (first | with_reducible refine ts_cons ?_ | k_is_topread)
  refine ⟨_, _, fun i m' σ' => LE [("clause", .ref lc), ("values", .ref lw)] m' ∧ σ' = σ ∧ ∀ l ∈ c.take i, wv ws l ≠ 1, rfl, ⟨by (repeat (first | exact LE.nil | refine LE.cons (by exact rfl) ?_)), rfl, by simp⟩, fun i m' σ' _ j => by rw [j.2.1]; exact hc, ?_, ?_⟩
  · rintro i x m' σ' hx ⟨le, e, hj⟩
    have e := e.symm
    subst e
    rw [List.getElem?_map] at hx
    obtain ⟨l, hl, rfl⟩ := Option.map_eq_some_iff.mp hx
    refine TA.forget le (ta_name rfl ?_)
    repeat (first | with_reducible refine ts_cons ?_ | k_is_topread)
    refine te_callG gw rfl Fw.keeps rfl ?_
    repeat (first | with_reducible refine ts_cons ?_ | k_is_topread)
    refine (lv_spec Fw hw hwl hn (hr l (List.mem_of_getElem? hl)) ?_).call
    repeat (first | with_reducible refine ts_cons ?_ | k_is_topread)
    split
    · rename_i h1
      have e : cstate c ws = .tru := by
        unfold cstate
        rw [if_pos (List.any_eq_true.mpr ⟨l, List.mem_of_getElem? hl, h1⟩)]
      rw [e] at h
      repeat (first | with_reducible refine ts_cons ?_ | k_is_topread)
      exact h _ _ (Sub.snoc _ _) (get_snoc _ _)
    · rename_i h1
      have h1 : wv ws l ≠ 1 := by simpa using h1
      repeat (first | with_reducible refine ts_cons ?_ | k_is_topread)
      refine ⟨by (repeat (first | exact LE.nil | refine LE.cons (by exact rfl) ?_)), rfl, fun y hy => ?_⟩
      rw [List.take_add_one, hl] at hy
      rcases List.mem_append.mp hy with q | q
      · exact hj y q
      · simp at q; rw [q]; exact h1
  · rintro m' σ' ⟨le, e, hj⟩
    have e := e.symm
    subst e
    rw [List.length_map, List.take_length] at hj
    have hany : ¬ (c.any fun l => wv ws l == 1) = true := fun q => by
      obtain ⟨l, a, b⟩ := List.any_eq_true.mp q
      exact hj l a (by simpa using b)
    refine TX.forget le ?_
    refine ts_cons ?_
    refine ts_assign_comp rfl rfl rfl ?_
    repeat (first | with_reducible refine ts_cons ?_ | k_is_topread)
    refine ⟨_, _, fun i acc σ' => acc = (unsetOf (c.take i) ws).map .int ∧ σ' = σ, .inl ⟨_, _, rfl, rfl, fun _ _ => rfl, hc, fun i acc σ' _ j => by rw [j.2]; exact hc⟩, by rw [sizeLine_eq]; simp; omega, ⟨by simp [unsetOf], rfl⟩, ?_, ?_⟩
    · rintro i acc σ' hi ⟨rfl, e⟩
      have e := e.symm
      subst e
      simp only [List.length_map] at hi
      rw [List.getElem?_map, List.getElem?_eq_getElem hi]
      have hun : unsetOf (c.take (i + 1)) ws = unsetOf (c.take i) ws ++ (if (wv ws c[i] == 0) = true then [c[i]] else []) := by
        unfold unsetOf
        rw [List.take_add_one, List.getElem?_eq_getElem hi, List.filter_append, Option.toList_some, List.filter_cons, List.filter_nil]
      refine tifs_cons ?_
      repeat (first | with_reducible refine ts_cons ?_ | k_is_topread)
      refine te_callG gw rfl Fw.keeps rfl ?_
      repeat (first | with_reducible refine ts_cons ?_ | k_is_topread)
      refine (lv_spec Fw hw hwl hn (hr _ (List.getElem_mem hi)) ?_).call
      repeat (first | with_reducible refine ts_cons ?_ | k_is_topread)
      split
      · rename_i h1
        rw [if_pos h1] at hun
        refine tifs_nil ?_
        rw [if_pos rfl]
        repeat (first | with_reducible refine ts_cons ?_ | k_is_topread)
        exact ⟨by rw [hun]; simp, rfl⟩
      · rename_i h1
        rw [if_neg h1] at hun
        rw [if_neg (by decide)]
        exact ⟨by rw [hun]; simp, rfl⟩
    · rintro acc σ' ⟨rfl, e⟩
      have e := e.symm
      subst e
      rw [List.length_map, List.take_length]
      have hcs : cstate c ws = match unsetOf c ws with | [] => .fls | x :: xs => if (x :: xs).all (· == x) then .unit x else .opn := by
        unfold cstate; exact if_neg hany
      have hul : (unsetOf c ws).length ≤ 100000 := Nat.le_trans (List.length_filter_le _ _) hcl
      generalize unsetOf c ws = un at hcs hul
      have hg : (σ ++ [AO.list (un.map .int)])[List.length σ]? = some (.list (un.map .int)) := get_snoc _ _
      repeat (first | with_reducible refine ts_cons ?_ | k_is_topread)
      refine tcall_len hg (by simp; omega) ?_
      cases un with
      | nil =>
        rw [hcs] at h
        repeat (first | with_reducible refine ts_cons ?_ | k_is_topread)
        rw [if_pos (by decide)]
        repeat (first | with_reducible refine ts_cons ?_ | k_is_topread)
        exact h _ _ (by (repeat (first | exact Sub.refl _ | assumption | refine Sub.trans ?_ (Sub.snoc _ _)))) (get_snoc _ _)
      | cons x xs =>
        dsimp only at hcs
        repeat (first | with_reducible refine ts_cons ?_ | k_is_topread)
        rw [if_neg (by simp; omega)]
        repeat (first | with_reducible refine ts_cons ?_ | k_is_topread)
        refine ts_for_list rfl rfl ?_
        repeat (first | with_reducible refine ts_cons ?_ | k_is_topread)
        refine ⟨_, _, fun i m' σ' => LE [("unset", .ref (List.length σ))] m' ∧ σ' = (σ ++ [AO.list ((x :: xs).map .int)]) ∧ ∀ y ∈ (x :: xs).take i, y = x, rfl, ⟨by (repeat (first | exact LE.nil | refine LE.cons (by exact rfl) ?_)), rfl, by simp⟩, fun i m' σ' _ j => by rw [j.2.1]; exact hg, ?_, ?_⟩
        · rintro i z m2 σ' hx ⟨le2, e, hj2⟩
          subst e
          rw [List.getElem?_map] at hx
          obtain ⟨l, hl, rfl⟩ := Option.map_eq_some_iff.mp hx
          refine TA.forget le2 (ta_name rfl ?_)
          repeat (first | with_reducible refine ts_cons ?_ | k_is_topread)
          refine tidx_nums rfl hg (j := 0) rfl (by simp) (by decide) ?_
          rw [List.getElem_cons_zero]
          repeat (first | with_reducible refine ts_cons ?_ | k_is_topread)
          split
          · rename_i hne
            have hne : l ≠ x := by simpa using hne
            rw [if_neg (fun q => hne (by simpa using List.all_eq_true.mp q l (List.mem_of_getElem? hl)))] at hcs
            rw [hcs] at h
            repeat (first | with_reducible refine ts_cons ?_ | k_is_topread)
            exact h _ _ (by (repeat (first | exact Sub.refl _ | assumption | refine Sub.trans ?_ (Sub.snoc _ _)))) (get_snoc _ _)
          · rename_i hne
            have hne : l = x := by simpa using hne
            repeat (first | with_reducible refine ts_cons ?_ | k_is_topread)
            refine ⟨by (repeat (first | exact LE.nil | refine LE.cons (by exact rfl) ?_)), rfl, fun y hy => ?_⟩
            rw [List.take_add_one, hl] at hy
            rcases List.mem_append.mp hy with q | q
            · exact hj2 y q
            · simp at q; rw [q]; exact hne
        · rintro m2 σ' ⟨le2, e, hj2⟩
          subst e
          rw [List.length_map, List.take_length] at hj2
          rw [if_pos (List.all_eq_true.mpr fun y hy => by simpa using hj2 y hy)] at hcs
          rw [hcs] at h
          refine TX.forget le2 ?_
          repeat (first | with_reducible refine ts_cons ?_ | k_is_topread)
          refine tidx_nums rfl hg (j := 0) rfl (by simp) (by decide) ?_
          rw [List.getElem_cons_zero]
          repeat (first | with_reducible refine ts_cons ?_ | k_is_topread)
          exact h _ _ (by (repeat (first | exact Sub.refl _ | assumption | refine Sub.trans ?_ (Sub.snoc _ _)))) (get_snoc _ _)


/-- [list(row) for row in rows], walked as a comprehension's goal -/
theorem copy_comp {W : Wd} {n : Nat} {sc : Scope} {m : Locs} {scope : Scope} {x : Str} {elt : Expr} {Q : AV → AH → Prop} {l : Nat} {is : List Nat} {rs : List (List Int)} {σ : AH} (hc : RowsP σ l is rs) (hz1 : rs.length ≤ 1000000) (hz2 : ∀ c ∈ rs, c.length ≤ 1000000)
    (helt : ∀ (i : Nat) (σ' : AH) (QQ : AV → AH → Prop), TCall W n (.stat (.type "list")) [.ref i] QQ σ' → TE W n (relabelS scope sc) (mC scope x (.ref i) m) elt QQ σ')
    (h : ∀ σ' js, Sub σ σ' → (∀ j ∈ js, σ.length ≤ j) → RowsP (σ' ++ [.list (js.map .ref)]) σ'.length js rs → Q (.ref σ'.length) (σ' ++ [.list (js.map .ref)])) :
    CompT W n sc m scope x [] elt Q (.ref l) σ := by
  refine ⟨_, _, fun i acc σ' => ∃ js : List Nat, acc = js.map .ref ∧ Sub σ σ' ∧ RowsIn l σ' js (rs.take i) ∧ ∀ j ∈ js, σ.length ≤ j, .inl ⟨_, _, rfl, rfl, fun _ _ => rfl, hc.g, fun i acc σ' _ ⟨js, _, j, _⟩ => j _ _ hc.g⟩, by rw [sizeLine_eq]; simp [hc.r.length]; omega, ⟨[], rfl, Sub.refl _, trivial, by simp⟩, ?_, ?_⟩
  · rintro i acc σ' hi ⟨js, rfl, sub, hin, hge⟩
    simp only [List.length_map] at hi
    obtain ⟨r, hr', -, hrow⟩ := hc.r.geti (j := i) (i := is[i]) (by simp)
    refine tifs_nil ?_
    rw [if_pos rfl, List.getElem?_map, List.getElem?_eq_getElem hi]
    refine helt _ _ _ ?_
    refine tcall_list (sub _ _ hrow) (by have := hz2 r (List.mem_of_getElem? hr'); rw [sizeLine_eq]; simp; omega) ?_
    have hlt := lt_of_get (sub _ _ hc.g)
    have hsl := Sub.len sub
    refine ⟨js ++ [_], by rw [List.map_append]; rfl, by (repeat (first | exact Sub.refl _ | assumption | refine Sub.trans ?_ (Sub.snoc _ _))), ?_, ?_⟩
    · rw [List.take_add_one, hr']
      exact (hin.sub (Sub.snoc _ _).x).append (RowsIn.one (by omega) (get_snoc _ _))
    · intro j hj
      rcases List.mem_append.mp hj with z | z
      · exact hge j z
      · rw [List.mem_singleton.mp z]; omega
  · rintro acc σ2 ⟨js, rfl, sub2, hin, hge⟩
    rw [List.length_map, hc.r.length, List.take_length] at hin
    exact h σ2 js sub2 hge ⟨get_snoc _ _, (hin.new (Nat.le_refl _)).sub (Sub.snoc _ _).x⟩

def isTru : CS → Bool
  | .tru => true
  | _ => false
theorem cs_true (c : CS) : (csS c == ("true" : Str)) = isTru c := by
  cases c with
  | unit l => show (("unit" : Str) == "true") = false; decide +kernel
  | _ => decide +kernel
theorem ok_true : PyData.strOk "true" = true := by decide +kernel
def satM (ws : List Int) (cs : List (List Int)) : Bool := cs.all fun c => isTru (cstate c ws)
theorem sat_spec {W : Wd} {f fs fw : Addr} (F : FnIs W f ["values", "clauses"] (fnBody pw 3) (fnScope pw 3)) (Fs : FnIs W fs ["clause", "values"] (fnBody pw 2) (fnScope pw 2)) (Fw : FnIs W fw ["lit", "values"] (fnBody pw 1) (fnScope pw 1)) (gs : W.mg "clause_state" = some (.ref fs)) (gw : W.mg "literal_value" = some (.ref fw)) (hlen : W.mg "len" = none)
    {lv n lw lc : Nat} {is : List Nat} {ws : List Int} {cs : List (List Int)} {σ : AH} {Q : AV → AH → Prop} (hw : σ[lw]? = some (.list (ws.map .int))) (hwl : ws.length = n + 1) (hn : n ≤ 1000) (hR : RowsP σ lc is cs) (hok : okCls n cs) (hcl : ∀ c ∈ cs, c.length ≤ 1000)
    (h : ∀ σ', Sub σ σ' → Q (.bool (satM ws cs)) σ') :
    TCode W (lv + 3) (.stat (.ref f)) [.ref lw, .ref lc] Q σ := by
  generalize hG : satM ws cs = G at h
  refine code_fn F rfl ?_
  refine ts_cons ?_
  refine ts_for_list rfl rfl ?_
  repeat (first | with_reducible refine ts_cons ?_ | k_is_topread)
  refine ⟨_, _, fun i m' σ' => LE [("values", .ref lw)] m' ∧ Sub σ σ' ∧ G = satM ws (cs.drop i), rfl, ⟨by (repeat (first | exact LE.nil | refine LE.cons (by exact rfl) ?_)), Sub.refl _, hG.symm⟩, fun i m' σ' _ q => q.2.1 _ _ hR.g, ?_, ?_⟩
  · rintro i x m' σ1 hx ⟨le, sub, heq⟩
    rw [List.getElem?_map] at hx
    obtain ⟨ir, hir, rfl⟩ := Option.map_eq_some_iff.mp hx
    obtain ⟨c, hc, -, hrow⟩ := hR.r.geti hir
    have hil : i < cs.length := (List.getElem?_eq_some_iff.mp hc).1
    have hdr : cs.drop i = c :: cs.drop (i + 1) := by
      rw [List.drop_eq_getElem_cons hil]; congr 1; exact (List.getElem?_eq_some_iff.mp hc).2
    have hin := List.mem_of_getElem? hc
    rw [hdr] at heq
    unfold satM at heq
    rw [List.all_cons] at heq
    refine TA.forget le (ta_name rfl ?_)
    repeat (first | with_reducible refine ts_cons ?_ | k_is_topread)
    refine te_callG gs rfl Fs.keeps rfl ?_
    repeat (first | with_reducible refine ts_cons ?_ | k_is_topread)
    refine (cs_spec Fs Fw gw hlen (sub _ _ hrow) (sub _ _ hw) hwl hn (fun l hl => (hok c hin l hl).1) (by have := hcl c hin; omega) fun t σ2 sub2 ht => ?_).call
    repeat (first | with_reducible refine ts_cons ?_ | k_is_topread)
    refine tidx_tuple rfl ht (k := 0) (j := 0) rfl rfl (by decide) ?_
    repeat (first | with_reducible refine ts_cons ?_ | k_is_topread)
    refine tcmp_neS (cs_ok _) ok_true ?_
    rw [cs_true]
    repeat (first | with_reducible refine ts_cons ?_ | k_is_topread)
    cases hq : isTru (cstate c ws) with
    | true =>
      rw [hq] at heq
      rw [if_neg (by decide)]
      repeat (first | with_reducible refine ts_cons ?_ | k_is_topread)
      exact ⟨by (repeat (first | exact LE.nil | refine LE.cons (by exact rfl) ?_)), sub.trans sub2, heq⟩
    | false =>
      rw [hq] at heq
      have heq : G = false := heq
      subst heq
      rw [if_pos (by decide)]
      repeat (first | with_reducible refine ts_cons ?_ | k_is_topread)
      exact h _ (sub.trans sub2)
  · rintro m' σ1 ⟨le, sub, heq⟩
    rw [List.length_map, hR.r.length, List.drop_length] at heq
    have heq : G = true := heq
    subst heq
    refine TX.forget le ?_
    repeat (first | with_reducible refine ts_cons ?_ | k_is_topread)
    exact h _ sub
/-- the names' worths as literals -/
def oneM (ws : List Int) (n : Nat) : List Int := (List.range n).map fun (j : Nat) => ((j : Int) + 1) * (ws[j + 1]?).getD 0
theorem mem_one {ws : List Int} {n : Nat} {l : Int} (hl : inR n l) (hz : l ≠ 0) (hw : ∀ v, 1 ≤ v → v ≤ n → (ws[v]?).getD 0 = 1 ∨ (ws[v]?).getD 0 = 0 ∨ (ws[v]?).getD 0 = -1) : l ∈ oneM ws n ↔ wv ws l = 1 := by
  unfold inR at hl
  unfold oneM wv
  constructor
  · intro h
    obtain ⟨j, hj, e⟩ := List.mem_map.mp h
    have hj := List.mem_range.mp hj
    rcases hw (j + 1) (by omega) (by omega) with q | q | q <;> rw [q] at e
    · have : l = (j : Int) + 1 := by omega
      rw [if_pos (by omega), show l.toNat = j + 1 by omega, q]
    · exact absurd (by omega) hz
    · have : l = -((j : Int) + 1) := by omega
      rw [if_neg (by omega), show (-l).toNat = j + 1 by omega, q]; rfl
  · intro h
    split at h
    · refine List.mem_map.mpr ⟨l.toNat - 1, List.mem_range.mpr (by omega), ?_⟩
      rw [show l.toNat - 1 + 1 = l.toNat by omega, h]; omega
    · refine List.mem_map.mpr ⟨(-l).toNat - 1, List.mem_range.mpr (by omega), ?_⟩
      rw [show (-l).toNat - 1 + 1 = (-l).toNat by omega, show (ws[(-l).toNat]?).getD 0 = -1 by omega]; omega
theorem isTru_iff (c ws : List Int) : isTru (cstate c ws) = c.any fun l => wv ws l == 1 := by
  unfold cstate
  split
  · rename_i h; rw [h]; rfl
  · rename_i h
    rw [Bool.eq_false_iff.mpr h]
    split
    · rfl
    · split <;> rfl
theorem all_cong {α : Type} {f g : α → Bool} : ∀ {xs : List α}, (∀ x ∈ xs, f x = g x) → xs.all f = xs.all g
  | [], _ => rfl
  | x :: xs, h => by rw [List.all_cons, List.all_cons, h x (.head _), all_cong fun y hy => h y (.tail _ hy)]
theorem any_cong {α : Type} {f g : α → Bool} : ∀ {xs : List α}, (∀ x ∈ xs, f x = g x) → xs.any f = xs.any g
  | [], _ => rfl
  | x :: xs, h => by rw [List.any_cons, List.any_cons, h x (.head _), any_cong fun y hy => h y (.tail _ hy)]
theorem sat_is {ws : List Int} {n : Nat} {cs : List (List Int)} (hok : okCls n cs) (hw : ∀ v, 1 ≤ v → v ≤ n → (ws[v]?).getD 0 = 1 ∨ (ws[v]?).getD 0 = 0 ∨ (ws[v]?).getD 0 = -1) : satM ws cs = cs.all fun c => c.any fun l => (oneM ws n).any (· == l) := by
  unfold satM
  refine all_cong fun c hc => ?_
  rw [isTru_iff]
  refine any_cong fun l hl => ?_
  have h := mem_one (hok c hc l hl).1 (hok c hc l hl).2 hw
  by_cases q : wv ws l = 1
  · rw [q, List.any_eq_true.mpr ⟨l, h.mpr q, by simp⟩]; rfl
  · rw [show (wv ws l == 1) = false by simpa using q]
    refine (Bool.eq_false_iff.mpr fun z => ?_).symm
    obtain ⟨y, hy, e⟩ := List.any_eq_true.mp z
    rw [beq_iff_eq.mp e] at hy
    exact q (h.mp hy)
theorem clause_spec {W : Wd} {f : Addr} (F : FnIs W f ["code", "lits"] (fnBody pw 6) (fnScope pw 6)) (hlen : W.mg "len" = none) (hra : W.mg "range" = none) {lv ll : Nat} {ls : List Int} {k : Int} {σ : AH} {Q : AV → AH → Prop} (hl : σ[ll]? = some (.list (ls.map .int))) (hls : ls.length ≤ 1000)
    (h : ∀ σ' (zs : List Int), Sub σ σ' → σ'[σ.length]? = some (.list (zs.map .int)) → zs.length ≤ 4 → (∀ z ∈ zs, z ∈ ls) → Q (.ref σ.length) σ') :
    TCode W (lv + 1) (.stat (.ref f)) [.int k, .ref ll] Q σ := by
  obtain ⟨c5, hc5, hc5'⟩ := fmod_nat k 5 (by decide)
  refine code_fn F rfl ?_
  refine ts_cons ?_
  repeat (first | with_reducible refine ts_cons ?_ | k_is_topread)
  refine ts_for_range rfl rfl ?_
  repeat (first | with_reducible refine ts_cons ?_ | k_is_topread)
  rw [show k.fmod 5 = (c5 : Int) from hc5]
  refine tcall_range1 ?_
  refine ⟨_, 0, (c5 : Int), 1, c5, fun i m' σ' => ∃ r : Int, ∃ zs : List Int, LE [("lits", .ref ll), ("clause", .ref σ.length), ("rest", .int r)] m' ∧ Sub σ σ' ∧ σ'[σ.length]? = some (.list (zs.map .int)) ∧ zs.length ≤ i ∧ ∀ z ∈ zs, z ∈ ls, rfl, by simp, range_up (by omega), ⟨k.fdiv 5, [], by (repeat (first | exact LE.nil | refine LE.cons (by exact rfl) ?_)), by (repeat (first | exact Sub.refl _ | assumption | refine Sub.trans ?_ (Sub.snoc _ _))), Sub.snoc _ _ _ _ (get_snoc _ _), by simp, by simp⟩, ?_, ?_⟩
  · rintro i m' σ1 hi ⟨r, zs, le, sub, hz, hzl, hin⟩
    refine TA.forget le (ta_name rfl ?_)
    repeat (first | with_reducible refine ts_cons ?_ | k_is_topread)
    refine tcall_len (sub _ _ hl) (by simp; omega) ?_
    rw [List.length_map]
    repeat (first | with_reducible refine ts_cons ?_ | k_is_topread)
    split
    · rename_i hq
      have hq : 0 < ls.length := by simpa using hq
      obtain ⟨j, hj, hj2⟩ := fmod_nat r ls.length hq
      repeat (first | with_reducible refine ts_cons ?_ | k_is_topread)
      refine tmeth_append hz ?_
      repeat (first | with_reducible refine ts_cons ?_ | k_is_topread)
      refine tcall_len (sub _ _ hl) (by simp; omega) ?_
      rw [List.length_map]
      refine tbin_mod (by omega) ?_
      rw [hj]
      refine tidx_list rfl (sub _ _ hl) (j := j) (x := .int ls[j]) ?_ (by simp) (by omega) ?_
      · unfold pyIdx; simp; omega
      repeat (first | with_reducible refine ts_cons ?_ | k_is_topread)
      refine tcall_append hz (by rw [sizeLine_eq]; simp; omega) ?_
      have hz2 := get_set (o' := AO.list (zs.map AV.int ++ [AV.int ls[j]])) hz
      have sb : Sub σ (σ1.set σ.length (.list (zs.map .int ++ [.int ls[j]]))) := fun j q e => by rw [List.getElem?_set_ne (by have := lt_of_get e; omega)]; exact sub j q e
      repeat (first | with_reducible refine ts_cons ?_ | k_is_topread)
      refine tcall_len (sb _ _ hl) (by simp; omega) ?_
      rw [List.length_map]
      refine tbin_div (by omega) (PyProof.noPylong_small (by omega)) ?_
      repeat (first | with_reducible refine ts_cons ?_ | k_is_topread)
      refine ⟨_, zs ++ [ls[j]], by (repeat (first | exact LE.nil | refine LE.cons (by exact rfl) ?_)), sb, by rw [hz2]; simp, by simp; omega, fun z hz => ?_⟩
      rcases List.mem_append.mp hz with q | q
      · exact hin z q
      · rw [List.mem_singleton.mp q]; exact List.getElem_mem _
    · repeat (first | with_reducible refine ts_cons ?_ | k_is_topread)
      exact ⟨r, zs, by (repeat (first | exact LE.nil | refine LE.cons (by exact rfl) ?_)), sub, hz, by omega, hin⟩
  · rintro m' σ1 ⟨r, zs, le, sub, hz, hzl, hin⟩
    refine TX.forget le ?_
    repeat (first | with_reducible refine ts_cons ?_ | k_is_topread)
    exact h _ zs sub hz (by omega) hin
theorem TXG.forget {W : Wd} {n : Nat} {sc : Scope} {cd : Value} {os0 : OsState} {t : Env → Sem Flow} {Post : Flow → Shared → Prop} {m m' : Locs} {σ : AH} (h : LE m m') (x : TXG W n sc cd os0 t Post m σ) : TXG W n sc cd os0 t Post m' σ :=
  fun A env own O as s hr he hc ow hl R => x A env own O as s hr he hc ow (h.loc hl) R
theorem one_succ (ws : List Int) (j : Nat) : oneM ws (j + 1) = oneM ws j ++ [((j : Int) + 1) * (ws[j + 1]?).getD 0] := by
  unfold oneM; rw [List.range_succ, List.map_append]; rfl
/-- behind the loop -/
theorem rest_spec {W : Wd} {fs fcs fw : Addr} (Fs : FnIs W fs ["values", "clauses"] (fnBody pw 3) (fnScope pw 3)) (Fcs : FnIs W fcs ["clause", "values"] (fnBody pw 2) (fnScope pw 2)) (Fw : FnIs W fw ["lit", "values"] (fnBody pw 1) (fnScope pw 1))
    (gs : W.mg "satisfies" = some (.ref fs)) (gcs : W.mg "clause_state" = some (.ref fcs)) (gw : W.mg "literal_value" = some (.ref fw)) (hlen : W.mg "len" = none)
    {n lw lwb lc lcb : Nat} {is js : List Nat} {ws : List Int} {cs : List (List Int)} {σ : AH} {m : Locs} (hw : σ[lw]? = some (.list (ws.map .int))) (hwb : σ[lwb]? = some (.list (ws.map .int))) (hwl : ws.length = n + 1) (hn : n ≤ 1000) (hR : RowsP σ lc is cs) (hRb : RowsP σ lcb js cs) (hok : okCls n cs) (hcl : ∀ c ∈ cs, c.length ≤ 1000)
    (le : LE [("values", .ref lw), ("values_before", .ref lwb), ("clauses", .ref lc), ("clauses_before", .ref lcb), ("want", .bool (satM ws cs))] m) :
    TSs W 19 (fnScope pw 7) ((fnBody pw 7).drop 10) (fun f m' σ' => f = .ret (.bool true)) m σ := by
  refine TX.forget le ?_
  refine ts_cons ?_
  repeat (first | with_reducible refine ts_cons ?_ | k_is_topread)
  refine te_callG gs rfl Fs.keeps rfl ?_
  repeat (first | with_reducible refine ts_cons ?_ | k_is_topread)
  refine (sat_spec Fs Fcs Fw gcs gw hlen hw hwl hn hR hok hcl fun σ1 sub1 => ?_).call
  generalize satM ws cs = b
  cases b with
  | true =>
    repeat (first | with_reducible refine ts_cons ?_ | k_is_topread)
    rw [if_pos rfl]
    repeat (first | with_reducible refine ts_cons ?_ | k_is_topread)
    refine tcmp_isNot rfl rfl rfl ?_
    repeat (first | with_reducible refine ts_cons ?_ | k_is_topread)
    rw [if_neg (by decide)]
    repeat (first | with_reducible refine ts_cons ?_ | k_is_topread)
    rw [if_neg (by decide)]
    repeat (first | with_reducible refine ts_cons ?_ | k_is_topread)
    rw [if_neg (by decide)]
    repeat (first | with_reducible refine ts_cons ?_ | k_is_topread)
    rw [if_neg (by decide)]
    repeat (first | with_reducible refine ts_cons ?_ | k_is_topread)
    refine tcmp_neD (.list (sub1 _ _ hw) (denInts _ _)) (.list (sub1 _ _ hwb) (denInts _ _)) (canInts _) (canInts _) (by have := depInts ws; omega) ?_
    rw [SeqAt.eqv_refl _ (canInts _)]
    repeat (first | with_reducible refine ts_cons ?_ | k_is_topread)
    rw [if_neg (by decide)]
    repeat (first | with_reducible refine ts_cons ?_ | k_is_topread)
    refine tcmp_neD (hR.sub sub1).rows.den (hRb.sub sub1).rows.den (canRows _) (canRows _) (by have := depRows cs; omega) ?_
    rw [SeqAt.eqv_refl _ (canRows _)]
    repeat (first | with_reducible refine ts_cons ?_ | k_is_topread)
    rw [if_neg (by decide)]
    repeat (first | with_reducible refine ts_cons ?_ | k_is_topread)
    exact rfl
  | false =>
    repeat (first | with_reducible refine ts_cons ?_ | k_is_topread)
    rw [if_neg (by decide)]
    repeat (first | with_reducible refine ts_cons ?_ | k_is_topread)
    rw [if_neg (by decide)]
    repeat (first | with_reducible refine ts_cons ?_ | k_is_topread)
    rw [if_pos (by decide)]
    repeat (first | with_reducible refine ts_cons ?_ | k_is_topread)
    refine tcmp_isNot rfl rfl rfl ?_
    repeat (first | with_reducible refine ts_cons ?_ | k_is_topread)
    rw [if_neg (by decide)]
    repeat (first | with_reducible refine ts_cons ?_ | k_is_topread)
    rw [if_neg (by decide)]
    repeat (first | with_reducible refine ts_cons ?_ | k_is_topread)
    refine tcmp_neD (.list (sub1 _ _ hw) (denInts _ _)) (.list (sub1 _ _ hwb) (denInts _ _)) (canInts _) (canInts _) (by have := depInts ws; omega) ?_
    rw [SeqAt.eqv_refl _ (canInts _)]
    repeat (first | with_reducible refine ts_cons ?_ | k_is_topread)
    rw [if_neg (by decide)]
    repeat (first | with_reducible refine ts_cons ?_ | k_is_topread)
    refine tcmp_neD (hR.sub sub1).rows.den (hRb.sub sub1).rows.den (canRows _) (canRows _) (by have := depRows cs; omega) ?_
    rw [SeqAt.eqv_refl _ (canRows _)]
    repeat (first | with_reducible refine ts_cons ?_ | k_is_topread)
    rw [if_neg (by decide)]
    repeat (first | with_reducible refine ts_cons ?_ | k_is_topread)
    exact rfl
theorem law_walk {W : Wd} {fc fk fs fcs fw c tb bm : Addr} {ob : Obj} (Fc : FnIs W fc ["script", "i"] (fnBody pw 5) (fnScope pw 5)) (Fk : FnIs W fk ["code", "lits"] (fnBody pw 6) (fnScope pw 6)) (Fs : FnIs W fs ["values", "clauses"] (fnBody pw 3) (fnScope pw 3)) (Fcs : FnIs W fcs ["clause", "values"] (fnBody pw 2) (fnScope pw 2)) (Fw : FnIs W fw ["lit", "values"] (fnBody pw 1) (fnScope pw 1))
    (gc : W.mg "_law_cell" = some (.ref fc)) (gk : W.mg "_law_clause" = some (.ref fk)) (gs : W.mg "satisfies" = some (.ref fs)) (gcs : W.mg "clause_state" = some (.ref fcs)) (gw : W.mg "literal_value" = some (.ref fw)) (hlen : W.mg "len" = none) (hra : W.mg "range" = none) (hlist : W.mg "list" = none) (hany : W.mg "any" = none)
    (T : Tab W c tb) (M : BMod W.H mainGlobals W.mg bm ob) (hbt : bm ≠ tb) {ns : List Int} (hz : ns.length < 2 ^ 62) {os0 : OsState} {Post : Flow → Shared → Prop}
    (fin : ∀ (H' : Heap) (s' : Shared), (∀ b, b ≠ tb → H'.get? b = W.H.get? b) → (∃ qs, H'.TableAt c tb qs) → s'.os = os0 → AllBare s'.gens → (∀ a o, H'.get? a = some o → s'.heap.get? a = some o) → Post (.ret (.bool true)) s') :
    TXG W 19 (fnScope pw 7) (.ref c) os0 (execs (fnBody pw 7)) Post [("script", .ref 0)] [.ints ns] := by
  obtain ⟨n, hn, hn5⟩ := fmod_nat (cellA ns 0) 5 (by decide)
  obtain ⟨k, hk, hk5⟩ := fmod_nat (cellA ns 1) 5 (by decide)
  refine tsg_cons ?_
  repeat k_is_topread
  refine te_callG gc rfl Fc.keeps rfl ?_
  repeat k_is_topread
  refine (cell_spec Fc hlen (i := 0) rfl rfl hz ?_).call
  repeat k_is_topread
  rw [show (cellA ns 0).fmod 5 = (n : Int) from hn]
  refine tsg_cons ?_
  repeat k_is_topread
  refine te_callG gc rfl Fc.keeps rfl ?_
  repeat k_is_topread
  refine (cell_spec Fc hlen (i := 1) rfl rfl hz ?_).call
  repeat k_is_topread
  rw [show (cellA ns 1).fmod 5 = (k : Int) from hk]
  have h0 : ([.ints ns] : AH)[0]? = some (.ints ns) := rfl
  generalize ([.ints ns] : AH) = σ at *
  -- values
  refine tsg_cons ?_
  repeat k_is_topread
  refine te_comp rfl rfl ?_
  repeat k_is_topread
  refine tcall_range1 ?_
  refine ⟨n, fun j => .int (0 + j * 1), fun j acc σ' => ∃ zs : List Int, acc = zs.map .int ∧ zs.length = j ∧ (∀ z ∈ zs, z = 1 ∨ z = 0 ∨ z = -1) ∧ Sub (σ ++ [.list [.int 0]]) σ', .inr ⟨_, 0, (n : Int), 1, rfl, get_snoc _ _, range_up (by omega), fun _ _ => rfl⟩, by rw [sizeLine_eq]; omega, ⟨[], rfl, rfl, by simp, Sub.snoc _ _⟩, ?_, ?_⟩
  · rintro j acc σ1 hj ⟨zs, rfl, hzs, hin, sub1⟩
    refine tifs_nil ?_
    rw [if_pos rfl]
    repeat k_is_topread
    refine te_callG gc rfl Fc.keeps rfl ?_
    repeat k_is_topread
    refine (cell_spec Fc hlen (i := 2 + j) (by omega) (sub1 _ _ (Sub.snoc _ _ _ _ h0)) hz ?_).call
    repeat k_is_topread
    obtain ⟨b, hb, hb2⟩ := fmod_nat (cellA ns (2 + j)) 3 (by decide)
    rw [show (cellA ns (2 + j)).fmod 3 = (b : Int) from hb]
    refine ⟨zs ++ [_], by rw [List.map_append]; rfl, by simp [hzs], fun z hz => ?_, sub1⟩
    rcases List.mem_append.mp hz with q | q
    · exact hin z q
    · rw [List.mem_singleton.mp q]; omega
  rintro acc σ1 ⟨zs, rfl, hzs, hin, sub1⟩
  refine tbin_addL (Sub.snoc _ _ _ _ (sub1 _ _ (get_snoc _ _))) (get_snoc _ _) (by rw [sizeLine_eq]; simp; omega) ?_
  have hwv : ∀ v, 1 ≤ v → v ≤ n → ((0 :: zs)[v]?).getD 0 = 1 ∨ ((0 :: zs)[v]?).getD 0 = 0 ∨ ((0 :: zs)[v]?).getD 0 = -1 := fun v h1 h2 => by
    obtain ⟨u, rfl⟩ : ∃ u, v = u + 1 := ⟨v - 1, by omega⟩
    rw [List.getElem?_cons_succ, List.getElem?_eq_getElem (by omega), Option.getD_some]
    exact hin _ (List.getElem_mem _)
  have e : ([AV.int 0] ++ zs.map AV.int) = (0 :: zs).map AV.int := rfl
  rw [e]
  have hwl : (0 :: zs).length = n + 1 := by simp [hzs]
  clear e
  generalize (0 :: zs) = ws at *
  have hw : ((σ1 ++ [AO.list (zs.map AV.int)]) ++ [AO.list (ws.map AV.int)])[(σ1 ++ [AO.list (zs.map AV.int)]).length]? = some (AO.list (ws.map AV.int)) := get_snoc _ _
  have h02 : ((σ1 ++ [AO.list (zs.map AV.int)]) ++ [AO.list (ws.map AV.int)])[0]? = some (.ints ns) := Sub.snoc _ _ _ _ (Sub.snoc _ _ _ _ (sub1 _ _ (Sub.snoc _ _ _ _ h0)))
  generalize (σ1 ++ [AO.list (zs.map AV.int)]).length = lw at *
  generalize ((σ1 ++ [AO.list (zs.map AV.int)]) ++ [AO.list (ws.map AV.int)]) = σ2 at *
  clear sub1 hin hzs zs h0 σ hn hk
  refine TXG.forget (m := [("script", .ref 0), ("n", .int n), ("m", .int k), ("values", .ref lw)]) (by (repeat (first | exact LE.nil | refine LE.cons (by exact rfl) ?_))) ?_
  -- lits
  refine tsg_cons ?_
  repeat k_is_topread
  refine te_comp rfl rfl ?_
  repeat k_is_topread
  refine tcall_range2 ?_
  refine ⟨n, fun j => .int (1 + j * 1), fun j acc σ' => ∃ zs : List Int, acc = zs.map .int ∧ zs.length = j ∧ (∀ z ∈ zs, inR n z ∧ z ≠ 0) ∧ Sub σ2 σ', .inr ⟨_, 1, (n : Int) + 1, 1, rfl, get_snoc _ _, range_up (by omega), fun _ _ => rfl⟩, by rw [sizeLine_eq]; omega, ⟨[], rfl, rfl, by simp, Sub.snoc _ _⟩, ?_, ?_⟩
  · rintro j acc σ3 hj ⟨zs, rfl, hzs, hin, sub3⟩
    refine tifs_nil ?_
    rw [if_pos rfl]
    repeat k_is_topread
    refine ⟨zs ++ [_], by rw [List.map_append]; rfl, by simp [hzs], fun z hz => ?_, sub3⟩
    rcases List.mem_append.mp hz with q | q
    · exact hin z q
    · rw [List.mem_singleton.mp q]; unfold inR; omega
  rintro acc σ3 ⟨zs, rfl, hzs, hin, sub3⟩
  repeat k_is_topread
  refine te_comp rfl rfl ?_
  repeat k_is_topread
  refine tcall_range2 ?_
  refine ⟨n, fun j => .int (1 + j * 1), fun j acc σ' => ∃ ys : List Int, acc = ys.map .int ∧ ys.length = j ∧ (∀ z ∈ ys, inR n z ∧ z ≠ 0) ∧ Sub (σ3 ++ [.list (zs.map .int)]) σ', .inr ⟨_, 1, (n : Int) + 1, 1, rfl, get_snoc _ _, range_up (by omega), fun _ _ => rfl⟩, by rw [sizeLine_eq]; omega, ⟨[], rfl, rfl, by simp, Sub.snoc _ _⟩, ?_, ?_⟩
  · rintro j acc σ4 hj ⟨ys, rfl, hys, hin4, sub4⟩
    refine tifs_nil ?_
    rw [if_pos rfl]
    repeat k_is_topread
    refine ⟨ys ++ [_], by rw [List.map_append]; rfl, by simp [hys], fun z hz => ?_, sub4⟩
    rcases List.mem_append.mp hz with q | q
    · exact hin4 z q
    · rw [List.mem_singleton.mp q]; unfold inR; omega
  rintro acc σ4 ⟨ys, rfl, hys, hin4, sub4⟩
  refine tbin_addL (Sub.snoc _ _ _ _ (sub4 _ _ (get_snoc _ _))) (get_snoc _ _) (by rw [sizeLine_eq]; simp; omega) ?_
  rw [← List.map_append]
  have hlz : (zs ++ ys).length ≤ 1000 := by simp; omega
  have hlin : ∀ z ∈ zs ++ ys, inR n z ∧ z ≠ 0 := fun z hz => by
    rcases List.mem_append.mp hz with q | q
    · exact hin z q
    · exact hin4 z q
  have hll : ((σ4 ++ [AO.list (ys.map AV.int)]) ++ [AO.list ((zs ++ ys).map AV.int)])[(σ4 ++ [AO.list (ys.map AV.int)]).length]? = some (AO.list ((zs ++ ys).map AV.int)) := get_snoc _ _
  have sub5 : Sub σ2 ((σ4 ++ [AO.list (ys.map AV.int)]) ++ [AO.list ((zs ++ ys).map AV.int)]) := ((sub3.trans (Sub.snoc _ _)).trans sub4).trans ((Sub.snoc _ _).trans (Sub.snoc _ _))
  generalize (σ4 ++ [AO.list (ys.map AV.int)]).length = ll at *
  generalize ((σ4 ++ [AO.list (ys.map AV.int)]) ++ [AO.list ((zs ++ ys).map AV.int)]) = σ5 at *
  generalize zs ++ ys = ls at *
  have hw := sub5 _ _ hw
  have h02 := sub5 _ _ h02
  clear sub4 sub3 hin hin4 hzs hys sub5
  refine TXG.forget (m := [("script", .ref 0), ("n", .int n), ("m", .int k), ("values", .ref lw), ("lits", .ref ll)]) (by (repeat (first | exact LE.nil | refine LE.cons (by exact rfl) ?_))) ?_
  -- clauses
  refine tsg_cons ?_
  refine ts_assign_comp rfl rfl rfl ?_
  repeat k_is_topread
  refine tcall_range1 ?_
  refine ⟨k, fun j => .int (0 + j * 1), fun j acc σ' => ∃ is, ∃ rs : List (List Int), acc = is.map .ref ∧ RowsIn 0 σ' is rs ∧ rs.length = j ∧ okCls n rs ∧ (∀ r ∈ rs, r.length ≤ 4) ∧ Sub σ5 σ', .inr ⟨_, 0, (k : Int), 1, rfl, get_snoc _ _, range_up (by omega), fun _ _ => rfl⟩, by rw [sizeLine_eq]; omega, ⟨[], [], rfl, trivial, rfl, by intro c hc; simp at hc, by simp, Sub.snoc _ _⟩, ?_, ?_⟩
  · rintro j acc σ6 hj ⟨is, rs, rfl, hin, hrl, hok, hcl, sub6⟩
    refine tifs_nil ?_
    rw [if_pos rfl]
    repeat k_is_topread
    refine te_callG gk rfl Fk.keeps rfl ?_
    repeat k_is_topread
    refine te_callG gc rfl Fc.keeps rfl ?_
    repeat k_is_topread
    refine (cell_spec Fc hlen (i := 6 + j) (by omega) (sub6 _ _ h02) hz ?_).call
    repeat k_is_topread
    refine (clause_spec Fk hlen hra (sub6 _ _ hll) hlz fun σ7 zs sub7 hg7 hz7 hm7 => ?_).call
    refine ⟨is ++ [_], rs ++ [zs], by rw [List.map_append]; rfl, (hin.sub sub7.x).append (RowsIn.one (by have := lt_of_get (sub6 _ _ h02); omega) hg7), by simp [hrl], ?_, ?_, sub6.trans sub7⟩
    · intro r hr l hl
      rcases List.mem_append.mp hr with q | q
      · exact hok r q l hl
      · rw [List.mem_singleton.mp q] at hl; exact hlin l (hm7 l hl)
    · intro r hr
      rcases List.mem_append.mp hr with q | q
      · exact hcl r q
      · rw [List.mem_singleton.mp q]; exact hz7
  rintro acc σ6 ⟨is, cs, rfl, hin, hrl, hok, hcl, sub6⟩
  have hR : RowsP (σ6 ++ [.list (is.map .ref)]) σ6.length is cs := ⟨get_snoc _ _, (hin.new (Nat.le_refl _)).sub (Sub.snoc _ _).x⟩
  have hw := Sub.snoc σ6 [AO.list (is.map AV.ref)] _ _ (sub6 _ _ hw)
  clear h02 hll hlin hlz sub6 hin
  generalize (σ6 ++ [AO.list (is.map AV.ref)]) = σ7 at *
  generalize σ6.length = lc at *
  refine TXG.forget (m := [("n", .int n), ("values", .ref lw), ("clauses", .ref lc)]) (by (repeat (first | exact LE.nil | refine LE.cons (by exact rfl) ?_))) ?_
  -- the copies
  refine tsg_cons ?_
  repeat k_is_topread
  refine tcall_list hw (by rw [sizeLine_eq]; simp; omega) ?_
  have hwb : (σ7 ++ [AO.list (ws.map AV.int)])[σ7.length]? = _ := get_snoc _ _
  have hw := Sub.snoc σ7 [AO.list (ws.map AV.int)] _ _ hw
  have hR := hR.sub (Sub.snoc σ7 [AO.list (ws.map AV.int)])
  generalize σ7.length = lwb at *
  generalize (σ7 ++ [AO.list (ws.map AV.int)]) = σ8 at *
  refine tsg_cons ?_
  refine ts_assign_comp rfl rfl rfl ?_
  repeat k_is_topread
  refine copy_comp hR (by omega) (fun c hc => by have := hcl c hc; omega) (fun i σ' QQ h => ?_) fun σ9 js sub9 hge hRb => ?_
  · repeat k_is_topread
    exact h
  have hw := Sub.snoc σ9 [AO.list (js.map AV.ref)] _ _ (sub9 _ _ hw)
  have hwb := Sub.snoc σ9 [AO.list (js.map AV.ref)] _ _ (sub9 _ _ hwb)
  have hR := hR.sub (sub9.trans (Sub.snoc σ9 [AO.list (js.map AV.ref)]))
  generalize (σ9 ++ [AO.list (js.map AV.ref)]) = σ10 at *
  generalize σ9.length = lcb at *
  refine TXG.forget (m := [("n", .int n), ("values", .ref lw), ("clauses", .ref lc), ("values_before", .ref lwb), ("clauses_before", .ref lcb)]) (by (repeat (first | exact LE.nil | refine LE.cons (by exact rfl) ?_))) ?_
  clear hge sub9
  -- worth_one
  refine tsg_cons ?_
  refine ts_assign_compC rfl rfl rfl rfl ?_
  repeat k_is_topread
  refine tcall_range2 ?_
  refine ⟨n, fun j => .int (1 + j * 1), fun j acc σ' => acc = (oneM ws j).map .int ∧ Sub σ10 σ', .inr ⟨_, 1, (n : Int) + 1, 1, rfl, get_snoc _ _, range_up (by omega), fun _ _ => rfl⟩, by rw [sizeLine_eq]; omega, ⟨rfl, Sub.snoc _ _⟩, ?_, ?_⟩
  · rintro j acc σ11 hj ⟨rfl, sub11⟩
    have hx : ws[j + 1]? = some (ws[j + 1]'(by omega)) := List.getElem?_eq_getElem _
    have hxv := hwv (j + 1) (by omega) (by omega)
    rw [hx, Option.getD_some] at hxv
    refine tifs_nil ?_
    rw [if_pos rfl]
    repeat k_is_topread
    refine tidx_list rfl (sub11 _ _ hw) (j := j + 1) (x := .int (ws[j + 1]'(by omega))) ?_ (by rw [List.getElem?_map, hx]; rfl) (by omega) ?_
    · unfold pyIdx; rw [List.length_map, if_pos (by omega), if_pos (by omega)]; congr 1; omega
    refine tbin_mul (IntMulOk.of_right (intBits_le_64 (by omega) (by omega))) ?_
    refine ⟨?_, sub11⟩
    rw [one_succ, List.map_append, hx, Option.getD_some, show (1 : Int) + (j : Int) * 1 = (j : Int) + 1 by omega]
    rfl
  rintro acc σ11 ⟨rfl, sub11⟩
  have ho : (σ11 ++ [AO.list ((oneM ws n).map AV.int)])[σ11.length]? = _ := get_snoc _ _
  have hw := Sub.snoc σ11 [AO.list ((oneM ws n).map AV.int)] _ _ (sub11 _ _ hw)
  have hwb := Sub.snoc σ11 [AO.list ((oneM ws n).map AV.int)] _ _ (sub11 _ _ hwb)
  have hR := hR.sub (sub11.trans (Sub.snoc σ11 [AO.list ((oneM ws n).map AV.int)]))
  have hRb := hRb.sub (sub11.trans (Sub.snoc σ11 [AO.list ((oneM ws n).map AV.int)]))
  clear sub11
  generalize (σ11 ++ [AO.list ((oneM ws n).map AV.int)]) = σ12 at *
  generalize σ11.length = lo at *
  refine tsg_cons ?_
  repeat k_is_topread
  refine TXG.forget (m := [("values", .ref lw), ("clauses", .ref lc), ("values_before", .ref lwb), ("clauses_before", .ref lcb), ("worth_one", .ref lo), ("want", .bool true)]) (by (repeat (first | exact LE.nil | refine LE.cons (by exact rfl) ?_))) ?_
  refine loopG rfl rfl rfl rfl rfl rfl hany rfl rfl rfl T M hbt rfl rfl rfl ho hR fun H' gl bl lim e T' m' hm hq => ?_
  rw [← sat_is hok hwv] at hq
  refine tsg_plain ?_ fun s' q1 q2 q3 => ?_
  · refine rest_spec (Fs.on T e gl bl lim) (Fcs.on T e gl bl lim) (Fw.on T e gl bl lim) gs gcs gw hlen hw hwb hwl (by omega) hR hRb hok (fun c hc => by have := hcl c hc; omega) ?_
    refine LE.cons ((hm _ (by decide +kernel) (by decide +kernel)).trans rfl) (LE.cons ((hm _ (by decide +kernel) (by decide +kernel)).trans rfl) (LE.cons ((hm _ (by decide +kernel) (by decide +kernel)).trans rfl) (LE.cons ((hm _ (by decide +kernel) (by decide +kernel)).trans rfl) (LE.cons hq LE.nil))))
  · obtain ⟨qs, -, ht⟩ := T'.code
    exact fin H' s' e ⟨qs, ht⟩ q1 q2 q3
end Mine
end
section
open PySem PySem.W PySem.W.X PyProof.Rows
set_option maxRecDepth 100000 in
set_option maxHeartbeats 8000000 in
theorem PySem.Challenge.cw_k11_0005_holds : PySem.Challenge.rw_k11_0005.Holds := by
  w_on; o_law; z_head; (case hw => w_witness2)
  k_fill
  intro w s₀ s₁ mg mb G y fa o pm cd doc dV kV ho hd hcd hD hmg hg args vals as L hpre hlay hrd hwl hlo
  z_open y L KX ZH ZN ZT
  refine Ground.open G ?_
  intro T B D TE TW
  have hfa := Option.some.inj ((mg_of KX T.g (n := "law") rfl).symm.trans hmg)
  cases hfa
  wrow_args hpre hlay hrd hwl hlo
  rename ¬ (_ < _) => hlt
  obtain ⟨bm, ob, M⟩ := bmod_of_top T
  have hC : s₁.heap.IsCode 51 49 #[] := ⟨_, _, _, _, _, _, _, _, _, _, KX 51 _ rfl, rfl, rfl, rfl, rfl, rfl, rfl, KX 49 _ rfl, rfl, trivial, by decide⟩
  have hT : s₁.heap.TableAt 51 49 #[] := ⟨⟨_, _, KX 51 _ rfl, rfl, rfl, rfl⟩, KX 49 _ rfl⟩
  refine Mine.law_bridgeG (c := 51) (tb := 49) (ps := ["script"]) (body := Mine.fnBody Mine.pw 7) (sc := Mine.fnScope Mine.pw 7) T (by assumption) (by assumption) hg hT (Mine.fn_ofK KX rfl rfl rfl rfl rfl rfl rfl (Mine.ar1 fun _ => rfl) rfl) ⟨_, _, KX 52 _ rfl, rfl, rfl⟩ rfl ?_
  refine Mine.law_walk (Mine.fn_ofK KX rfl rfl rfl rfl rfl rfl rfl (Mine.ar2 fun _ _ => rfl) rfl) (Mine.fn_ofK KX rfl rfl rfl rfl rfl rfl rfl (Mine.ar2 fun _ _ => rfl) rfl) (Mine.fn_ofK KX rfl rfl rfl rfl rfl rfl rfl (Mine.ar2 fun _ _ => rfl) rfl) (Mine.fn_ofK KX rfl rfl rfl rfl rfl rfl rfl (Mine.ar2 fun _ _ => rfl) rfl) (Mine.fn_ofK KX rfl rfl rfl rfl rfl rfl rfl (Mine.ar2 fun _ _ => rfl) rfl) (mg_of KX T.g rfl) (mg_of KX T.g rfl) (mg_of KX T.g rfl) (mg_of KX T.g rfl) (mg_of KX T.g rfl) (mg_none_of KX T.g rfl) (mg_none_of KX T.g rfl) (mg_none_of KX T.g rfl) (mg_none_of KX T.g rfl) (Mine.tab_of hC hT) M (M.apart hT).2 ?_ ?_
  · omega
  · intro H' s' e t q1 q2 q3
    obtain ⟨qs, ht⟩ := t
    exact ⟨_, rfl, rfl, q1, q2, fun b o hb x => q3 b o ((e b hb).trans x), qs, ht.keeps q3⟩
end
