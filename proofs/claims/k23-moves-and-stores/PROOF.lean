import PyProof.Rows.All
import Wide.All
import OpenK.AllK
import Wide.FinOn
import HandS.ForMost
import HandS.ForExc
import HandS.Wide
import HandS.WideMore
import HandS.Defaults
import HandS.CallSlots
import HandS.IsInst
import HandS.Flow
import HandS.TupAny
import HandS.StrMore
import HandS.HeadHook2
import KE.KStateDown
import Lean
import HandS.Head0
import HandS.Head1
import HandS.Head2
import HandS.HeadEnd
import HandS.HeadHook1
import HandS.WordsExc
import HandS.TryOnly
import HandS.ExcIs
import HandS.ExcField
import HandS.Codes
import HandS.Style
import HandS.StrSplit
import PyProof.StrBlock2
import PyProof.StrOps2
import PyProof.Rows.StrPadWhole
import HandS.Comp
import HandS.Iter
import HandS.Deep
import HandS.Replace
import HandS.ReplaceLit
import HandS.ReplaceList
import HandS.FStr
import HandS.HeadHook3
import HandS.WordsDict
import HandS.TupLe
import KE.GoesMore
import HandS.SortInts
import HandS.DictComp
import HandS.Property
import HandS.Conv
import PyProof.ListStr
import HandS.ExcInit
import PySem.Challenge.RW_cardwright_k23_moves_and_stores
set_option Elab.async false
set_option linter.all false
set_option maxRecDepth 100000
set_option maxHeartbeats 4000000
/-! PyD: values as plain data, a store that is counted, defs as plain functions. -/
namespace PD
open PySem PySem.Spec PyProof.Rows L2

abbrev Tx := List Nat
/-- a size within the line; no decision of it is ever run -/
def sizeOk (n : Nat) : Prop := n ≤ sizeLine
/-- plain data; loc n: the n-th thing of the store -/
inductive D where
  | non | bl (b : Bool) | int (i : Int) | str (x : Tx) | tup (xs : List D) | lst (xs : List D) | fz (xs : List D) | loc (n : Nat) | ty (n : String) | glo (x : String) | exo
inductive Ob where
  | lst (xs : List D)
  | dic (kvs : List (Key × D))
  | set (S : Int → Bool) (n : Nat)
  | ins (c : Str) (N : List Str) (ds : List D)
abbrev Sto := List Ob
/-- an error's class -/
inductive Cl where
  | own (x : String) | bi (n : String)
structure Exn where
  cls : Cl
  fs : Option (List Str × List D)
inductive Out (α : Type) where
  | ok (a : α) (S : Sto)
  | ex (e : Exn) (S : Sto)
  | bad
def Out.bind {α β : Type} : Out α → (α → Sto → Out β) → Out β
  | .ok a S, f => f a S
  | .ex e S, _ => .ex e S
  | .bad, _ => .bad
@[simp] theorem bind_ok {α β : Type} (a : α) (S : Sto) (f : α → Sto → Out β) : (Out.ok a S).bind f = f a S := rfl
@[simp] theorem bind_ex {α β : Type} (e : Exn) (S : Sto) (f : α → Sto → Out β) : (Out.ex e S).bind f = .ex e S := rfl
@[simp] theorem bind_bad {α β : Type} (f : α → Sto → Out β) : (Out.bad : Out α).bind f = .bad := rfl
abbrev Evn := List (Option D)
abbrev ME := Evn → Sto → Out D
abbrev MT := Evn → Sto → Out Bool
abbrev MA := Evn → Sto → Out (List D)
/-- a def's own meaning -/
abbrev MF := List D → Sto → Out D
inductive SO where
  | nx (E : Evn) (S : Sto)
  | rt (d : D) (S : Sto)
  | bk (E : Evn) (S : Sto)
  | ct (E : Evn) (S : Sto)
  | ex (e : Exn) (E : Evn) (S : Sto)
  | bad
abbrev MS := Evn → Sto → SO
def Out.toS {α : Type} (E : Evn) : Out α → (α → Sto → SO) → SO
  | .ok a S, f => f a S
  | .ex e S, _ => .ex e E S
  | .bad, _ => .bad
@[simp] theorem toS_ok {α : Type} (E : Evn) (a : α) (S : Sto) (f : α → Sto → SO) : (Out.ok a S).toS E f = f a S := rfl
@[simp] theorem toS_ex {α : Type} (E : Evn) (e : Exn) (S : Sto) (f : α → Sto → SO) : (Out.ex e S).toS E f = .ex e E S := rfl
@[simp] theorem toS_bad {α : Type} (E : Evn) (f : α → Sto → SO) : (Out.bad : Out α).toS E f = .bad := rfl

/-! ### what the data stand for -/
def KL (K : PySem.W.Frag) (a : Addr) (xs : List V) : Prop :=
  ∃ (o : Obj) (its : Array Value) (n : Nat), K.lookup a = some o ∧ o.cls = .type "list" ∧ o.dict = none ∧ o.data = .seq its n ∧ its.size ≤ sizeLine ∧ Vals xs its.toList
def LstP (ρ : List Addr) (H : Hp) (a : Addr) (vs : List V) : Prop := a ∉ ρ ∧ H a = some (.lst vs)
/-- a list that is locked, or stands in the written part -/
def FzP (K : PySem.W.Frag) (H : Hp) (a : Addr) (vs : List V) : Prop := (∃ o, H a = some (.frz o (.lst vs))) ∨ KL K a vs
def sv (x : Tx) : V := .str ⟨x.toArray⟩
mutual
def DV (K : PySem.W.Frag) (ρ : List Addr) (H : Hp) : D → V → Prop
  | .non, v => v = .non
  | .bl b, v => v = .bl b
  | .int i, v => v = .int i
  | .str x, v => v = sv x
  | .tup xs, v => ∃ a vs, v = .ref a ∧ SqT K H a vs ∧ DVs K ρ H xs vs
  | .lst xs, v => ∃ a vs, v = .ref a ∧ LstP ρ H a vs ∧ DVs K ρ H xs vs
  | .fz xs, v => ∃ a vs, v = .ref a ∧ FzP K H a vs ∧ DVs K ρ H xs vs
  | .loc n, v => ∃ a, v = .ref a ∧ ρ[n]? = some a
  | .ty n, v => v = .ty n
  | .glo x, v => v = .ref (He.ga K x)
  | .exo, v => ∃ a, v = .ref a
def DVs (K : PySem.W.Frag) (ρ : List Addr) (H : Hp) : List D → List V → Prop
  | [], vs => vs = []
  | x :: xs, vs => ∃ v r, vs = v :: r ∧ DV K ρ H x v ∧ DVs K ρ H xs r
end
/-- the world goes on -/
structure Ext (K : PySem.W.Frag) (ρ : List Addr) (H : Hp) (ρ' : List Addr) (H' : Hp) : Prop where
  pre : ∃ t, ρ' = ρ ++ t
  tup : ∀ a vs, SqT K H a vs → SqT K H' a vs
  oth : ∀ a u, a ∉ ρ → H a = some u → a ∉ ρ' ∧ H' a = some u
  fz : ∀ a o vs, H a = some (.frz o (.lst vs)) → H' a = some (.frz o (.lst vs))
  xd : ∀ a fs, H a = some (.xd fs) → H' a = some (.xd fs)
theorem Ext.refl {K : PySem.W.Frag} {ρ : List Addr} {H : Hp} : Ext K ρ H ρ H := ⟨⟨[], by simp⟩, fun _ _ h => h, fun _ _ h g => ⟨h, g⟩, fun _ _ _ h => h, fun _ _ h => h⟩
theorem Ext.trans {K : PySem.W.Frag} {ρ ρ1 ρ2 : List Addr} {H H1 H2 : Hp} (a : Ext K ρ H ρ1 H1) (b : Ext K ρ1 H1 ρ2 H2) : Ext K ρ H ρ2 H2 := by
  obtain ⟨t, rfl⟩ := a.pre
  obtain ⟨u, rfl⟩ := b.pre
  refine ⟨⟨t ++ u, by simp⟩, fun x vs h => b.tup x vs (a.tup x vs h), fun x vs h g => ?_, fun x o vs h => b.fz x o vs (a.fz x o vs h), fun x fs h => b.xd x fs (a.xd x fs h)⟩
  obtain ⟨h1, g1⟩ := a.oth x vs h g
  exact b.oth x vs h1 g1
theorem Ext.lst {K : PySem.W.Frag} {ρ ρ' : List Addr} {H H' : Hp} (e : Ext K ρ H ρ' H') (a : Addr) (vs : List V) (h : a ∉ ρ) (g : H a = some (.lst vs)) : a ∉ ρ' ∧ H' a = some (.lst vs) := e.oth a _ h g
/-- what data ask of it -/
structure Ex0 (K : PySem.W.Frag) (ρ : List Addr) (H : Hp) (ρ' : List Addr) (H' : Hp) : Prop where
  pre : ∃ t, ρ' = ρ ++ t
  tup : ∀ a vs, SqT K H a vs → SqT K H' a vs
  lst : ∀ a vs, a ∉ ρ → H a = some (.lst vs) → a ∉ ρ' ∧ H' a = some (.lst vs)
  fz : ∀ a o vs, H a = some (.frz o (.lst vs)) → H' a = some (.frz o (.lst vs))
theorem Ext.to0 {K : PySem.W.Frag} {ρ ρ' : List Addr} {H H' : Hp} (e : Ext K ρ H ρ' H') : Ex0 K ρ H ρ' H' := ⟨e.pre, e.tup, fun a vs h g => e.oth a _ h g, e.fz⟩
theorem LstP.mono0 {K : PySem.W.Frag} {ρ ρ' : List Addr} {H H' : Hp} (e : Ex0 K ρ H ρ' H') {a : Addr} {vs : List V} (h : LstP ρ H a vs) : LstP ρ' H' a vs := e.lst a vs h.1 h.2
theorem FzP.mono0 {K : PySem.W.Frag} {ρ ρ' : List Addr} {H H' : Hp} (e : Ex0 K ρ H ρ' H') {a : Addr} {vs : List V} (h : FzP K H a vs) : FzP K H' a vs := by
  rcases h with ⟨o, h⟩ | h
  · exact .inl ⟨o, e.fz a o vs h⟩
  · exact .inr h
theorem LstP.mono {K : PySem.W.Frag} {ρ ρ' : List Addr} {H H' : Hp} (e : Ext K ρ H ρ' H') {a : Addr} {vs : List V} (h : LstP ρ H a vs) : LstP ρ' H' a vs := e.lst a vs h.1 h.2
theorem LstP.seq {K : PySem.W.Frag} {ρ : List Addr} {H : Hp} {a : Addr} {vs : List V} (h : LstP ρ H a vs) : SqL K H a vs := SqL.of h.2
theorem FzP.mono {K : PySem.W.Frag} {ρ ρ' : List Addr} {H H' : Hp} (e : Ext K ρ H ρ' H') {a : Addr} {vs : List V} (h : FzP K H a vs) : FzP K H' a vs := by
  rcases h with ⟨o, h⟩ | h
  · exact .inl ⟨o, e.fz a o vs h⟩
  · exact .inr h
theorem FzP.seq {K : PySem.W.Frag} {H : Hp} {a : Addr} {vs : List V} (h : FzP K H a vs) : SqL K H a vs := by
  rcases h with ⟨o, h⟩ | h
  · exact .inl (.inr ⟨o, h⟩)
  · exact .inr h
theorem FzP.of {K : PySem.W.Frag} {H : Hp} {a : Addr} {vs : List V} (h : SqL K H a vs) : (∃ o, H a = some (.frz o (.lst vs))) ∨ KL K a vs ∨ H a = some (.lst vs) := by
  rcases h with (h | ⟨o, h⟩) | h
  · exact .inr (.inr h)
  · exact .inl ⟨o, h⟩
  · exact .inr (.inl h)
mutual
theorem DV.mono0 {K : PySem.W.Frag} {ρ ρ' : List Addr} {H H' : Hp} (e : Ex0 K ρ H ρ' H') : ∀ (d : D) (v : V), DV K ρ H d v → DV K ρ' H' d v
  | .non, _, h => by simp only [DV] at h ⊢; exact h
  | .bl _, _, h => by simp only [DV] at h ⊢; exact h
  | .int _, _, h => by simp only [DV] at h ⊢; exact h
  | .str _, _, h => by simp only [DV] at h ⊢; exact h
  | .ty _, _, h => by simp only [DV] at h ⊢; exact h
  | .glo _, _, h => by simp only [DV] at h ⊢; exact h
  | .exo, _, h => by simp only [DV] at h ⊢; exact h
  | .tup xs, _, h => by
    simp only [DV] at h ⊢
    obtain ⟨a, vs, rfl, h1, h2⟩ := h
    exact ⟨a, vs, rfl, e.tup _ _ h1, DVs.mono0 e xs vs h2⟩
  | .lst xs, _, h => by
    simp only [DV] at h ⊢
    obtain ⟨a, vs, rfl, h1, h2⟩ := h
    exact ⟨a, vs, rfl, h1.mono0 e, DVs.mono0 e xs vs h2⟩
  | .fz xs, _, h => by
    simp only [DV] at h ⊢
    obtain ⟨a, vs, rfl, h1, h2⟩ := h
    exact ⟨a, vs, rfl, h1.mono0 e, DVs.mono0 e xs vs h2⟩
  | .loc n, _, h => by
    simp only [DV] at h ⊢
    obtain ⟨a, rfl, h1⟩ := h
    obtain ⟨t, rfl⟩ := e.pre
    exact ⟨a, rfl, by rw [List.getElem?_append_left (List.getElem?_eq_some_iff.mp h1).1]; exact h1⟩
theorem DVs.mono0 {K : PySem.W.Frag} {ρ ρ' : List Addr} {H H' : Hp} (e : Ex0 K ρ H ρ' H') : ∀ (ds : List D) (vs : List V), DVs K ρ H ds vs → DVs K ρ' H' ds vs
  | [], _, h => by simp only [DVs] at h ⊢; exact h
  | x :: xs, _, h => by
    simp only [DVs] at h ⊢
    obtain ⟨v, r, rfl, h1, h2⟩ := h
    exact ⟨v, r, rfl, DV.mono0 e x v h1, DVs.mono0 e xs r h2⟩
end
theorem DV.mono {K : PySem.W.Frag} {ρ ρ' : List Addr} {H H' : Hp} (e : Ext K ρ H ρ' H') (d : D) (v : V) (h : DV K ρ H d v) : DV K ρ' H' d v := DV.mono0 e.to0 d v h
theorem DVs.mono {K : PySem.W.Frag} {ρ ρ' : List Addr} {H H' : Hp} (e : Ext K ρ H ρ' H') (ds : List D) (vs : List V) (h : DVs K ρ H ds vs) : DVs K ρ' H' ds vs := DVs.mono0 e.to0 ds vs h
/-- the pairs of a dict -/
def KVR (K : PySem.W.Frag) (ρ : List Addr) (H : Hp) : List (Key × D) → List (Key × V) → Prop
  | [], us => us = []
  | (k, d) :: r, us => ∃ v t, us = (k, v) :: t ∧ DV K ρ H d v ∧ KVR K ρ H r t
theorem KVR.mono0 {K : PySem.W.Frag} {ρ ρ' : List Addr} {H H' : Hp} (e : Ex0 K ρ H ρ' H') : ∀ (ds : List (Key × D)) (vs : List (Key × V)), KVR K ρ H ds vs → KVR K ρ' H' ds vs
  | [], _, h => h
  | (k, d) :: r, _, ⟨v, t, h1, h2, h3⟩ => ⟨v, t, h1, DV.mono0 e d v h2, KVR.mono0 e r t h3⟩
theorem KVR.mono {K : PySem.W.Frag} {ρ ρ' : List Addr} {H H' : Hp} (e : Ext K ρ H ρ' H') (ds : List (Key × D)) (vs : List (Key × V)) (h : KVR K ρ H ds vs) : KVR K ρ' H' ds vs := KVR.mono0 e.to0 ds vs h
theorem DVs.length {K : PySem.W.Frag} {ρ : List Addr} {H : Hp} : ∀ {ds : List D} {vs : List V}, DVs K ρ H ds vs → ds.length = vs.length
  | [], _, h => by simp only [DVs] at h; subst h; rfl
  | x :: xs, _, h => by
    simp only [DVs] at h
    obtain ⟨v, r, rfl, h1, h2⟩ := h
    simp [DVs.length h2]
theorem DVs.get {K : PySem.W.Frag} {ρ : List Addr} {H : Hp} : ∀ {ds : List D} {vs : List V} {i : Nat} {d : D}, DVs K ρ H ds vs → ds[i]? = some d → ∃ v, vs[i]? = some v ∧ DV K ρ H d v
  | [], _, _, _, _, e => by simp at e
  | x :: xs, _, i, d, h, e => by
    simp only [DVs] at h
    obtain ⟨v, r, rfl, h1, h2⟩ := h
    cases i with
    | zero => simp at e; subst e; exact ⟨v, rfl, h1⟩
    | succ i =>
      obtain ⟨u, q1, q2⟩ := DVs.get (i := i) (d := d) h2 (by simpa using e)
      exact ⟨u, by simpa using q1, q2⟩
theorem DVs.getV {K : PySem.W.Frag} {ρ : List Addr} {H : Hp} {ds : List D} {vs : List V} {i : Nat} {v : V} (h : DVs K ρ H ds vs) (e : vs[i]? = some v) : ∃ d, ds[i]? = some d ∧ DV K ρ H d v := by
  have hl := h.length
  have hi : i < vs.length := (List.getElem?_eq_some_iff.mp e).1
  obtain ⟨u, q1, q2⟩ := h.get (i := i) (d := ds[i]'(by omega)) (List.getElem?_eq_getElem _)
  rw [e] at q1
  cases q1
  exact ⟨_, List.getElem?_eq_getElem _, q2⟩
theorem DVs.append {K : PySem.W.Frag} {ρ : List Addr} {H : Hp} : ∀ {ds es : List D} {vs us : List V}, DVs K ρ H ds vs → DVs K ρ H es us → DVs K ρ H (ds ++ es) (vs ++ us)
  | [], _, _, _, h, g => by simp only [DVs] at h; subst h; simpa using g
  | x :: xs, _, _, _, h, g => by
    simp only [DVs] at h
    obtain ⟨v, r, rfl, h1, h2⟩ := h
    simp only [List.cons_append, DVs]
    exact ⟨v, _, rfl, h1, DVs.append h2 g⟩
theorem DVs.take {K : PySem.W.Frag} {ρ : List Addr} {H : Hp} : ∀ {ds : List D} {vs : List V} (n : Nat), DVs K ρ H ds vs → DVs K ρ H (ds.take n) (vs.take n)
  | _, _, 0, _ => by simp [DVs]
  | [], _, n + 1, h => by simp only [DVs] at h; subst h; simp [DVs]
  | x :: xs, _, n + 1, h => by
    simp only [DVs] at h
    obtain ⟨v, r, rfl, h1, h2⟩ := h
    simp only [List.take_succ_cons, DVs]
    exact ⟨v, _, rfl, h1, DVs.take n h2⟩
theorem DVs.drop {K : PySem.W.Frag} {ρ : List Addr} {H : Hp} : ∀ {ds : List D} {vs : List V} (n : Nat), DVs K ρ H ds vs → DVs K ρ H (ds.drop n) (vs.drop n)
  | _, _, 0, h => by simpa using h
  | [], _, n + 1, h => by simp only [DVs] at h; subst h; simp [DVs]
  | x :: xs, _, n + 1, h => by
    simp only [DVs] at h
    obtain ⟨v, r, rfl, h1, h2⟩ := h
    simpa using DVs.drop n h2
theorem DVs.set {K : PySem.W.Frag} {ρ : List Addr} {H : Hp} {d : D} {v : V} (q : DV K ρ H d v) : ∀ {ds : List D} {vs : List V} (n : Nat), DVs K ρ H ds vs → DVs K ρ H (ds.set n d) (vs.set n v)
  | [], _, _, h => by simp only [DVs] at h; subst h; simp [DVs]
  | x :: xs, _, 0, h => by
    simp only [DVs] at h
    obtain ⟨w, r, rfl, h1, h2⟩ := h
    simp only [List.set_cons_zero, DVs]
    exact ⟨v, r, rfl, q, h2⟩
  | x :: xs, _, n + 1, h => by
    simp only [DVs] at h
    obtain ⟨w, r, rfl, h1, h2⟩ := h
    simp only [List.set_cons_succ, DVs]
    exact ⟨w, _, rfl, h1, DVs.set q n h2⟩
theorem DVs.reverse {K : PySem.W.Frag} {ρ : List Addr} {H : Hp} : ∀ {ds : List D} {vs : List V}, DVs K ρ H ds vs → DVs K ρ H ds.reverse vs.reverse
  | [], _, h => by simp only [DVs] at h; subst h; simp [DVs]
  | x :: xs, _, h => by
    simp only [DVs] at h
    obtain ⟨w, r, rfl, h1, h2⟩ := h
    simp only [List.reverse_cons]
    exact (DVs.reverse h2).append (by simp only [DVs]; exact ⟨w, [], rfl, h1, rfl⟩)
theorem DVs.one {K : PySem.W.Frag} {ρ : List Addr} {H : Hp} {d : D} {v : V} (h : DV K ρ H d v) : DVs K ρ H [d] [v] := by simp only [DVs]; exact ⟨v, [], rfl, h, rfl⟩

/-- what stands at a place of the store -/
def OR (K : PySem.W.Frag) (ρ : List Addr) (H : Hp) (a : Addr) : Ob → Prop
  | .lst xs => ∃ vs, H a = some (.lst vs) ∧ DVs K ρ H xs vs
  | .dic kvs => ∃ us : List (Key × V), H a = some (.dK us) ∧ KVR K ρ H kvs us
  | .set S n => H a = some (.set S n)
  | .ins c N ds => ∃ dx vs, H a = some (.ins (He.ga K c) dx (N.zip vs)) ∧ DVs K ρ H ds vs
structure Rel (K : PySem.W.Frag) (ρ : List Addr) (S : Sto) (H : Hp) : Prop where
  len : ρ.length = S.length
  nd : ρ.Nodup
  at_ : ∀ (n : Nat) (o : Ob) (a : Addr), S[n]? = some o → ρ[n]? = some a → OR K ρ H a o
/-- an error as it lies -/
def Cl.val (K : PySem.W.Frag) : Cl → Value
  | .own x => .ref (He.ga K x)
  | .bi n => .type n
def XR (K : PySem.W.Frag) (ρ : List Addr) (H : Hp) (e : Exn) (c : Value) (dx : Option Addr) : Prop :=
  c = e.cls.val K ∧ match e.fs with
    | none => dx = none
    | some fs => ∃ d vs, dx = some d ∧ H d = some (.xd (fs.1.zip vs)) ∧ DVs K ρ H fs.2 vs
abbrev XQ := Value → Option Addr → Hp → Prop
/-- how an outcome lies in the heap -/
def Post {α β : Type} (K : PySem.W.Frag) (R : List Addr → Hp → α → β → Prop) (ρ : List Addr) (H : Hp) (Q : β → Hp → Prop) (Z : XQ) : Out α → Prop
  | .ok d S' => ∀ ρ' H' v, Rel K ρ' S' H' → Ext K ρ H ρ' H' → R ρ' H' d v → Q v H'
  | .ex e S' => ∀ ρ' H' c dx, Rel K ρ' S' H' → Ext K ρ H ρ' H' → XR K ρ' H' e c dx → Z c dx H'
  | .bad => False
theorem Post.start {α β : Type} {K : PySem.W.Frag} {R : List Addr → Hp → α → β → Prop} {ρ ρ1 : List Addr} {H H1 : Hp} {Q : β → Hp → Prop} {Z : XQ} {o : Out α} (h : Post K R ρ H Q Z o) (e : Ext K ρ H ρ1 H1) : Post K R ρ1 H1 Q Z o := by
  cases o with
  | ok d S => exact fun ρ' H' v r x => h ρ' H' v r (e.trans x)
  | ex d S => exact fun ρ' H' c dx r x => h ρ' H' c dx r (e.trans x)
  | bad => exact h
theorem Post.imp {α β : Type} {K : PySem.W.Frag} {R : List Addr → Hp → α → β → Prop} {ρ : List Addr} {H : Hp} {Q Q' : β → Hp → Prop} {Z : XQ} {o : Out α} (h : Post K R ρ H Q Z o) (i : ∀ v H', Q v H' → Q' v H') : Post K R ρ H Q' Z o := by
  cases o with
  | ok d S => exact fun ρ' H' v r x y => i _ _ (h ρ' H' v r x y)
  | ex d S => exact h
  | bad => exact h
theorem Post.bind {α β γ δ : Type} {K : PySem.W.Frag} {R : List Addr → Hp → α → β → Prop} {R2 : List Addr → Hp → γ → δ → Prop} {ρ : List Addr} {H : Hp} {Q : δ → Hp → Prop} {Z : XQ} {o : Out α} {f : α → Sto → Out γ} (h : Post K R2 ρ H Q Z (o.bind f)) :
    Post K R ρ H (fun v H1 => ∃ ρ1 S1 d, Rel K ρ1 S1 H1 ∧ Ext K ρ H ρ1 H1 ∧ R ρ1 H1 d v ∧ Post K R2 ρ1 H1 Q Z (f d S1)) Z o := by
  cases o with
  | ok d S => exact fun ρ' H' v r x y => ⟨ρ', S, d, r, x, y, Post.start h x⟩
  | ex d S => exact h
  | bad => exact h
/-- what is wanted of an error; what holds meanwhile -/
structure WW (K : PySem.W.Frag) where
  w : WX
  g : List Addr → Hp → Prop
  gm : ∀ ρ H ρ' H', Ext K ρ H ρ' H' → g ρ H → g ρ' H'
  /-- a name that holds a caught error, where there is one: nothing is stored meanwhile -/
  fix : Option (Nat × Addr)
def WW.of {K : PySem.W.Frag} (w : WX) : WW K := ⟨w, fun _ _ => True, fun _ _ _ _ _ _ => trivial, none⟩
theorem XR.mono {K : PySem.W.Frag} {ρ ρ' : List Addr} {H H' : Hp} (x : Ext K ρ H ρ' H') {e : Exn} {c : Value} {dx : Option Addr} (h : XR K ρ H e c dx) : XR K ρ' H' e c dx := by
  obtain ⟨h1, h2⟩ := h
  refine ⟨h1, ?_⟩
  cases q : e.fs with
  | none => rw [q] at h2; exact h2
  | some fs =>
    rw [q] at h2
    obtain ⟨d, vs, a1, a2, a3⟩ := h2
    exact ⟨d, vs, a1, x.xd _ _ a2, DVs.mono x _ _ a3⟩
def ER (K : PySem.W.Frag) (W : WW K) (ρ : List Addr) (H : Hp) (E : Evn) (σ : L2.St) : Prop := W.g ρ H ∧ (∀ i a, W.fix = some (i, a) → σ[i]? = some (some (.ref a))) ∧ E.length = σ.length ∧ ∀ (i : Nat) (d : D), E[i]? = some (some d) → ∃ v, σ[i]? = some (some v) ∧ DV K ρ H d v
theorem ER.mono {K : PySem.W.Frag} {W : WW K} {ρ ρ' : List Addr} {H H' : Hp} (e : Ext K ρ H ρ' H') {E : Evn} {σ : L2.St} (h : ER K W ρ H E σ) : ER K W ρ' H' E σ :=
  ⟨W.gm _ _ _ _ e h.1, h.2.1, h.2.2.1, fun i d q => let ⟨v, a, b⟩ := h.2.2.2 i d q; ⟨v, a, DV.mono e d v b⟩⟩
theorem ER.set {K : PySem.W.Frag} {W : WW K} {ρ : List Addr} {H : Hp} {E : Evn} {σ : L2.St} (hw : W.fix = none) (h : ER K W ρ H E σ) (i : Nat) {d : D} {v : V} (q : DV K ρ H d v) : ER K W ρ H (E.set i (some d)) (σ.set i (some v)) := by
  refine ⟨h.1, fun j a z => (by rw [hw] at z; cases z), by simpa using h.2.2.1, fun j u e => ?_⟩
  by_cases hj : i = j
  · subst hj
    have hl : i < E.length := by
      have := (List.getElem?_eq_some_iff.mp e).1
      simpa using this
    rw [List.getElem?_set_self hl] at e
    cases e
    exact ⟨v, by rw [List.getElem?_set_self (by have := h.2.2.1; omega)], q⟩
  · rw [List.getElem?_set_ne hj] at e
    obtain ⟨w, a, b⟩ := h.2.2.2 j u e
    exact ⟨w, by rw [List.getElem?_set_ne hj]; exact a, b⟩
theorem ER.unset {K : PySem.W.Frag} {W : WW K} {ρ : List Addr} {H : Hp} {E : Evn} {σ : L2.St} (hw : W.fix = none) (h : ER K W ρ H E σ) (i : Nat) : ER K W ρ H (E.set i none) (σ.set i none) := by
  refine ⟨h.1, fun j a z => (by rw [hw] at z; cases z), by simpa using h.2.2.1, fun j u e => ?_⟩
  by_cases hj : i = j
  · subst hj
    by_cases hl : i < E.length
    · rw [List.getElem?_set_self hl] at e; cases e
    · rw [List.getElem?_eq_none (by simpa using hl)] at e; cases e
  · rw [List.getElem?_set_ne hj] at e
    obtain ⟨w, a, b⟩ := h.2.2.2 j u e
    exact ⟨w, by rw [List.getElem?_set_ne hj]; exact a, b⟩
theorem ER.wish {K : PySem.W.Frag} {W W' : WW K} {ρ : List Addr} {H : Hp} {E : Evn} {σ : L2.St} (h : ER K W ρ H E σ) (g : W'.g ρ H) (f : ∀ i a, W'.fix = some (i, a) → σ[i]? = some (some (.ref a))) : ER K W' ρ H E σ := ⟨g, f, h.2.2⟩
/-- the readings -/
def tE (K : PySem.W.Frag) (W : WW K) (m : ME) : TE := fun σ H Q => ∃ ρ S E, Rel K ρ S H ∧ ER K W ρ H E σ ∧ Post K (DV K) ρ H Q (fun c dx H' => W.w c dx σ H') (m E S)
def tT (K : PySem.W.Frag) (W : WW K) (m : MT) : TT := fun σ H Q => ∃ ρ S E, Rel K ρ S H ∧ ER K W ρ H E σ ∧ Post K (fun _ _ (b c : Bool) => b = c) ρ H Q (fun c dx H' => W.w c dx σ H') (m E S)
def tA (K : PySem.W.Frag) (W : WW K) (m : MA) : TA := fun σ H Q => ∃ ρ S E, Rel K ρ S H ∧ ER K W ρ H E σ ∧ Post K (DVs K) ρ H Q (fun c dx H' => W.w c dx σ H') (m E S)
def SPost (K : PySem.W.Frag) (W : WW K) (ρ : List Addr) (H : Hp) (D : Ends) : SO → Prop
  | .nx E' S' => ∀ ρ' H' σ', Rel K ρ' S' H' → Ext K ρ H ρ' H' → ER K W ρ' H' E' σ' → D.nx σ' H'
  | .bk E' S' => ∀ ρ' H' σ', Rel K ρ' S' H' → Ext K ρ H ρ' H' → ER K W ρ' H' E' σ' → D.bk σ' H'
  | .ct E' S' => ∀ ρ' H' σ', Rel K ρ' S' H' → Ext K ρ H ρ' H' → ER K W ρ' H' E' σ' → D.ct σ' H'
  | .rt d S' => ∀ ρ' H' v, Rel K ρ' S' H' → Ext K ρ H ρ' H' → DV K ρ' H' d v → D.rt v H'
  | .ex e E' S' => ∀ ρ' H' σ' c dx, Rel K ρ' S' H' → Ext K ρ H ρ' H' → ER K W ρ' H' E' σ' → XR K ρ' H' e c dx → W.w c dx σ' H'
  | .bad => False
theorem SPost.start {K : PySem.W.Frag} {W : WW K} {ρ ρ1 : List Addr} {H H1 : Hp} {D : Ends} {o : SO} (h : SPost K W ρ H D o) (e : Ext K ρ H ρ1 H1) : SPost K W ρ1 H1 D o := by
  cases o with
  | nx E S => exact fun ρ' H' σ' r x => h ρ' H' σ' r (e.trans x)
  | bk E S => exact fun ρ' H' σ' r x => h ρ' H' σ' r (e.trans x)
  | ct E S => exact fun ρ' H' σ' r x => h ρ' H' σ' r (e.trans x)
  | rt d S => exact fun ρ' H' v r x => h ρ' H' v r (e.trans x)
  | ex d E S => exact fun ρ' H' σ' c dx r x => h ρ' H' σ' c dx r (e.trans x)
  | bad => exact h
def tS (K : PySem.W.Frag) (W : WW K) (m : MS) : TS := fun D σ H => ∃ ρ S E, Rel K ρ S H ∧ ER K W ρ H E σ ∧ SPost K W ρ H D (m E S)
/-- from an expression's outcome to a statement's -/
theorem SPost.bind {α β : Type} {K : PySem.W.Frag} {W : WW K} {R : List Addr → Hp → α → β → Prop} {ρ : List Addr} {H : Hp} {D : Ends} {E : Evn} {σ : L2.St} {o : Out α} {f : α → Sto → SO} (er : ER K W ρ H E σ) (h : SPost K W ρ H D (o.toS E f)) :
    Post K R ρ H (fun v H1 => ∃ ρ1 S1 d, Rel K ρ1 S1 H1 ∧ Ext K ρ H ρ1 H1 ∧ R ρ1 H1 d v ∧ SPost K W ρ1 H1 D (f d S1)) (fun c dx H' => W.w c dx σ H') o := by
  cases o with
  | ok d S => exact fun ρ' H' v r x y => ⟨ρ', S, d, r, x, y, SPost.start h x⟩
  | ex d S => exact fun ρ' H' c dx r x y => h ρ' H' σ c dx r x (er.mono x) y
  | bad => exact h
/-! the judgements -/
def ED (X : Cx) (W : WW X.K) (e : Expr) (m : ME) : Prop := PE X e (tE X.K W m)
def TD (X : Cx) (W : WW X.K) (e : Expr) (m : MT) : Prop := PT X e (tT X.K W m)
def WD (X : Cx) (W : WW X.K) (e : Expr) (m : MT) : Prop := PW X e (tT X.K W m)
def AD (X : Cx) (W : WW X.K) (es : List Expr) (m : MA) : Prop := PA X es (tA X.K W m)
def SD (X : Cx) (W : WW X.K) (st : Stmt) (m : MS) : Prop := PS X st (tS X.K W m)
def BD (X : Cx) (W : WW X.K) (st : List Stmt) (m : MS) : Prop := PSs X st (tS X.K W m)
theorem PE.imp {X : Cx} {e : Expr} {t t' : TE} (h : PE X e t) (i : ∀ σ H Q, t' σ H Q → t σ H Q) : PE X e t' := ⟨fun pins s σ H Q I q => h.run pins s σ H Q I (i _ _ _ q)⟩
theorem PT.imp {X : Cx} {e : Expr} {t t' : TT} (h : PT X e t) (i : ∀ σ H Q, t' σ H Q → t σ H Q) : PT X e t' := ⟨fun pins s σ H Q I q => h.run pins s σ H Q I (i _ _ _ q)⟩
theorem PW.imp {X : Cx} {e : Expr} {t t' : TT} (h : PW X e t) (i : ∀ σ H Q, t' σ H Q → t σ H Q) : PW X e t' := ⟨fun wh pins s σ H Q I q => h.run wh pins s σ H Q I (i _ _ _ q)⟩
theorem PA.imp {X : Cx} {e : List Expr} {t t' : TA} (h : PA X e t) (i : ∀ σ H Q, t' σ H Q → t σ H Q) : PA X e t' := ⟨fun pos pins s σ H Q I q => h.run pos pins s σ H Q I (i _ _ _ q)⟩
theorem PS.imp {X : Cx} {e : Stmt} {t t' : TS} (h : PS X e t) (i : ∀ D σ H, t' D σ H → t D σ H) : PS X e t' := ⟨fun pins s σ H Q I q => h.run pins s σ H Q I (i _ _ _ q)⟩
theorem PSs.imp {X : Cx} {e : List Stmt} {t t' : TS} (h : PSs X e t) (i : ∀ D σ H, t' D σ H → t D σ H) : PSs X e t' := ⟨fun pins s σ H Q I q => h.run pins s σ H Q I (i _ _ _ q)⟩
theorem PI.imp {X : Cx} {tg e : Expr} {t t' : TI} (h : PI X tg e t) (i : ∀ σ H Q, t' σ H Q → t σ H Q) : PI X tg e t' := ⟨fun pins s σ H Q I q => h.run pins s σ H Q I (i _ _ _ q)⟩
end PD

/-! PyD1: expressions. -/
namespace PD
open PySem PySem.Spec PyProof.Rows L2

/-! ### names, constants -/
def mVar (i : Nat) : ME := fun E S => match E[i]? with
  | some (some d) => .ok d S
  | _ => .bad
def mC (d : D) : ME := fun _ S => .ok d S
section
variable {X : Cx} {W : WW X.K} {pos : Pos}
theorem ed_of {e : Expr} {t : TE} {m : ME} (h : PE X e t) (i : ∀ σ H Q ρ S E, Rel X.K ρ S H → ER X.K W ρ H E σ → Post X.K (DV X.K) ρ H Q (fun c dx H' => W.w c dx σ H') (m E S) → t σ H Q) : ED X W e m :=
  PE.imp h fun σ H Q ⟨ρ, S, E, r, er, p⟩ => i σ H Q ρ S E r er p
theorem ed_var {i : Nat} {e : Expr} (h : PE X e (tVar i)) : ED X W e (mVar i) := by
  refine ed_of h fun σ H Q ρ S E r er p => ?_
  unfold mVar at p
  cases q : E[i]? with
  | none => rw [q] at p; exact p.elim
  | some o =>
    cases o with
    | none => rw [q] at p; exact p.elim
    | some d =>
      rw [q] at p
      obtain ⟨v, a, b⟩ := er.2.2.2 i d q
      exact ⟨v, a, p ρ H v r Ext.refl b⟩
theorem ed_c {e : Expr} {v : V} {d : D} (h : PE X e (tC v)) (hd : ∀ ρ H, DV X.K ρ H d v) : ED X W e (mC d) :=
  ed_of h fun σ H Q ρ S E r er p => p ρ H v r Ext.refl (hd ρ H)
theorem ed_int {i : Int} {j : Nat} : ED X W (.Constant (.int i) j pos) (mC (.int i)) := ed_c pe_int fun _ _ => by simp [DV]
theorem ed_bl {b : Bool} {j : Nat} : ED X W (.Constant (.bool b) j pos) (mC (.bl b)) := ed_c pe_bl fun _ _ => by simp [DV]
theorem ed_non {j : Nat} : ED X W (.Constant .none j pos) (mC .non) := ed_c pe_non fun _ _ => by simp [DV]
theorem ed_str {x : Str} {j : Nat} {c : Tx} (hc : x = ⟨c.toArray⟩) : ED X W (.Constant (.str x) j pos) (mC (.str c)) := ed_c pe_str fun _ _ => by simp [DV, sv, hc]
/-- an object of the module's top by its name -/
theorem ed_glo {x : String} (hg : Gl X (x : Str)) (hm : X.mg (x : Str) = some (.ref (He.ga X.K x))) (hd : ((x : Str) == ("__debug__" : Str)) = false := by decide) : ED X W (.Name (x : Str) pos) (mC (.glo x)) :=
  ed_c (pe_glob (v := .ref (He.ga X.K x)) hg hm rfl hd) fun _ _ => by simp [DV]
theorem ed_ty {x : Str} {n : String} (hg : Gl X x) (hm : X.mg x = none) (hv : bootBuiltins x = some (.type n)) (hn : x ≠ "__name__" := by decide) (hd : (x == ("__debug__" : Str)) = false := by decide) : ED X W (.Name x pos) (mC (.ty n)) :=
  ed_c (pe_bltn (v := .ty n) hg hm hv rfl hn hd) fun _ _ => by simp [DV]
/-- a constant of the module's top: GC says what it is -/
def GC (K : PySem.W.Frag) (mg : Str → Option Value) (x : Str) (d : D) : Prop := ∃ u v, mg x = some u ∧ RelV v u ∧ ∀ ρ H, DV K ρ H d v
theorem ed_gc {x : Str} {d : D} (hg : Gl X x) (h : GC X.K X.mg x d) (hd : (x == ("__debug__" : Str)) = false := by decide) : ED X W (.Name x pos) (mC d) := by
  obtain ⟨u, v, h1, h2, h3⟩ := h
  exact ed_c (pe_glob hg h1 h2 hd) h3
/-! ### two expressions in a row -/
def mBin (g : Sto → D → D → Option D) (a b : ME) : ME := fun E S => (a E S).bind fun x S1 => (b E S1).bind fun y S2 => match g S2 x y with
  | some d => .ok d S2
  | none => .bad
/-- an operator by plain data -/
def rP (K : PySem.W.Frag) (g : Sto → D → D → Option D) : R2 := fun x y H Q => ∃ ρ S dx dy d, Rel K ρ S H ∧ DV K ρ H dx x ∧ DV K ρ H dy y ∧ g S dx dy = some d ∧ ∀ ρ' H' v, Rel K ρ' S H' → Ext K ρ H ρ' H' → DV K ρ' H' d v → Q v H'
theorem post_opt {K : PySem.W.Frag} {ρ : List Addr} {H : Hp} {Q : V → Hp → Prop} {Z : XQ} {S : Sto} {o : Option D} (p : Post K (DV K) ρ H Q Z (match o with | some d => Out.ok d S | none => Out.bad)) :
    ∃ d, o = some d ∧ ∀ ρ' H' v, Rel K ρ' S H' → Ext K ρ H ρ' H' → DV K ρ' H' d v → Q v H' := by
  cases o with
  | none => exact p.elim
  | some d => exact ⟨d, rfl, p⟩
variable {a b : Expr} {ma mb : ME} {g : Sto → D → D → Option D}
theorem bin_read {r : R2} (hr : ∀ x y H Q, rP X.K g x y H Q → r x y H Q) : ∀ σ H Q ρ S E, Rel X.K ρ S H → ER X.K W ρ H E σ → Post X.K (DV X.K) ρ H Q (fun c dx H' => W.w c dx σ H') (mBin g ma mb E S) → tOp r (tE X.K W ma) (tE X.K W mb) σ H Q := by
  intro σ H Q ρ S E re er p
  refine ⟨ρ, S, E, re, er, (Post.bind (R := DV X.K) p).imp fun x H1 ⟨ρ1, S1, dx, r1, e1, d1, p1⟩ => ?_⟩
  refine ⟨ρ1, S1, E, r1, er.mono e1, (Post.bind (R := DV X.K) p1).imp fun y H2 ⟨ρ2, S2, dy, r2, e2, d2, p2⟩ => ?_⟩
  obtain ⟨d, hd, q⟩ := post_opt p2
  exact hr _ _ _ _ ⟨ρ2, S2, dx, dy, d, r2, DV.mono e2 _ _ d1, d2, hd, q⟩
theorem ed_bin {op : Operator} {r : R2} (ho : OpR X (binaryOp op) r) (hr : ∀ x y H Q, rP X.K g x y H Q → r x y H Q) (ha : ED X W a ma) (hb : ED X W b mb) : ED X W (.BinOp a op b pos) (mBin g ma mb) :=
  ed_of (pe_op ho ha hb) (bin_read hr)
theorem ed_cmp {op : CmpOp} {r : R2} (ho : OpR X (compareOp op) r) (hr : ∀ x y H Q, rP X.K g x y H Q → r x y H Q) (ha : ED X W a ma) (hb : ED X W b mb) (hm : behindInMarks op b = false) : ED X W (.Compare a [op] [b] pos) (mBin g ma mb) :=
  ed_of (pe_cmpR ho ha hb hm) (bin_read hr)
/-- the test of a comparison -/
def asB (m : ME) : MT := fun E S => (m E S).bind fun d S1 => match d with
  | .bl b => .ok b S1
  | _ => .bad
theorem td_of {e : Expr} {t : TT} {m : MT} (h : PT X e t) (i : ∀ σ H Q ρ S E, Rel X.K ρ S H → ER X.K W ρ H E σ → Post X.K (fun _ _ (b c : Bool) => b = c) ρ H Q (fun c dx H' => W.w c dx σ H') (m E S) → t σ H Q) : TD X W e m :=
  PT.imp h fun σ H Q ⟨ρ, S, E, r, er, p⟩ => i σ H Q ρ S E r er p
theorem asB_read {m : ME} {t : TE} (ht : ∀ σ H Q, tE X.K W m σ H Q → t σ H Q) : ∀ σ H Q ρ S E, Rel X.K ρ S H → ER X.K W ρ H E σ → Post X.K (fun _ _ (b c : Bool) => b = c) ρ H Q (fun c dx H' => W.w c dx σ H') (asB m E S) → t σ H (fun x H' => ∃ k, x = .bl k ∧ Q k H') := by
  intro σ H Q ρ S E r er p
  refine ht _ _ _ ⟨ρ, S, E, r, er, (Post.bind (R := DV X.K) p).imp fun x H1 ⟨ρ1, S1, d, r1, e1, d1, p1⟩ => ?_⟩
  cases d with
  | bl k =>
    simp only [DV] at d1
    exact ⟨k, d1, p1 ρ1 H1 k r1 Ext.refl rfl⟩
  | _ => exact p1.elim
theorem td_cmp {op : CmpOp} {r : R2} (ho : OpR X (compareOp op) r) (hr : ∀ x y H Q, rP X.K g x y H Q → r x y H Q) (ha : ED X W a ma) (hb : ED X W b mb) (hm : behindInMarks op b = false) : TD X W (.Compare a [op] [b] pos) (asB (mBin g ma mb)) :=
  td_of (pt_cmpR ho ha hb hm) (asB_read fun σ H Q ⟨ρ, S, E, r, er, p⟩ => bin_read hr σ H Q ρ S E r er p)
theorem td_val {e : Expr} {m : ME} (h : ED X W e m) (he : ∀ whole, isTrue e X.env whole = (do let v ← whole; standAt e.pos; holding [v] (truthy v)) := by intro _; rfl) : TD X W e (asB m) :=
  td_of (pt_val h he) (asB_read fun σ H Q q => q)
/-! and, or, not as tests -/
def mAnd (a b : MT) : MT := fun E S => (a E S).bind fun x S1 => if x = true then b E S1 else .ok false S1
def mOr (a b : MT) : MT := fun E S => (a E S).bind fun x S1 => if x = true then .ok true S1 else b E S1
def mNot (a : MT) : MT := fun E S => (a E S).bind fun x S1 => .ok (!x) S1
variable {ta tb : MT} {rest : List Expr}
theorem and_read : ∀ σ H Q ρ S E, Rel X.K ρ S H → ER X.K W ρ H E σ → Post X.K (fun _ _ (b c : Bool) => b = c) ρ H Q (fun c dx H' => W.w c dx σ H') (mAnd ta tb E S) → tAnd (tT X.K W ta) (tT X.K W tb) σ H Q := by
  intro σ H Q ρ S E r er p
  refine ⟨ρ, S, E, r, er, (Post.bind (R := fun _ _ (b c : Bool) => b = c) p).imp fun x H1 ⟨ρ1, S1, d, r1, e1, d1, p1⟩ => ?_⟩
  subst d1
  cases d with
  | true => rw [if_pos rfl] at p1 ⊢; exact ⟨ρ1, S1, E, r1, er.mono e1, p1⟩
  | false => rw [if_neg (by simp)] at p1 ⊢; exact p1 ρ1 H1 false r1 Ext.refl rfl
theorem or_read : ∀ σ H Q ρ S E, Rel X.K ρ S H → ER X.K W ρ H E σ → Post X.K (fun _ _ (b c : Bool) => b = c) ρ H Q (fun c dx H' => W.w c dx σ H') (mOr ta tb E S) → tOr (tT X.K W ta) (tT X.K W tb) σ H Q := by
  intro σ H Q ρ S E r er p
  refine ⟨ρ, S, E, r, er, (Post.bind (R := fun _ _ (b c : Bool) => b = c) p).imp fun x H1 ⟨ρ1, S1, d, r1, e1, d1, p1⟩ => ?_⟩
  subst d1
  cases d with
  | true => rw [if_pos rfl] at p1 ⊢; exact p1 ρ1 H1 true r1 Ext.refl rfl
  | false => rw [if_neg (by simp)] at p1 ⊢; exact ⟨ρ1, S1, E, r1, er.mono e1, p1⟩
theorem wd_and1 (ha : TD X W a ta) : WD X W (.BoolOp .And [a] pos) ta := pw_and1 ha
theorem wd_or1 (ha : TD X W a ta) : WD X W (.BoolOp .Or [a] pos) ta := pw_or1 ha
theorem wd_and (ha : TD X W a ta) (hb : WD X W (.BoolOp .And (b :: rest) pos) tb) : WD X W (.BoolOp .And (a :: b :: rest) pos) (mAnd ta tb) :=
  PW.imp (pw_and ha hb) fun σ H Q ⟨ρ, S, E, r, er, p⟩ => and_read σ H Q ρ S E r er p
theorem wd_or (ha : TD X W a ta) (hb : WD X W (.BoolOp .Or (b :: rest) pos) tb) : WD X W (.BoolOp .Or (a :: b :: rest) pos) (mOr ta tb) :=
  PW.imp (pw_or ha hb) fun σ H Q ⟨ρ, S, E, r, er, p⟩ => or_read σ H Q ρ S E r er p
theorem td_w (h : WD X W a ta) : TD X W a ta := PW.pt h
theorem td_not (ha : TD X W a ta) : TD X W (.UnaryOp .Not a pos) (mNot ta) := by
  refine td_of (pt_not ha) fun σ H Q ρ S E r er p => ?_
  refine ⟨ρ, S, E, r, er, (Post.bind (R := fun _ _ (b c : Bool) => b = c) p).imp fun x H1 ⟨ρ1, S1, d, r1, e1, d1, p1⟩ => ?_⟩
  subst d1
  exact p1 ρ1 H1 _ r1 Ext.refl rfl
/-! and, or, not as values (of truths) -/
def mAndV (a b : ME) : ME := fun E S => (a E S).bind fun x S1 => match x with
  | .bl true => b E S1
  | .bl false => .ok (.bl false) S1
  | _ => .bad
def mOrV (a b : ME) : ME := fun E S => (a E S).bind fun x S1 => match x with
  | .bl true => .ok (.bl true) S1
  | .bl false => b E S1
  | _ => .bad
def mNotV (a : ME) : ME := fun E S => (a E S).bind fun x S1 => match x with
  | .bl b => .ok (.bl (!b)) S1
  | _ => .bad
theorem ed_one {op : BoolOp} {m : ME} (h : ED X W a m) : ED X W (.BoolOp op [a] pos) m := pe_one h
theorem ed_and (ha : ED X W a ma) (hb : ED X W (.BoolOp .And (b :: rest) pos) mb) : ED X W (.BoolOp .And (a :: b :: rest) pos) (mAndV ma mb) := by
  refine ed_of (pe_and ha hb) fun σ H Q ρ S E r er p => ?_
  refine ⟨ρ, S, E, r, er, (Post.bind (R := DV X.K) p).imp fun x H1 ⟨ρ1, S1, d, r1, e1, d1, p1⟩ => ?_⟩
  cases d with
  | bl k =>
    simp only [DV] at d1
    refine ⟨k, d1, ?_⟩
    cases k with
    | true => rw [if_pos rfl]; exact ⟨ρ1, S1, E, r1, er.mono e1, p1⟩
    | false => rw [if_neg (by simp)]; exact p1 ρ1 H1 _ r1 Ext.refl (by simp [DV])
  | _ => exact p1.elim
theorem ed_or (ha : ED X W a ma) (hb : ED X W (.BoolOp .Or (b :: rest) pos) mb) : ED X W (.BoolOp .Or (a :: b :: rest) pos) (mOrV ma mb) := by
  refine ed_of (pe_or ha hb) fun σ H Q ρ S E r er p => ?_
  refine ⟨ρ, S, E, r, er, (Post.bind (R := DV X.K) p).imp fun x H1 ⟨ρ1, S1, d, r1, e1, d1, p1⟩ => ?_⟩
  cases d with
  | bl k =>
    simp only [DV] at d1
    refine ⟨k, d1, ?_⟩
    cases k with
    | true => rw [if_pos rfl]; exact p1 ρ1 H1 _ r1 Ext.refl (by simp [DV])
    | false => rw [if_neg (by simp)]; exact ⟨ρ1, S1, E, r1, er.mono e1, p1⟩
  | _ => exact p1.elim
theorem ed_not (ha : ED X W a ma) : ED X W (.UnaryOp .Not a pos) (mNotV ma) := by
  refine ed_of (pe_not ha) fun σ H Q ρ S E r er p => ?_
  refine ⟨ρ, S, E, r, er, (Post.bind (R := DV X.K) p).imp fun x H1 ⟨ρ1, S1, d, r1, e1, d1, p1⟩ => ?_⟩
  cases d with
  | bl k =>
    simp only [DV] at d1
    exact ⟨k, d1, p1 ρ1 H1 _ r1 Ext.refl (by simp [DV])⟩
  | _ => exact p1.elim
def mIfE (c : MT) (a b : ME) : ME := fun E S => (c E S).bind fun x S1 => if x = true then a E S1 else b E S1
theorem ed_if {c : Expr} {mc : MT} (hc : TD X W c mc) (ha : ED X W a ma) (hb : ED X W b mb) : ED X W (.IfExp c a b pos) (mIfE mc ma mb) := by
  refine ed_of (pe_ifExp hc ha hb) fun σ H Q ρ S E r er p => ?_
  refine ⟨ρ, S, E, r, er, (Post.bind (R := fun _ _ (b c : Bool) => b = c) p).imp fun x H1 ⟨ρ1, S1, d, r1, e1, d1, p1⟩ => ?_⟩
  subst d1
  cases d with
  | true => rw [if_pos rfl] at p1 ⊢; exact ⟨ρ1, S1, E, r1, er.mono e1, p1⟩
  | false => rw [if_neg (by simp)] at p1 ⊢; exact ⟨ρ1, S1, E, r1, er.mono e1, p1⟩
/-! ### one operand -/
def mUn (g : Sto → D → Option D) (a : ME) : ME := fun E S => (a E S).bind fun x S1 => match g S1 x with
  | some d => .ok d S1
  | none => .bad
def rP1 (K : PySem.W.Frag) (g : Sto → D → Option D) : V → Hp → VK → Prop := fun x H Q => ∃ ρ S dx d, Rel K ρ S H ∧ DV K ρ H dx x ∧ g S dx = some d ∧ ∀ ρ' H' v, Rel K ρ' S H' → Ext K ρ H ρ' H' → DV K ρ' H' d v → Q v H'
theorem ed_un {op : UnaryOp} {r : V → Hp → VK → Prop} {g : Sto → D → Option D} (ho : UnR X (unaryOp op) r) (hr : ∀ x H Q, rP1 X.K g x H Q → r x H Q) (ha : ED X W a ma) : ED X W (.UnaryOp op a pos) (mUn g ma) := by
  refine ed_of (pe_un ho ha) fun σ H Q ρ S E r er p => ?_
  refine ⟨ρ, S, E, r, er, (Post.bind (R := DV X.K) p).imp fun x H1 ⟨ρ1, S1, d, r1, e1, d1, p1⟩ => ?_⟩
  obtain ⟨u, hu, q⟩ := post_opt p1
  exact hr _ _ _ ⟨ρ1, S1, d, u, r1, d1, hu, q⟩
/-! ### rows of expressions -/
def mNil : MA := fun _ S => .ok [] S
def mCons (a : ME) (r : MA) : MA := fun E S => (a E S).bind fun x S1 => (r E S1).bind fun xs S2 => .ok (x :: xs) S2
theorem ad_nil : AD X W [] mNil := PA.imp pa_nil fun σ H Q ⟨ρ, S, E, r, er, p⟩ => p ρ H [] r Ext.refl (by simp [DVs])
theorem ad_cons {e : Expr} {es : List Expr} {m : ME} {ms : MA} (h : ED X W e m) (hr : AD X W es ms) (hs : starEach (e :: es) X.env = (false, eval e X.env) :: starEach es X.env := by rfl) : AD X W (e :: es) (mCons m ms) := by
  refine PA.imp (pa_cons h hr hs) fun σ H Q ⟨ρ, S, E, r, er, p⟩ => ?_
  refine ⟨ρ, S, E, r, er, (Post.bind (R := DV X.K) p).imp fun x H1 ⟨ρ1, S1, d, r1, e1, d1, p1⟩ => ?_⟩
  refine ⟨ρ1, S1, E, r1, er.mono e1, (Post.bind (R := DVs X.K) p1).imp fun xs H2 ⟨ρ2, S2, ds, r2, e2, d2, p2⟩ => ?_⟩
  exact p2 ρ2 H2 (x :: xs) r2 Ext.refl (by simp only [DVs]; exact ⟨x, xs, rfl, DV.mono e2 _ _ d1, d2⟩)
/-! new things -/
theorem rd_none {H : Hp} {a p : Addr} {u : HO} (hp : H p = none) (h : Rd H a u) : a ≠ p := fun z => by
  subst z
  rcases h with h | ⟨o, h⟩ <;> rw [hp] at h <;> cases h
theorem Rd.upd {H : Hp} {a p : Addr} {u o : HO} (hne : a ≠ p) (h : Rd H a u) : Rd (upd H p o) a u := by
  unfold Rd
  rw [upd_ne hne]
  exact h
/-- a thing is laid anew and not tracked -/
theorem Ext.new {K : PySem.W.Frag} {ρ : List Addr} {H : Hp} {p : Addr} {o : HO} (hp : H p = none) : Ext K ρ H ρ (upd H p o) :=
  ⟨⟨[], by simp⟩, fun a vs h => h.imp (fun h => Rd.upd (rd_none hp h) h) id, fun a vs h g => ⟨h, by rw [upd_ne (ne_of_none g hp)]; exact g⟩, fun a u vs h => by rw [upd_ne (ne_of_none h hp)]; exact h, fun a fs h => by rw [upd_ne (ne_of_none h hp)]; exact h⟩
theorem OR.mono {K : PySem.W.Frag} {ρ ρ' : List Addr} {H H' : Hp} (e : Ext K ρ H ρ' H') {a : Addr} {o : Ob} (h : OR K ρ H a o) (k : ∀ u, H a = some u → H' a = some u) : OR K ρ' H' a o := by
  cases o with
  | lst xs => obtain ⟨vs, h1, h2⟩ := h; exact ⟨vs, k _ h1, DVs.mono e _ _ h2⟩
  | dic xs => obtain ⟨vs, h1, h2⟩ := h; exact ⟨vs, k _ h1, KVR.mono e _ _ h2⟩
  | set S n => exact k _ h
  | ins c N fs => obtain ⟨dx, vs, h1, h2⟩ := h; exact ⟨dx, vs, k _ h1, DVs.mono e _ _ h2⟩
theorem OR.some {K : PySem.W.Frag} {ρ : List Addr} {H : Hp} {a : Addr} {o : Ob} (h : OR K ρ H a o) : ∃ u, H a = some u := by
  cases o with
  | lst xs => obtain ⟨vs, h1, h2⟩ := h; exact ⟨_, h1⟩
  | dic xs => obtain ⟨vs, h1, h2⟩ := h; exact ⟨_, h1⟩
  | set S n => exact ⟨_, h⟩
  | ins c N fs => obtain ⟨dx, vs, h1, h2⟩ := h; exact ⟨_, h1⟩
theorem Rel.mem {K : PySem.W.Frag} {ρ : List Addr} {S : Sto} {H : Hp} (r : Rel K ρ S H) {a : Addr} (h : a ∈ ρ) : ∃ u, H a = some u := by
  obtain ⟨n, hn, e⟩ := List.getElem_of_mem h
  have h2 : n < S.length := by rw [← r.len]; exact hn
  exact (r.at_ n S[n] a (List.getElem?_eq_getElem h2) (by rw [List.getElem?_eq_getElem hn, e])).some
theorem Rel.new {K : PySem.W.Frag} {ρ : List Addr} {S : Sto} {H : Hp} (r : Rel K ρ S H) {p : Addr} {o : HO} (hp : H p = none) : Rel K ρ S (upd H p o) :=
  ⟨r.len, r.nd, fun n u a h1 h2 => (r.at_ n u a h1 h2).mono (Ext.new hp) fun w hw => by rw [upd_ne (ne_of_none hw hp)]; exact hw⟩
theorem Rel.notin {K : PySem.W.Frag} {ρ : List Addr} {S : Sto} {H : Hp} (r : Rel K ρ S H) {p : Addr} (hp : H p = none) : p ∉ ρ := fun h => by
  obtain ⟨u, e⟩ := r.mem h
  rw [hp] at e
  cases e
open Classical in
noncomputable def mTup (a : MA) : ME := fun E S => (a E S).bind fun xs S1 => if sizeOk (xs.length) then .ok (.tup xs) S1 else .bad
/- a list that is never changed -/
open Classical in
noncomputable def mLst (a : MA) : ME := fun E S => (a E S).bind fun xs S1 => if sizeOk (xs.length) then .ok (.lst xs) S1 else .bad
/- a list that may change -/
open Classical in
noncomputable def mLoc (a : MA) : ME := fun E S => (a E S).bind fun xs S1 => if sizeOk (xs.length) then .ok (.loc S1.length) (S1 ++ [.lst xs]) else .bad
theorem dv_tup {K : PySem.W.Frag} {ρ : List Addr} {H : Hp} {p : Addr} {xs : List D} {vs : List V} (hp : H p = none) (h : DVs K ρ H xs vs) : DV K ρ (upd H p (.tup vs)) (.tup xs) (.ref p) := by
  simp only [DV]
  exact ⟨p, vs, rfl, SqT.of upd_same, DVs.mono (Ext.new hp) _ _ h⟩
theorem dv_lst {K : PySem.W.Frag} {ρ : List Addr} {H : Hp} {p : Addr} {xs : List D} {vs : List V} (hp : H p = none) (hn : p ∉ ρ) (h : DVs K ρ H xs vs) : DV K ρ (upd H p (.lst vs)) (.lst xs) (.ref p) := by
  simp only [DV]
  exact ⟨p, vs, rfl, ⟨hn, upd_same⟩, DVs.mono (Ext.new hp) _ _ h⟩
theorem Ext.alloc {K : PySem.W.Frag} {ρ : List Addr} {H : Hp} {p : Addr} {o : HO} (hp : H p = none) : Ext K ρ H (ρ ++ [p]) (upd H p o) :=
  ⟨⟨[p], rfl⟩, fun a vs h => h.imp (fun h => Rd.upd (rd_none hp h) h) id, fun a vs h g => ⟨by simp [h, ne_of_none g hp], by rw [upd_ne (ne_of_none g hp)]; exact g⟩, fun a u vs h => by rw [upd_ne (ne_of_none h hp)]; exact h, fun a fs h => by rw [upd_ne (ne_of_none h hp)]; exact h⟩
theorem Rel.alloc {K : PySem.W.Frag} {ρ : List Addr} {S : Sto} {H : Hp} (r : Rel K ρ S H) {p : Addr} {o : HO} {u : Ob} (hp : H p = none) (h : OR K (ρ ++ [p]) (upd H p o) p u) : Rel K (ρ ++ [p]) (S ++ [u]) (upd H p o) := by
  refine ⟨by simp [r.len], ?_, fun n w a h1 h2 => ?_⟩
  · rw [List.nodup_append]
    refine ⟨r.nd, by simp, fun x hx y hy z => ?_⟩
    simp only [List.mem_singleton] at hy
    subst hy z
    exact r.notin hp hx
  · by_cases hn : n < S.length
    · rw [List.getElem?_append_left hn] at h1
      rw [List.getElem?_append_left (by rw [r.len]; exact hn)] at h2
      exact (r.at_ n w a h1 h2).mono (Ext.alloc hp) fun q hq => by rw [upd_ne (ne_of_none hq hp)]; exact hq
    · have hn2 : n = S.length := by
        have := (List.getElem?_eq_some_iff.mp h1).1
        simp only [List.length_append, List.length_singleton] at this
        omega
      subst hn2
      rw [List.getElem?_append_right (Nat.le_refl _), Nat.sub_self] at h1
      rw [List.getElem?_append_right (by rw [r.len]; exact Nat.le_refl _), r.len, Nat.sub_self] at h2
      simp only [List.getElem?_cons_zero, Option.some.injEq] at h1 h2
      subst h1 h2
      exact h
theorem dv_loc {K : PySem.W.Frag} {ρ : List Addr} {S : Sto} {H H' : Hp} (r : Rel K ρ S H) {p : Addr} : DV K (ρ ++ [p]) H' (.loc S.length) (.ref p) := by
  simp only [DV]
  exact ⟨p, rfl, by rw [List.getElem?_append_right (by rw [r.len]; exact Nat.le_refl _), r.len, Nat.sub_self]; rfl⟩
variable {es : List Expr} {ms : MA}
theorem ed_tup {x1} (h : AD X W es ms) : ED X W (.Tuple es x1 pos) (mTup ms) := by
  refine ed_of (pe_tup h) fun σ H Q ρ S E r er p => ?_
  refine ⟨ρ, S, E, r, er, (Post.bind (R := DVs X.K) p).imp fun vs H1 ⟨ρ1, S1, ds, r1, e1, d1, p1⟩ => ?_⟩
  by_cases hl : sizeOk (ds.length)
  · rw [if_pos hl] at p1
    exact ⟨by rw [← d1.length]; exact hl, fun q hq => p1 ρ1 _ _ (r1.new hq) (Ext.new hq) (dv_tup hq d1)⟩
  · rw [if_neg hl] at p1; exact p1.elim
theorem ed_lst (h : AD X W es ms) : ED X W (.List es pos) (mLst ms) := by
  refine ed_of (pe_lst h) fun σ H Q ρ S E r er p => ?_
  refine ⟨ρ, S, E, r, er, (Post.bind (R := DVs X.K) p).imp fun vs H1 ⟨ρ1, S1, ds, r1, e1, d1, p1⟩ => ?_⟩
  by_cases hl : sizeOk (ds.length)
  · rw [if_pos hl] at p1
    exact ⟨by rw [← d1.length]; exact hl, fun q hq => p1 ρ1 _ _ (r1.new hq) (Ext.new hq) (dv_lst hq (r1.notin hq) d1)⟩
  · rw [if_neg hl] at p1; exact p1.elim
theorem ed_loc (h : AD X W es ms) : ED X W (.List es pos) (mLoc ms) := by
  refine ed_of (pe_lst h) fun σ H Q ρ S E r er p => ?_
  refine ⟨ρ, S, E, r, er, (Post.bind (R := DVs X.K) p).imp fun vs H1 ⟨ρ1, S1, ds, r1, e1, d1, p1⟩ => ?_⟩
  by_cases hl : sizeOk (ds.length)
  · rw [if_pos hl] at p1
    refine ⟨by rw [← d1.length]; exact hl, fun q hq => p1 (ρ1 ++ [q]) _ _ (r1.alloc hq ⟨vs, upd_same, DVs.mono (Ext.alloc hq) _ _ d1⟩) (Ext.alloc hq) (dv_loc r1)⟩
  · rw [if_neg hl] at p1; exact p1.elim
/-! ### calls -/
def mCall (f : MF) (a : MA) : ME := fun E S => (a E S).bind fun ds S1 => f ds S1
/-- a def's promise by plain data -/
def spM (K : PySem.W.Frag) (n : Nat) (m : MF) : Sp := fun vs H Q E => ∃ ρ S ds, Rel K ρ S H ∧ DVs K ρ H ds vs ∧ ds.length = n ∧ Post K (DV K) ρ H Q E (m ds S)
structure CallF (P : Program) (w : World) (K : PySem.W.Frag) (mg : Str → Option Value) (base : Heap) (k : Nat) (x : Str) (n : Nat) (m : MF) : Prop where
  ex : ∃ f fd ps, FnOk P w K mg base (L2.CX P w) k f fd ps (spM K n m) ∧ mg x = some (.ref f) ∧ PySem.W.keepIn K (.ref f) = true ∧ Binds K fd ps []
theorem ed_call {x : Str} {n k : Nat} {m : MF} {p : Pos} {e : Expr} (c : CallF X.prog X.w X.K X.mg X.base k x n m) (hr : Room k X.A) (tk : Takes X W.w) (hg : Gl X x) (ha : AD X W (e :: es) ms)
    (hl : ∀ E S ds S', ms E S = .ok ds S' → ds.length = n) (hdb : (x == ("__debug__" : Str)) = false := by decide) (he : starEach (e :: es) X.env = (false, eval e X.env) :: starEach es X.env := by rfl) (hpl : (backTo pos (starEach es X.env)).any (·.1) = false := by rfl) :
    ED X W (.Call (.Name x p) (e :: es) [] pos) (mCall m ms) := by
  obtain ⟨f, fd, ps, F, hm, hk, hb⟩ := c.ex
  refine ed_of (pe_callSD (E := fun σ c dx H => W.w c dx σ H) F hr hg hm hk hb .nil (fun σ => passAt tk σ) ha hdb he hpl) fun σ H Q ρ S E r er p => ?_
  refine ⟨ρ, S, E, r, er, ?_⟩
  have hl' := hl E S
  unfold mCall at p
  cases q : ms E S with
  | bad => rw [q] at p; exact p.elim
  | ex e S' => rw [q] at p; exact p
  | ok ds S' =>
    rw [q] at p
    have hn := hl' ds S' q
    intro ρ1 H1 vs r1 e1 d1
    rw [List.append_nil]
    exact ⟨ρ1, S', ds, r1, d1, hn, p.start e1⟩
theorem len_nil : ∀ E S ds S', mNil E S = .ok ds S' → ds.length = 0 := fun E S ds S' h => by cases h; rfl
theorem len_cons {a : ME} {r : MA} {n : Nat} (h : ∀ E S ds S', r E S = .ok ds S' → ds.length = n) : ∀ E S ds S', mCons a r E S = .ok ds S' → ds.length = n + 1 := fun E S ds S' q => by
  unfold mCons at q
  cases e1 : a E S with
  | bad => rw [e1] at q; cases q
  | ex e S1 => rw [e1] at q; cases q
  | ok x S1 =>
    rw [e1] at q
    cases e2 : r E S1 with
    | bad => rw [bind_ok, e2] at q; cases q
    | ex e S2 => rw [bind_ok, e2] at q; cases q
    | ok xs S2 =>
      rw [bind_ok, e2] at q
      cases q
      simp [h E S1 xs _ e2]
/-! built-ins of values: g reads the store -/
def mB (g : Sto → List D → Option D) (a : MA) : ME := fun E S => (a E S).bind fun xs S1 => match g S1 xs with
  | some d => .ok d S1
  | none => .bad
def rPB (K : PySem.W.Frag) (g : Sto → List D → Option D) : List V → Hp → VK → Prop := fun vs H Q => ∃ ρ S ds d, Rel K ρ S H ∧ DVs K ρ H ds vs ∧ g S ds = some d ∧ ∀ ρ' H' v, Rel K ρ' S H' → Ext K ρ H ρ' H' → DV K ρ' H' d v → Q v H'
theorem b_read {g : Sto → List D → Option D} {r : List V → Hp → VK → Prop} (hr : ∀ vs H Q, rPB X.K g vs H Q → r vs H Q) : ∀ σ H Q ρ S E, Rel X.K ρ S H → ER X.K W ρ H E σ → Post X.K (DV X.K) ρ H Q (fun c dx H' => W.w c dx σ H') (mB g ms E S) → tCB r (tA X.K W ms) σ H Q := by
  intro σ H Q ρ S E re er p
  refine ⟨ρ, S, E, re, er, (Post.bind (R := DVs X.K) p).imp fun vs H1 ⟨ρ1, S1, ds, r1, e1, d1, p1⟩ => ?_⟩
  obtain ⟨d, hd, q⟩ := post_opt p1
  exact hr _ _ _ ⟨ρ1, S1, ds, d, r1, d1, hd, q⟩
theorem ed_callB {x : Str} {id : String} {r : List V → Hp → VK → Prop} {g : Sto → List D → Option D} {e : Expr} {p : Pos} (hc : CallR X (.builtin id) r) (hr : ∀ vs H Q, rPB X.K g vs H Q → r vs H Q) (hg : Gl X x) (hm : X.mg x = none) (hv : bootBuiltins x = some (.builtin id)) (ha : AD X W (e :: es) ms)
    (hn : x ≠ "__name__" := by decide) (hdb : (x == ("__debug__" : Str)) = false := by decide) (he : starEach (e :: es) X.env = (false, eval e X.env) :: starEach es X.env := by rfl) (hpl : (backTo pos (starEach es X.env)).any (·.1) = false := by rfl) :
    ED X W (.Call (.Name x p) (e :: es) [] pos) (mB g ms) := by
  first
    | exact ed_of (pe_callB hc hg hm hv ha hn hdb he hpl) (b_read hr)
    | exact ed_of (pe_callB hc hg hm hv ha hn hdb) (b_read hr)
theorem ed_callTy {x : Str} {T : String} {r : List V → Hp → VK → Prop} {g : Sto → List D → Option D} {e : Expr} {p : Pos} (hc : CallR X (.type T) r) (hr : ∀ vs H Q, rPB X.K g vs H Q → r vs H Q) (hg : Gl X x) (hm : X.mg x = none) (hv : bootBuiltins x = some (.type T)) (ha : AD X W (e :: es) ms)
    (hn : x ≠ "__name__" := by decide) (hdb : (x == ("__debug__" : Str)) = false := by decide) (he : starEach (e :: es) X.env = (false, eval e X.env) :: starEach es X.env := by rfl) (hpl : (backTo pos (starEach es X.env)).any (·.1) = false := by rfl) :
    ED X W (.Call (.Name x p) (e :: es) [] pos) (mB g ms) := by
  first
    | exact ed_of (pe_callTy hc hg hm hv ha hn hdb he hpl) (b_read hr)
    | exact ed_of (pe_callTy hc hg hm hv ha hn hdb) (b_read hr)
/-! items, slices -/
theorem ed_ix {r : R2} (hi : IxR X r) (hr : ∀ x y H Q, rP X.K g x y H Q → r x y H Q) (ha : ED X W a ma) (hb : ED X W b mb) (hs : PlainIx b) : ED X W (.Subscript a b pos) (mBin g ma mb) :=
  ed_of (pe_ix hi ha hb hs) (bin_read hr)
abbrev MO := Evn → Sto → Out (Option Int)
def mNoPart : MO := fun _ S => .ok none S
def mPart (a : ME) : MO := fun E S => (a E S).bind fun d S1 => match d with
  | .int i => .ok (some i) S1
  | _ => .bad
def tO (K : PySem.W.Frag) (W : WW K) (m : MO) : TO := fun σ H Q => ∃ ρ S E, Rel K ρ S H ∧ ER K W ρ H E σ ∧ Post K (fun _ _ (b c : Option Int) => b = c) ρ H Q (fun c dx H' => W.w c dx σ H') (m E S)
def OD (X : Cx) (W : WW X.K) (e : Option Expr) (m : MO) : Prop := PO X e (tO X.K W m)
theorem PO.imp {X : Cx} {e : Option Expr} {t t' : TO} (h : PO X e t) (i : ∀ σ H Q, t' σ H Q → t σ H Q) : PO X e t' := ⟨fun pins s σ H Q I q => h.run pins s σ H Q I (i _ _ _ q)⟩
theorem od_none : OD X W none mNoPart := PO.imp po_none fun σ H Q ⟨ρ, S, E, r, er, p⟩ => p ρ H none r Ext.refl rfl
theorem od_some {e : Expr} {m : ME} (h : ED X W e m) : OD X W (some e) (mPart m) := by
  refine PO.imp (po_some h) fun σ H Q ⟨ρ, S, E, r, er, p⟩ => ?_
  refine ⟨ρ, S, E, r, er, (Post.bind (R := DV X.K) p).imp fun x H1 ⟨ρ1, S1, d, r1, e1, d1, p1⟩ => ?_⟩
  cases d with
  | int i => simp only [DV] at d1; exact ⟨i, d1, p1 ρ1 H1 _ r1 Ext.refl rfl⟩
  | _ => exact p1.elim
def mSl (g : Sto → D → Option Int → Option Int → Option D) (a : ME) (lo hi : MO) : ME := fun E S => (a E S).bind fun x S1 => (lo E S1).bind fun l S2 => (hi E S2).bind fun u S3 => match g S3 x l u with
  | some d => .ok d S3
  | none => .bad
def rPS (K : PySem.W.Frag) (g : Sto → D → Option Int → Option Int → Option D) : V → Option Int → Option Int → Hp → VK → Prop := fun x lo hi H Q => ∃ ρ S dx d, Rel K ρ S H ∧ DV K ρ H dx x ∧ g S dx lo hi = some d ∧ ∀ ρ' H' v, Rel K ρ' S H' → Ext K ρ H ρ' H' → DV K ρ' H' d v → Q v H'
theorem ed_sl {lo hi : Option Expr} {ml mh : MO} {p2 : Pos} {r : V → Option Int → Option Int → Hp → VK → Prop} {g : Sto → D → Option Int → Option Int → Option D} (hsl : SlR X r) (hr : ∀ x l u H Q, rPS X.K g x l u H Q → r x l u H Q) (ha : ED X W a ma) (hl : OD X W lo ml) (hu : OD X W hi mh) :
    ED X W (.Subscript a (.Slice lo hi none p2) pos) (mSl g ma ml mh) := by
  refine ed_of (pe_slice hsl ha hl hu) fun σ H Q ρ S E re er p => ?_
  refine ⟨ρ, S, E, re, er, (Post.bind (R := DV X.K) p).imp fun x H1 ⟨ρ1, S1, dx, r1, e1, d1, p1⟩ => ?_⟩
  refine ⟨ρ1, S1, E, r1, er.mono e1, (Post.bind (R := fun _ _ (b c : Option Int) => b = c) p1).imp fun l H2 ⟨ρ2, S2, dl, r2, e2, d2, p2⟩ => ?_⟩
  subst d2
  refine ⟨ρ2, S2, E, r2, er.mono (e1.trans e2), (Post.bind (R := fun _ _ (b c : Option Int) => b = c) p2).imp fun u H3 ⟨ρ3, S3, du, r3, e3, d3, p3⟩ => ?_⟩
  subst d3
  obtain ⟨d, hd, q⟩ := post_opt p3
  exact hr _ _ _ _ _ ⟨ρ3, S3, dx, d, r3, DV.mono (e2.trans e3) _ _ d1, hd, q⟩
/-! methods of built-in types -/
def mBM (g : Sto → D → List D → Option D) (o : ME) (a : MA) : ME := fun E S => (o E S).bind fun x S1 => (a E S1).bind fun xs S2 => match g S2 x xs with
  | some d => .ok d S2
  | none => .bad
end
end PD

/-! PyD2: statements. -/
namespace PD
open PySem PySem.Spec PyProof.Rows L2

def mSeq (a b : MS) : MS := fun E S => match a E S with
  | .nx E' S' => b E' S'
  | r => r
def mSkip : MS := fun E S => .nx E S
def mBreak : MS := fun E S => .bk E S
def mCont : MS := fun E S => .ct E S
def mIf (c : MT) (a b : MS) : MS := fun E S => (c E S).toS E fun x S1 => if x = true then a E S1 else b E S1
def mRet (a : ME) : MS := fun E S => (a E S).toS E fun d S1 => .rt d S1
def mRetN : MS := fun _ S => .rt .non S
def mDrop (a : ME) : MS := fun E S => (a E S).toS E fun _ S1 => .nx E S1
abbrev MG := D → Evn → Sto → Out Evn
abbrev MGs := List D → Evn → Sto → Out Evn
def gN (i : Nat) : MG := fun d E S => .ok (E.set i (some d)) S
def gsNil : MGs := fun ds E S => match ds with
  | [] => .ok E S
  | _ => .bad
def Out.noex {α : Type} : Out α → Out α
  | .ok a S => .ok a S
  | _ => .bad
@[simp] theorem noex_ok {α : Type} (a : α) (S : Sto) : (Out.ok a S).noex = .ok a S := rfl
def gsCons (g : MG) (r : MGs) : MGs := fun ds E S => match ds with
  | d :: ds => (g d E S).bind fun E' S' => (r ds E' S').noex
  | [] => .bad
def gT (n : Nat) (g : MGs) : MG := fun d E S => match d with
  | .tup xs => if xs.length = n then g xs E S else .bad
  | _ => .bad
def mAsg (a : ME) (g : MG) : MS := fun E S => (a E S).toS E fun d S1 => (g d E S1).toS E fun E' S2 => .nx E' S2
def mSet (i : Nat) (a : ME) : MS := fun E S => (a E S).toS E fun d S1 => .nx (E.set i (some d)) S1
section
variable {X : Cx} {W : WW X.K} {pos : Pos}
theorem sd_of {st : Stmt} {t : TS} {m : MS} (h : PS X st t) (i : ∀ D σ H ρ S E, Rel X.K ρ S H → ER X.K W ρ H E σ → SPost X.K W ρ H D (m E S) → t D σ H) : SD X W st m :=
  PS.imp h fun D σ H ⟨ρ, S, E, r, er, p⟩ => i D σ H ρ S E r er p
theorem bd_of {st : List Stmt} {t : TS} {m : MS} (h : PSs X st t) (i : ∀ D σ H ρ S E, Rel X.K ρ S H → ER X.K W ρ H E σ → SPost X.K W ρ H D (m E S) → t D σ H) : BD X W st m :=
  PSs.imp h fun D σ H ⟨ρ, S, E, r, er, p⟩ => i D σ H ρ S E r er p
theorem bd_nil : BD X W [] mSkip := bd_of pss_nil fun D σ H ρ S E r er p => p ρ H σ r Ext.refl er
theorem bd_one {st : Stmt} {m : MS} (h : SD X W st m) : BD X W [st] m := pss_one h
theorem bd_cons {st : Stmt} {rest : List Stmt} {a b : MS} (h1 : SD X W st a) (h2 : BD X W rest b) : BD X W (st :: rest) (mSeq a b) := by
  refine bd_of (pss_cons h1 h2) fun D σ H ρ S E r er p => ?_
  refine ⟨ρ, S, E, r, er, ?_⟩
  unfold mSeq at p
  cases q : a E S with
  | nx E' S' =>
    rw [q] at p
    exact fun ρ' H' σ' r' e' er' => ⟨ρ', S', E', r', er', p.start e'⟩
  | rt d S' => rw [q] at p; exact p
  | bk E' S' => rw [q] at p; exact p
  | ct E' S' => rw [q] at p; exact p
  | ex e E' S' => rw [q] at p; exact p
  | bad => rw [q] at p; exact p
theorem sd_pass : SD X W (.Pass pos) mSkip := sd_of ps_pass fun D σ H ρ S E r er p => p ρ H σ r Ext.refl er
theorem sd_break : SD X W (.Break pos) mBreak := sd_of ps_break fun D σ H ρ S E r er p => p ρ H σ r Ext.refl er
theorem sd_cont : SD X W (.Continue pos) mCont := sd_of ps_continue fun D σ H ρ S E r er p => p ρ H σ r Ext.refl er
theorem sd_if {c : Expr} {a b : List Stmt} {mc : MT} {ma mb : MS} (hc : TD X W c mc) (ha : BD X W a ma) (hb : BD X W b mb) : SD X W (.If c a b pos) (mIf mc ma mb) := by
  refine sd_of (ps_if hc ha hb) fun D σ H ρ S E r er p => ?_
  refine ⟨ρ, S, E, r, er, (SPost.bind (R := fun _ _ (b c : Bool) => b = c) er p).imp fun x H1 ⟨ρ1, S1, d, r1, e1, d1, p1⟩ => ?_⟩
  subst d1
  cases d with
  | true => rw [if_pos rfl] at p1 ⊢; exact ⟨ρ1, S1, E, r1, er.mono e1, p1⟩
  | false => rw [if_neg (by simp)] at p1 ⊢; exact ⟨ρ1, S1, E, r1, er.mono e1, p1⟩
theorem sd_ret {e : Expr} {m : ME} (h : ED X W e m) : SD X W (.Return (some e) pos) (mRet m) := by
  refine sd_of (ps_ret h) fun D σ H ρ S E r er p => ?_
  refine ⟨ρ, S, E, r, er, (SPost.bind (R := DV X.K) er p).imp fun x H1 ⟨ρ1, S1, d, r1, e1, d1, p1⟩ => ?_⟩
  exact p1 ρ1 H1 x r1 Ext.refl d1
theorem sd_retN : SD X W (.Return none pos) mRetN := sd_of ps_retN fun D σ H ρ S E r er p => p ρ H .non r Ext.refl (by simp [DV])
theorem sd_expr {e : Expr} {m : ME} (h : ED X W e m) (hs : swapsWith e none pos.line X.env = pure false := by rfl) : SD X W (.Expr e pos) (mDrop m) := by
  refine sd_of (ps_expr h hs) fun D σ H ρ S E r er p => ?_
  refine ⟨ρ, S, E, r, er, (SPost.bind (R := DV X.K) er p).imp fun x H1 ⟨ρ1, S1, d, r1, e1, d1, p1⟩ => ?_⟩
  exact p1 ρ1 H1 σ r1 Ext.refl (er.mono e1)
/-! targets -/
def tG (K : PySem.W.Frag) (W : WW K) (g : MG) : TG := fun v σ H Q => ∃ ρ S E d, Rel K ρ S H ∧ ER K W ρ H E σ ∧ DV K ρ H d v ∧ Post K (ER K W) ρ H Q (fun c dx H' => W.w c dx σ H') (g d E S)
def tGs (K : PySem.W.Frag) (W : WW K) (g : MGs) : TGs := fun vs σ H Q => ∃ ρ S E ds, Rel K ρ S H ∧ ER K W ρ H E σ ∧ DVs K ρ H ds vs ∧ Post K (ER K W) ρ H Q (fun c dx H' => W.w c dx σ H') (g ds E S)
def GD (X : Cx) (W : WW X.K) (tg : Expr) (g : MG) : Prop := PG X tg (tG X.K W g)
def GDs (X : Cx) (W : WW X.K) (tg : List Expr) (g : MGs) : Prop := PGs X tg (tGs X.K W g)
theorem PG.imp {tg : Expr} {t t' : TG} (h : PG X tg t) (i : ∀ v σ H Q, t' v σ H Q → t v σ H Q) : PG X tg t' := ⟨fun pins s σ H v u Q I r q => h.run pins s σ H v u Q I r (i _ _ _ _ q)⟩
theorem PGs.imp {tg : List Expr} {t t' : TGs} (h : PGs X tg t) (i : ∀ v σ H Q, t' v σ H Q → t v σ H Q) : PGs X tg t' := ⟨fun pins s σ H v u Q I r q => h.run pins s σ H v u Q I r (i _ _ _ _ q)⟩
theorem gd_name {i : Nat} {tg : Expr} (h : PG X tg (gName i)) (hw : W.fix = none := by rfl) : GD X W tg (gN i) :=
  PG.imp h fun v σ H Q ⟨ρ, S, E, d, r, er, dv, p⟩ => p ρ H _ r Ext.refl (er.set hw i dv)
theorem gds_nil : GDs X W [] gsNil := PGs.imp pgs_nil fun v σ H Q ⟨ρ, S, E, d, r, er, dv, p⟩ => by
  cases d with
  | nil => simp only [DVs] at dv; exact ⟨dv, p ρ H σ r Ext.refl er⟩
  | cons x xs => exact p.elim
theorem Post.noex {α β : Type} {K : PySem.W.Frag} {R : List Addr → Hp → α → β → Prop} {ρ : List Addr} {H : Hp} {Q : β → Hp → Prop} {Z Z' : XQ} {o : Out α} (h : Post K R ρ H Q Z o.noex) : Post K R ρ H Q Z' o := by
  cases o with
  | ok d S => exact h
  | ex e S => exact h.elim
  | bad => exact h
theorem gds_cons {e : Expr} {es : List Expr} {g : MG} {gs : MGs} (h1 : GD X W e g) (h2 : GDs X W es gs) (hs : (assignEach (e :: es) X.env).map (·.2) = assign e X.env :: (assignEach es X.env).map (·.2) := by rfl) : GDs X W (e :: es) (gsCons g gs) := by
  refine PGs.imp (pgs_cons h1 h2 hs) fun vs σ H Q ⟨ρ, S, E, ds, r, er, dv, p⟩ => ?_
  cases ds with
  | nil => exact p.elim
  | cons x xs =>
    simp only [DVs] at dv
    obtain ⟨v, vr, rfl, dx, dr⟩ := dv
    refine ⟨v, vr, rfl, ρ, S, E, x, r, er, dx, (Post.bind (R := ER X.K W) p).imp fun σ1 H1 ⟨ρ1, S1, E1, r1, e1, er1, p1⟩ => ?_⟩
    exact ⟨ρ1, S1, E1, xs, r1, er1, DVs.mono e1 _ _ dr, p1.noex⟩
theorem gd_tup {es : List Expr} {k n : Nat} {gs : MGs} (hc : X.calm = true) (h : GDs X W es gs) (hn : (assignEach es X.env).length = n := by rfl) (hst : (assignEach es X.env).findIdx? (·.1) = none := by rfl) : GD X W (.Tuple es k pos) (gT n gs) := by
  refine PG.imp (pg_tup hc h hn hst) fun v σ H Q ⟨ρ, S, E, d, r, er, dv, p⟩ => ?_
  cases d with
  | tup xs =>
    simp only [DV] at dv
    obtain ⟨a, vs, rfl, h1, h2⟩ := dv
    unfold gT at p
    simp only at p
    by_cases hl : xs.length = n
    · rw [if_pos hl] at p
      exact ⟨a, vs, rfl, h1, by rw [← h2.length]; exact hl, ρ, S, E, xs, r, er, h2, p⟩
    · rw [if_neg hl] at p; exact p.elim
  | _ => exact p.elim
theorem sd_asg {tg e : Expr} {m : ME} {g : MG} (he : ED X W e m) (hg : GD X W tg g) (hs : swapsWithSole [tg] e pos.line X.env = pure false := by rfl) (hw : swappedStores [tg] e X.env = pure none := by rfl)
    (h1 : (assignEach [tg] X.env).map (·.2) = [assign tg X.env] := by rfl) : SD X W (.Assign [tg] e pos) (mAsg m g) := by
  refine sd_of (ps_asg he hg hs hw h1) fun D σ H ρ S E r er p => ?_
  refine ⟨ρ, S, E, r, er, (SPost.bind (R := DV X.K) er p).imp fun x H1 ⟨ρ1, S1, d, r1, e1, d1, p1⟩ => ?_⟩
  refine ⟨ρ1, S1, E, d, r1, er.mono e1, d1, (SPost.bind (R := ER X.K W) (er.mono e1) p1).imp fun σ2 H2 ⟨ρ2, S2, E2, r2, e2, er2, p2⟩ => ?_⟩
  exact p2 ρ2 H2 σ2 r2 Ext.refl er2
theorem sd_set {i : Nat} {e : Expr} {m : ME} {x : Str} {pos' : Pos} (hN : X.N.Nodup) (hi : X.N[i]? = some x) (hx : Loc X.env.scope x) (he : ED X W e m) (hs : swapsWith e (some (.Name x pos')) pos.line X.env = pure false := by rfl)
    (hf : X.fn x = true ∨ X.env.scope.names.lookup x = some .local := by first | exact .inl rfl | exact .inr rfl | assumption) (hw : W.fix = none := by rfl) : SD X W (.Assign [.Name x pos'] e pos) (mSet i m) := by
  refine sd_of (ps_set hN hi hx he hs hf) fun D σ H ρ S E r er p => ?_
  refine ⟨ρ, S, E, r, er, (SPost.bind (R := DV X.K) er p).imp fun x H1 ⟨ρ1, S1, d, r1, e1, d1, p1⟩ => ?_⟩
  exact p1 ρ1 H1 _ r1 Ext.refl ((er.mono e1).set hw i d1)
/-! name op= value -/
def mAug (i : Nat) (g : Sto → D → D → Option D) (a : ME) : MS := fun E S => match E[i]? with
  | some (some x) => (a E S).toS E fun y S1 => (match g S1 x y with
    | some d => .nx (E.set i (some d)) S1
    | none => .bad)
  | _ => .bad
theorem sd_aug {i : Nat} {x : Str} {e : Expr} {m : ME} {op : Operator} {ti : TIp} {pos' : Pos} {g : Sto → D → D → Option D} (hN : X.N.Nodup) (hi : X.N[i]? = some x) (hx : Loc X.env.scope x) (he : ED X W e m) (ho : PIp X op ti) (hr : ∀ x y H Q, rP X.K g x y H Q → ti x y H Q)
    (hf : X.fn x = true ∨ X.env.scope.names.lookup x = some .local := by first | exact .inl rfl | exact .inr rfl | assumption) (hw : W.fix = none := by rfl) : SD X W (.AugAssign (.Name x pos') op e pos) (mAug i g m) := by
  refine sd_of (ps_aug hN hi hx he ho hf) fun D σ H ρ S E r er p => ?_
  unfold mAug at p
  cases q : E[i]? with
  | none => rw [q] at p; exact p.elim
  | some o =>
    cases o with
    | none => rw [q] at p; exact p.elim
    | some d0 =>
      rw [q] at p
      obtain ⟨v, h1, h2⟩ := er.2.2.2 i d0 q
      refine ⟨v, h1, ρ, S, E, r, er, (SPost.bind (R := DV X.K) er p).imp fun y H1 ⟨ρ1, S1, dy, r1, e1, d1, p1⟩ => ?_⟩
      cases hg : g S1 d0 dy with
      | none => rw [hg] at p1; exact p1.elim
      | some d =>
        rw [hg] at p1
        refine hr _ _ _ _ ⟨ρ1, S1, d0, dy, d, r1, DV.mono e1 _ _ h2, d1, hg, fun ρ' H' v' r' e' dv' => ?_⟩
        exact p1 ρ' H' _ r' e' (((er.mono e1).mono e').set hw i dv')
/-! ### while -/
def whileN (c : MT) (b : MS) : Nat → Evn → Sto → Option SO
  | 0, _, _ => none
  | n + 1, E, S => match c E S with
    | .ok true S1 => (match b E S1 with
      | .nx E2 S2 => whileN c b n E2 S2
      | .ct E2 S2 => whileN c b n E2 S2
      | .bk E2 S2 => some (.nx E2 S2)
      | r => some r)
    | .ok false S1 => some (.nx E S1)
    | .ex e S1 => some (.ex e E S1)
    | .bad => some .bad
theorem whileN_mono {c : MT} {b : MS} : ∀ (n : Nat) (E : Evn) (S : Sto) (r : SO), whileN c b n E S = some r → whileN c b (n + 1) E S = some r
  | 0, E, S, r, h => by cases h
  | n + 1, E, S, r, h => by
    unfold whileN at h ⊢
    cases q : c E S with
    | ok x S1 =>
      cases x with
      | false => rw [q] at h; exact h
      | true =>
        rw [q] at h
        simp only at h ⊢
        cases q2 : b E S1 with
        | nx E2 S2 => rw [q2] at h; exact whileN_mono n E2 S2 r h
        | ct E2 S2 => rw [q2] at h; exact whileN_mono n E2 S2 r h
        | bk E2 S2 => rw [q2] at h; exact h
        | rt d S2 => rw [q2] at h; exact h
        | ex e E2 S2 => rw [q2] at h; exact h
        | bad => rw [q2] at h; exact h
    | ex e S1 => rw [q] at h; exact h
    | bad => rw [q] at h; exact h
theorem whileN_le {c : MT} {b : MS} {n m : Nat} {E : Evn} {S : Sto} {r : SO} (h : whileN c b n E S = some r) (hm : n ≤ m) : whileN c b m E S = some r := by
  induction hm with
  | refl => exact h
  | step _ ih => exact whileN_mono _ _ _ _ ih
open Classical in
noncomputable def mWhile (c : MT) (b : MS) : MS := fun E S => if h : ∃ r n, whileN c b n E S = some r then Classical.choose h else .bad
theorem mWhile_of {c : MT} {b : MS} {n : Nat} {E : Evn} {S : Sto} {r : SO} (h : whileN c b n E S = some r) : mWhile c b E S = r := by
  have hx : ∃ r n, whileN c b n E S = some r := ⟨r, n, h⟩
  unfold mWhile
  rw [dif_pos hx]
  obtain ⟨m, hm⟩ := Classical.choose_spec hx
  have h1 := whileN_le h (Nat.le_max_left n m)
  have h2 := whileN_le hm (Nat.le_max_right n m)
  rw [h1] at h2
  exact (Option.some.inj h2).symm
theorem mWhile_some {c : MT} {b : MS} {E : Evn} {S : Sto} (h : mWhile c b E S ≠ .bad) : ∃ n, whileN c b n E S = some (mWhile c b E S) := by
  unfold mWhile at h ⊢
  by_cases hx : ∃ r n, whileN c b n E S = some r
  · rw [dif_pos hx]; exact Classical.choose_spec hx
  · rw [dif_neg hx] at h; exact absurd rfl h
/-- one turn -/
theorem mWhile_step {c : MT} {b : MS} {E E2 : Evn} {S S1 S2 : Sto} (h : c E S = .ok true S1) (hb : b E S1 = .nx E2 S2) : mWhile c b E S = mWhile c b E2 S2 := by
  by_cases hx : ∃ r n, whileN c b n E2 S2 = some r
  · obtain ⟨r, n, hn⟩ := hx
    rw [mWhile_of hn]
    exact mWhile_of (n := n + 1) (by unfold whileN; rw [h]; simp only; rw [hb]; exact hn)
  · have hy : ¬ ∃ r n, whileN c b n E S = some r := fun ⟨r, n, hn⟩ => by
      cases n with
      | zero => cases hn
      | succ n =>
        unfold whileN at hn
        rw [h] at hn
        simp only at hn
        rw [hb] at hn
        exact hx ⟨r, n, hn⟩
    unfold mWhile
    rw [dif_neg hx, dif_neg hy]
theorem mWhile_stepC {c : MT} {b : MS} {E E2 : Evn} {S S1 S2 : Sto} (h : c E S = .ok true S1) (hb : b E S1 = .ct E2 S2) : mWhile c b E S = mWhile c b E2 S2 := by
  by_cases hx : ∃ r n, whileN c b n E2 S2 = some r
  · obtain ⟨r, n, hn⟩ := hx
    rw [mWhile_of hn]
    exact mWhile_of (n := n + 1) (by unfold whileN; rw [h]; simp only; rw [hb]; exact hn)
  · have hy : ¬ ∃ r n, whileN c b n E S = some r := fun ⟨r, n, hn⟩ => by
      cases n with
      | zero => cases hn
      | succ n =>
        unfold whileN at hn
        rw [h] at hn
        simp only at hn
        rw [hb] at hn
        exact hx ⟨r, n, hn⟩
    unfold mWhile
    rw [dif_neg hx, dif_neg hy]
theorem mWhile_done {c : MT} {b : MS} {E : Evn} {S S1 : Sto} (h : c E S = .ok false S1) : mWhile c b E S = .nx E S1 := mWhile_of (n := 1) (by unfold whileN; rw [h])
theorem mWhile_ret {c : MT} {b : MS} {E : Evn} {S S1 S2 : Sto} {d : D} (h : c E S = .ok true S1) (hb : b E S1 = .rt d S2) : mWhile c b E S = .rt d S2 := mWhile_of (n := 1) (by unfold whileN; rw [h]; simp only; rw [hb])
theorem mWhile_brk {c : MT} {b : MS} {E E2 : Evn} {S S1 S2 : Sto} (h : c E S = .ok true S1) (hb : b E S1 = .bk E2 S2) : mWhile c b E S = .nx E2 S2 := mWhile_of (n := 1) (by unfold whileN; rw [h]; simp only; rw [hb])
theorem mWhile_exc {c : MT} {b : MS} {E E2 : Evn} {S S1 S2 : Sto} {e : Exn} (h : c E S = .ok true S1) (hb : b E S1 = .ex e E2 S2) : mWhile c b E S = .ex e E2 S2 := mWhile_of (n := 1) (by unfold whileN; rw [h]; simp only; rw [hb])
theorem sd_while {c : Expr} {body : List Stmt} {mc : MT} {mb : MS} (hp : PassesOwn (model X.prog X.w) X.A X.env X.xe) (hc : TD X W c mc) (hb : BD X W body mb) : SD X W (.While c body [] pos) (mWhile mc mb) := by
  refine sd_of (ps_while hp hc hb) fun D σ H ρ S E r er p => ?_
  have hne : mWhile mc mb E S ≠ .bad := fun z => by rw [z] at p; exact p
  obtain ⟨n, hn⟩ := mWhile_some hne
  generalize mWhile mc mb E S = res at p hn hne
  refine ⟨fun m σ1 H1 => ∃ ρ1 S1 E1, Rel X.K ρ1 S1 H1 ∧ Ext X.K ρ H ρ1 H1 ∧ ER X.K W ρ1 H1 E1 σ1 ∧ whileN mc mb m E1 S1 = some res, ⟨n, ρ, S, E, r, Ext.refl, er, hn⟩, ?_⟩
  rintro m σ1 H1 ⟨ρ1, S1, E1, r1, e1, er1, hm⟩
  cases m with
  | zero => cases hm
  | succ m =>
    refine ⟨ρ1, S1, E1, r1, er1, ?_⟩
    unfold whileN at hm
    cases q : mc E1 S1 with
    | bad =>
      rw [q] at hm
      exact absurd (Option.some.inj hm).symm hne
    | ex e S2 =>
      rw [q] at hm
      cases Option.some.inj hm
      exact fun ρ' H' c dx r' e' x => p ρ' H' σ1 c dx r' (e1.trans e') (er1.mono e') x
    | ok x S2 =>
      rw [q] at hm
      intro ρ2 H2 v r2 e2 hv
      subst hv
      cases x with
      | false =>
        rw [if_neg (by simp)]
        cases Option.some.inj hm
        exact p ρ2 H2 σ1 r2 (e1.trans e2) (er1.mono e2)
      | true =>
        rw [if_pos rfl]
        simp only at hm
        refine ⟨fun σ' H' => ∃ ρ1 S1 E1, Rel X.K ρ1 S1 H' ∧ Ext X.K ρ H ρ1 H' ∧ ER X.K W ρ1 H' E1 σ' ∧ whileN mc mb m E1 S1 = some res, fun σ' H' h => ⟨m, Nat.lt_succ_self m, h⟩, ρ2, S2, E1, r2, er1.mono e2, ?_⟩
        cases q2 : mb E1 S2 with
        | nx E3 S3 => rw [q2] at hm; exact fun ρ' H' σ' r' e' er' => ⟨ρ', S3, E3, r', (e1.trans e2).trans e', er', hm⟩
        | ct E3 S3 => rw [q2] at hm; exact fun ρ' H' σ' r' e' er' => ⟨ρ', S3, E3, r', (e1.trans e2).trans e', er', hm⟩
        | bk E3 S3 =>
          rw [q2] at hm
          cases Option.some.inj hm
          exact fun ρ' H' σ' r' e' er' => p ρ' H' σ' r' ((e1.trans e2).trans e') er'
        | rt d S3 =>
          rw [q2] at hm
          cases Option.some.inj hm
          exact fun ρ' H' v r' e' dv => p ρ' H' v r' ((e1.trans e2).trans e') dv
        | ex e E3 S3 =>
          rw [q2] at hm
          cases Option.some.inj hm
          exact fun ρ' H' σ' c dx r' e' er' x => p ρ' H' σ' c dx r' ((e1.trans e2).trans e') er' x
        | bad =>
          rw [q2] at hm
          exact absurd (Option.some.inj hm).symm hne
/-! ### for -/
/-- what a loop walks: its items; the list that must stand as it stood, where it is one that may change -/
structure ItD where
  items : List D
  chk : Option (Nat × List D)
open Classical in
noncomputable def chkOk (c : Option (Nat × List D)) (S : Sto) : Prop := match c with
  | none => True
  | some (n, xs) => S[n]? = some (.lst xs)
abbrev MI := Evn → Sto → Out ItD
open Classical in
noncomputable def forD (c : Option (Nat × List D)) (g : MG) (b : MS) : List D → Evn → Sto → SO
  | [], E, S => if chkOk c S then .nx E S else .bad
  | x :: r, E, S => if chkOk c S then (g x E S).toS E fun E1 S1 => (match b E1 S1 with
      | .nx E2 S2 => forD c g b r E2 S2
      | .ct E2 S2 => forD c g b r E2 S2
      | .bk E2 S2 => .nx E2 S2
      | o => o) else .bad
noncomputable def mFor (it : MI) (g : MG) (b : MS) : MS := fun E S => (it E S).toS E fun i S1 => forD i.chk g b i.items E S1
def Walks (K : PySem.W.Frag) (ρ0 : List Addr) (H0 : Hp) (i : ItD) (J : L2.It) : Prop := ∀ ρ S H, Rel K ρ S H → Ext K ρ0 H0 ρ H → chkOk i.chk S →
  (∀ (n : Nat) (d : D), i.items[n]? = some d → J.go n H ∧ ∀ x H', J.yld n H x H' → Rel K ρ S H' ∧ Ext K ρ H ρ H' ∧ DV K ρ H' d x) ∧ J.stop i.items.length H
theorem Walks.mono {K : PySem.W.Frag} {ρ0 ρ1 : List Addr} {H0 H1 : Hp} {i : ItD} {J : L2.It} (h : Walks K ρ0 H0 i J) (e : Ext K ρ0 H0 ρ1 H1) : Walks K ρ1 H1 i J := fun ρ S H r x c => h ρ S H r (e.trans x) c
def tI (K : PySem.W.Frag) (W : WW K) (m : MI) : TI := fun σ H R => ∃ ρ S E, Rel K ρ S H ∧ ER K W ρ H E σ ∧ Post K (Walks K) ρ H R (fun c dx H' => W.w c dx σ H') (m E S)
def ID (X : Cx) (W : WW X.K) (tg it : Expr) (m : MI) : Prop := PI X tg it (tI X.K W m)
theorem drop_cons_of {α : Type} {l : List α} {i : Nat} {x : α} (h : l[i]? = some x) : l.drop i = x :: l.drop (i + 1) := by
  have hi := (List.getElem?_eq_some_iff.mp h).1
  rw [List.drop_eq_getElem_cons hi]
  congr 1
  exact (List.getElem?_eq_some_iff.mp h).2
theorem sd_for {tg it : Expr} {body : List Stmt} {mi : MI} {g : MG} {mb : MS} (hp : PassesOwn (model X.prog X.w) X.A X.env X.xe) (hc : X.calm = true) (hi : ID X W tg it mi) (hg : GD X W tg g) (hb : BD X W body mb)
    (hs : ∀ x, foldedSetIterable it X.env x = pure x := by intro _; rfl) : SD X W (.For tg it body [] pos) (mFor mi g mb) := by
  refine sd_of (ps_for hp hc hi hg hb hs) fun D σ H ρ S E r er p => ?_
  refine ⟨ρ, S, E, r, er, (SPost.bind (R := Walks X.K) er p).imp fun J H1 ⟨ρ1, S1, i, r1, e1, w1, p1⟩ => ?_⟩
  refine ⟨fun n m σ2 H2 => m = i.items.length - n ∧ n ≤ i.items.length ∧ ∃ ρ2 S2 E2, Rel X.K ρ2 S2 H2 ∧ Ext X.K ρ1 H1 ρ2 H2 ∧ ER X.K W ρ2 H2 E2 σ2 ∧ SPost X.K W ρ2 H2 D (forD i.chk g mb (i.items.drop n) E2 S2),
    ⟨_, rfl, Nat.zero_le _, ρ1, S1, E, r1, Ext.refl, er.mono e1, by simpa using p1⟩, ?_⟩
  rintro n m σ2 H2 ⟨rfl, hn, ρ2, S2, E2, r2, e2, er2, p2⟩
  have hck : chkOk i.chk S2 := Classical.byContradiction fun z => by
    cases q : i.items.drop n with
    | nil => rw [q, forD, if_neg z] at p2; exact p2
    | cons x rr => rw [q, forD, if_neg z] at p2; exact p2
  obtain ⟨w2, w3⟩ := w1 ρ2 S2 H2 r2 e2 hck
  by_cases hlt : n < i.items.length
  · right
    have hd : i.items[n]? = some i.items[n] := List.getElem?_eq_getElem hlt
    obtain ⟨go, yl⟩ := w2 n _ hd
    refine ⟨go, fun σ' H' => n + 1 ≤ i.items.length ∧ ∃ ρ3 S3 E3, Rel X.K ρ3 S3 H' ∧ Ext X.K ρ1 H1 ρ3 H' ∧ ER X.K W ρ3 H' E3 σ' ∧ SPost X.K W ρ3 H' D (forD i.chk g mb (i.items.drop (n + 1)) E3 S3), fun σ' H' ⟨h1, h2⟩ => ⟨i.items.length - (n + 1), by omega, rfl, h1, h2⟩, fun x H3 hy => ?_⟩
    obtain ⟨r3, e3, d3⟩ := yl x H3 hy
    rw [drop_cons_of hd, forD, if_pos hck] at p2
    refine ⟨ρ2, S2, E2, _, r3, er2.mono e3, d3, (SPost.bind (R := ER X.K W) (er2.mono e3) (p2.start e3)).imp fun σ4 H4 ⟨ρ4, S4, E4, r4, e4, er4, p4⟩ => ?_⟩
    refine ⟨ρ4, S4, E4, r4, er4, ?_⟩
    have ee := (e2.trans e3).trans e4
    cases q : mb E4 S4 with
    | nx E5 S5 => rw [q] at p4; exact fun ρ' H' σ' r' e' er' => ⟨hlt, ρ', S5, E5, r', ee.trans e', er', p4.start e'⟩
    | ct E5 S5 => rw [q] at p4; exact fun ρ' H' σ' r' e' er' => ⟨hlt, ρ', S5, E5, r', ee.trans e', er', p4.start e'⟩
    | bk E5 S5 => rw [q] at p4; exact p4
    | rt d S5 => rw [q] at p4; exact p4
    | ex e E5 S5 => rw [q] at p4; exact p4
    | bad => rw [q] at p4; exact p4
  · left
    have hn2 : n = i.items.length := by omega
    subst hn2
    rw [List.drop_length, forD, if_pos hck] at p2
    exact ⟨w3, p2 ρ2 H2 σ2 r2 Ext.refl er2⟩
/-! what may be walked -/
def rngD (lo : Int) (n : Nat) : List D := (List.range n).map fun (i : Nat) => D.int (lo + (i : Int))
theorem rngD_get {lo : Int} {n i : Nat} {d : D} (h : (rngD lo n)[i]? = some d) : i < n ∧ d = .int (lo + (i : Int)) := by
  unfold rngD at h
  rw [List.getElem?_map] at h
  by_cases hi : i < n
  · rw [List.getElem?_eq_getElem (by simpa using hi)] at h
    simp at h
    exact ⟨hi, h.symm⟩
  · rw [List.getElem?_eq_none (by simpa using hi)] at h
    cases h
theorem walks_range {K : PySem.W.Frag} {ρ : List Addr} {H : Hp} {lo : Int} {n : Nat} : Walks K ρ H ⟨rngD lo n, none⟩ (Itr lo n) := by
  intro ρ1 S H1 r e c
  refine ⟨fun i d hd => ?_, by simp [rngD, Itr]⟩
  obtain ⟨h1, rfl⟩ := rngD_get hd
  refine ⟨h1, fun x H' hy => ?_⟩
  obtain ⟨rfl, rfl⟩ := hy
  exact ⟨r, Ext.refl, by simp [DV]⟩
def small62 (j : Int) : Prop := -(2 ^ 62) ≤ j ∧ j < 2 ^ 62
def int1 : List D → Option Int
  | [.int j] => some j
  | _ => none
def int2 : List D → Option (Int × Int)
  | [.int i, .int j] => some (i, j)
  | _ => none
theorem int1_some {ds : List D} {j : Int} (h : int1 ds = some j) : ds = [.int j] := by
  unfold int1 at h
  split at h
  · cases h; rfl
  · cases h
theorem int2_some {ds : List D} {i j : Int} (h : int2 ds = some (i, j)) : ds = [.int i, .int j] := by
  unfold int2 at h
  split at h
  · cases h; rfl
  · cases h
open Classical in
noncomputable def iRange1 (a : MA) : MI := fun E S => (a E S).bind fun ds S1 => match int1 ds with
  | some j => if small62 j then .ok ⟨rngD 0 j.toNat, none⟩ S1 else .bad
  | none => .bad
open Classical in
noncomputable def iRange2 (a : MA) : MI := fun E S => (a E S).bind fun ds S1 => match int2 ds with
  | some (i, j) => if small62 i ∧ small62 j then .ok ⟨rngD i (j - i).toNat, none⟩ S1 else .bad
  | none => .bad
theorem PI.impI {tg e : Expr} {t : TI} {m : MI} (h : PI X tg e t) (i : ∀ σ H R ρ S E, Rel X.K ρ S H → ER X.K W ρ H E σ → Post X.K (Walks X.K) ρ H R (fun c dx H' => W.w c dx σ H') (m E S) → t σ H R) : ID X W tg e m :=
  PI.imp h fun σ H R ⟨ρ, S, E, r, er, p⟩ => i σ H R ρ S E r er p
theorem dvs_int1 {K : PySem.W.Frag} {ρ : List Addr} {H : Hp} {j : Int} {vs : List V} (h : DVs K ρ H [.int j] vs) : vs = [.int j] := by
  simp only [DVs, DV] at h
  obtain ⟨v, r, rfl, rfl, rfl⟩ := h
  rfl
theorem dvs_int2 {K : PySem.W.Frag} {ρ : List Addr} {H : Hp} {i j : Int} {vs : List V} (h : DVs K ρ H [.int i, .int j] vs) : vs = [.int i, .int j] := by
  simp only [DVs, DV] at h
  obtain ⟨v, r, rfl, rfl, w, q, rfl, rfl, rfl⟩ := h
  rfl
theorem id_range1 {tg a : Expr} {ma : MA} {p : Pos} (hg : Gl X "range") (hm : X.mg "range" = none) (ha : AD X W [a] ma) (hs : starEach [a] X.env = [(false, eval a X.env)] := by rfl) : ID X W tg (.Call (.Name "range" p) [a] [] pos) (iRange1 ma) := by
  refine PI.impI (pi_range1 hg hm ha hs) fun σ H R ρ S E r er p => ?_
  refine ⟨ρ, S, E, r, er, (Post.bind (R := DVs X.K) p).imp fun vs H1 ⟨ρ1, S1, ds, r1, e1, d1, p1⟩ => ?_⟩
  cases q : int1 ds with
  | none => rw [q] at p1; exact p1.elim
  | some j =>
    rw [q] at p1
    have := int1_some q
    subst this
    simp only at p1
    by_cases hj : small62 j
    · rw [if_pos hj] at p1
      exact ⟨j, dvs_int1 d1, hj.1, hj.2, p1 ρ1 H1 _ r1 Ext.refl walks_range⟩
    · rw [if_neg hj] at p1; exact p1.elim
theorem id_range2 {tg a b : Expr} {ma : MA} {p : Pos} (hg : Gl X "range") (hm : X.mg "range" = none) (ha : AD X W [a, b] ma) (hs : starEach [a, b] X.env = [(false, eval a X.env), (false, eval b X.env)] := by rfl) (hs2 : starEach [b] X.env = [(false, eval b X.env)] := by rfl) : ID X W tg (.Call (.Name "range" p) [a, b] [] pos) (iRange2 ma) := by
  refine PI.impI (pi_range2 hg hm ha hs hs2) fun σ H R ρ S E r er p => ?_
  refine ⟨ρ, S, E, r, er, (Post.bind (R := DVs X.K) p).imp fun vs H1 ⟨ρ1, S1, ds, r1, e1, d1, p1⟩ => ?_⟩
  cases q : int2 ds with
  | none => rw [q] at p1; exact p1.elim
  | some ij =>
    obtain ⟨i, j⟩ := ij
    rw [q] at p1
    have := int2_some q
    subst this
    simp only at p1
    by_cases hj : small62 i ∧ small62 j
    · rw [if_pos hj] at p1
      exact ⟨i, j, dvs_int2 d1, ⟨hj.1.1, hj.1.2, hj.2.1, hj.2.2⟩, p1 ρ1 H1 _ r1 Ext.refl walks_range⟩
    · rw [if_neg hj] at p1; exact p1.elim
/-- the items of a value: a tuple, a list -/
def iSeq (a : ME) : MI := fun E S => (a E S).bind fun d S1 => match d with
  | .tup xs => .ok ⟨xs, none⟩ S1
  | .lst xs => .ok ⟨xs, none⟩ S1
  | .fz xs => .ok ⟨xs, none⟩ S1
  | .loc n => (match S1[n]? with
    | some (.lst xs) => .ok ⟨xs, some (n, xs)⟩ S1
    | _ => .bad)
  | _ => .bad
theorem walks_tup {ρ : List Addr} {H : Hp} {xs : List D} {vs : List V} {a : Addr} (h1 : SqT X.K H a vs) (h2 : DVs X.K ρ H xs vs) : Walks X.K ρ H ⟨xs, none⟩ (Itt X.K a) := by
  intro ρ1 S H1 r e c
  have s1 := e.tup _ _ h1
  have d1 := DVs.mono e _ _ h2
  refine ⟨fun i d hd => ?_, ⟨vs, s1, by rw [d1.length]; exact Nat.le_refl _⟩⟩
  obtain ⟨v, hv, dv⟩ := d1.get hd
  refine ⟨⟨vs, v, s1, hv⟩, fun x H' hy => ?_⟩
  obtain ⟨rfl, hy⟩ := hy
  have := hy vs s1
  rw [hv] at this
  cases this
  exact ⟨r, Ext.refl, dv⟩
theorem walks_lst {ρ : List Addr} {H : Hp} {xs : List D} {vs : List V} {a : Addr} (h1 : LstP ρ H a vs) (h2 : DVs X.K ρ H xs vs) : Walks X.K ρ H ⟨xs, none⟩ (Itl X.K a) := by
  intro ρ1 S H1 r e c
  have s1 : SqL X.K H1 a vs := (h1.mono e).seq
  have d1 := DVs.mono e _ _ h2
  refine ⟨fun i d hd => ?_, ⟨vs, s1, by rw [d1.length]; exact Nat.le_refl _⟩⟩
  obtain ⟨v, hv, dv⟩ := d1.get hd
  refine ⟨⟨vs, v, s1, hv⟩, fun x H' hy => ?_⟩
  obtain ⟨rfl, hy⟩ := hy
  have := hy vs s1
  rw [hv] at this
  cases this
  exact ⟨r, Ext.refl, dv⟩
theorem walks_fz {ρ : List Addr} {H : Hp} {xs : List D} {vs : List V} {a : Addr} (h1 : FzP X.K H a vs) (h2 : DVs X.K ρ H xs vs) : Walks X.K ρ H ⟨xs, none⟩ (Itl X.K a) := by
  intro ρ1 S H1 r e c
  have s1 := (h1.mono e).seq
  have d1 := DVs.mono e _ _ h2
  refine ⟨fun i d hd => ?_, ⟨vs, s1, by rw [d1.length]; exact Nat.le_refl _⟩⟩
  obtain ⟨v, hv, dv⟩ := d1.get hd
  refine ⟨⟨vs, v, s1, hv⟩, fun x H' hy => ?_⟩
  obtain ⟨rfl, hy⟩ := hy
  have := hy vs s1
  rw [hv] at this
  cases this
  exact ⟨r, Ext.refl, dv⟩
theorem Rel.lst {K : PySem.W.Frag} {ρ : List Addr} {S : Sto} {H : Hp} (r : Rel K ρ S H) {n : Nat} {xs : List D} {a : Addr} (h : S[n]? = some (.lst xs)) (ha : ρ[n]? = some a) : ∃ vs, H a = some (.lst vs) ∧ DVs K ρ H xs vs := r.at_ n _ a h ha
theorem walks_loc {ρ : List Addr} {H : Hp} {xs : List D} {n : Nat} {a : Addr} (ha : ρ[n]? = some a) : Walks X.K ρ H ⟨xs, some (n, xs)⟩ (Itl X.K a) := by
  intro ρ1 S H1 r e c
  obtain ⟨t, rfl⟩ := e.pre
  have ha1 : (ρ ++ t)[n]? = some a := by rw [List.getElem?_append_left (List.getElem?_eq_some_iff.mp ha).1]; exact ha
  obtain ⟨vs, h1, d1⟩ := r.lst c ha1
  refine ⟨fun i d hd => ?_, ⟨vs, SqL.of h1, by rw [d1.length]; exact Nat.le_refl _⟩⟩
  obtain ⟨v, hv, dv⟩ := d1.get hd
  refine ⟨⟨vs, v, SqL.of h1, hv⟩, fun x H' hy => ?_⟩
  obtain ⟨rfl, hy⟩ := hy
  have := hy vs (SqL.of h1)
  rw [hv] at this
  cases this
  exact ⟨r, Ext.refl, dv⟩
theorem PI.or {tg e : Expr} {t u : TI} (h : PI X tg e t) (k : PI X tg e u) : PI X tg e (fun σ H R => t σ H R ∨ u σ H R) :=
  ⟨fun pins s σ H R I q => q.elim (h.run pins s σ H R I) (k.run pins s σ H R I)⟩
theorem id_seq {tg e : Expr} {m : ME} (h : ED X W e m) : ID X W tg e (iSeq m) := by
  refine PI.impI (PI.or (pi_tup h) (pi_list h)) fun σ H R ρ S E r er p => ?_
  unfold iSeq at p
  cases q : m E S with
  | bad => rw [q] at p; exact p.elim
  | ex e S1 => rw [q] at p; exact .inl ⟨ρ, S, E, r, er, by rw [q]; exact p⟩
  | ok d S1 =>
    rw [q, bind_ok] at p
    cases d with
    | tup xs =>
      refine .inl ⟨ρ, S, E, r, er, ?_⟩
      rw [q]
      intro ρ1 H1 v r1 e1 dv
      simp only [DV] at dv
      obtain ⟨a, vs, rfl, h1, h2⟩ := dv
      exact ⟨a, rfl, ⟨vs, h1⟩, p ρ1 H1 _ r1 e1 (walks_tup h1 h2)⟩
    | lst xs =>
      refine .inr ⟨ρ, S, E, r, er, ?_⟩
      rw [q]
      intro ρ1 H1 v r1 e1 dv
      simp only [DV] at dv
      obtain ⟨a, vs, rfl, h1, h2⟩ := dv
      exact ⟨a, rfl, ⟨vs, h1.seq⟩, p ρ1 H1 _ r1 e1 (walks_lst h1 h2)⟩
    | fz xs =>
      refine .inr ⟨ρ, S, E, r, er, ?_⟩
      rw [q]
      intro ρ1 H1 v r1 e1 dv
      simp only [DV] at dv
      obtain ⟨a, vs, rfl, h1, h2⟩ := dv
      exact ⟨a, rfl, ⟨vs, h1.seq⟩, p ρ1 H1 _ r1 e1 (walks_fz h1 h2)⟩
    | loc n =>
      refine .inr ⟨ρ, S, E, r, er, ?_⟩
      rw [q]
      intro ρ1 H1 v r1 e1 dv
      simp only [DV] at dv
      obtain ⟨a, rfl, h1⟩ := dv
      simp only at p
      cases hS : S1[n]? with
      | none => rw [hS] at p; exact p.elim
      | some o =>
        cases o with
        | lst xs =>
          rw [hS] at p
          obtain ⟨vs, h2, d2⟩ := r1.lst hS h1
          exact ⟨a, rfl, ⟨vs, SqL.of h2⟩, p ρ1 H1 _ r1 e1 (walks_loc h1)⟩
        | _ => rw [hS] at p; exact p.elim
    | _ => exact p.elim
/-! ### a def's body -/
def runB (N : Nat) (b : MS) : MF := fun ds S => match b (ds.map some ++ List.replicate (N - ds.length) none) S with
  | .nx _ S' => .ok .non S'
  | .rt d S' => .ok d S'
  | .ex e _ S' => .ex e S'
  | _ => .bad
theorem er_start {K : PySem.W.Frag} {W : WX} {ρ : List Addr} {H : Hp} {ds : List D} {vs : List V} {N : List Str} (h : DVs K ρ H ds vs) : ER K (WW.of W) ρ H (ds.map some ++ List.replicate (N.length - ds.length) none) (L2.start N vs) := by
  unfold L2.start
  refine ⟨trivial, fun i a z => (by cases z), by simp [h.length], fun i d e => ?_⟩
  by_cases hi : i < ds.length
  · rw [List.getElem?_append_left (by simpa using hi), List.getElem?_map] at e
    cases q : ds[i]? with
    | none => rw [q] at e; cases e
    | some d' =>
      rw [q] at e
      simp only [Option.map_some, Option.some.injEq] at e
      subst e
      obtain ⟨v, h1, h2⟩ := h.get q
      refine ⟨v, ?_, h2⟩
      rw [List.getElem?_append_left (by simpa [← h.length] using hi), List.getElem?_map, h1]
      rfl
  · rw [List.getElem?_append_right (by simpa using hi)] at e
    rw [List.getElem?_replicate] at e
    split at e <;> cases e
theorem spM_len {K : PySem.W.Frag} {n : Nat} {m : MF} (vs : List V) (H : Hp) (Q : VK) (E : XK) (h : spM K n m vs H Q E) : vs.length = n := by
  obtain ⟨ρ, S, ds, r, dv, hl, p⟩ := h
  rw [← dv.length]; exact hl
/-- a def by its body -/
theorem fn_run {P : Program} {w : World} {K : PySem.W.Frag} {mg : Str → Option Value} {base : Heap} {x qual : Str} {params : Arguments} {body : List Stmt} {scope : Scope} {dvs : List V} {kws : List (Str × V)} {f : Addr} {fd : FuncData} {k : Nat} {N ps : List Str} {b : MS} {n : Nat}
    (F : FunD K x qual params body scope dvs kws f fd) (Sc : FnScope N ps scope) (hn : ps.length = n)
    (hb : ∀ (cdv : Value) (A : Around) (outer : List Env) (s : Shared) (H : Hp) (E : XK), Room k (A.deeper (envOfC qual scope s.heap.objs.size f cdv)) → BD (cxOf (L2.CX P w) P w K mg base N qual scope f cdv A outer s H E) (WW.of (K := K) fun c d _ H => E c d H) body b) :
    FnOk P w K mg base (L2.CX P w) (k + 1) f fd ps (spM K n (runB N.length b)) := by
  refine F.ok Sc (fun vs H Q E h => by rw [hn]; exact spM_len vs H Q E h) (fun cdv A outer s H vs Q E hr h => ⟨_, hb cdv A outer s H E hr, ?_⟩)
  obtain ⟨ρ, S, ds, r, dv, hl, p⟩ := h
  refine ⟨ρ, S, _, r, er_start dv, ?_⟩
  unfold runB at p
  cases q : b (ds.map some ++ List.replicate (N.length - ds.length) none) S with
  | nx E' S' => rw [q] at p; exact fun ρ' H' σ' r' e' er' => p ρ' H' .non r' e' (by simp [DV])
  | rt d S' => rw [q] at p; exact p
  | bk E' S' => rw [q] at p; exact p.elim
  | ct E' S' => rw [q] at p; exact p.elim
  | ex e E' S' => rw [q] at p; exact fun ρ' H' σ' c dx r' e' er' x => p ρ' H' c dx r' e' x
  | bad => rw [q] at p; exact p
end
end PD

/-! PyD3: the operators and the built-ins. -/
namespace PD
open PySem PySem.Spec PyProof.Rows L2
section
variable {X : Cx} {W : WW X.K} {pos : Pos}
/-! ### reading values -/
theorem dv_int {K : PySem.W.Frag} {ρ : List Addr} {H : Hp} {i : Int} {v : V} : DV K ρ H (.int i) v ↔ v = .int i := by simp [DV]
theorem dv_bl {K : PySem.W.Frag} {ρ : List Addr} {H : Hp} {i : Bool} {v : V} : DV K ρ H (.bl i) v ↔ v = .bl i := by simp [DV]
theorem dv_str {K : PySem.W.Frag} {ρ : List Addr} {H : Hp} {i : Tx} {v : V} : DV K ρ H (.str i) v ↔ v = sv i := by simp [DV]
theorem dv_non {K : PySem.W.Frag} {ρ : List Addr} {H : Hp} {v : V} : DV K ρ H .non v ↔ v = .non := by simp [DV]
/-- the list at a value, tracked by itself -/
def seqL (S : Sto) : D → Option (List D)
  | .lst xs => some xs
  | .loc n => (match S[n]? with
    | some (.lst xs) => some xs
    | _ => none)
  | _ => none
/-- the same, the locked ones too -/
def seqF (S : Sto) : D → Option (List D)
  | .lst xs => some xs
  | .fz xs => some xs
  | .loc n => (match S[n]? with
    | some (.lst xs) => some xs
    | _ => none)
  | _ => none
theorem seqL_ok {K : PySem.W.Frag} {ρ : List Addr} {S : Sto} {H : Hp} (r : Rel K ρ S H) {d : D} {v : V} {xs : List D} (h : DV K ρ H d v) (q : seqL S d = some xs) : ∃ a vs, v = .ref a ∧ H a = some (.lst vs) ∧ DVs K ρ H xs vs := by
  cases d with
  | lst ys =>
    cases q
    simp only [DV] at h
    obtain ⟨a, vs, rfl, h1, h2⟩ := h
    exact ⟨a, vs, rfl, h1.2, h2⟩
  | loc n =>
    simp only [DV] at h
    obtain ⟨a, rfl, h1⟩ := h
    unfold seqL at q
    simp only at q
    cases e : S[n]? with
    | none => rw [e] at q; cases q
    | some o =>
      cases o with
      | lst ys =>
        rw [e] at q
        cases q
        obtain ⟨vs, h2, d2⟩ := r.lst e h1
        exact ⟨a, vs, rfl, h2, d2⟩
      | _ => rw [e] at q; cases q
  | _ => cases q
theorem seqF_ok {K : PySem.W.Frag} {ρ : List Addr} {S : Sto} {H : Hp} (r : Rel K ρ S H) {d : D} {v : V} {xs : List D} (h : DV K ρ H d v) (q : seqF S d = some xs) : ∃ a vs, v = .ref a ∧ SqL K H a vs ∧ DVs K ρ H xs vs := by
  cases d with
  | fz ys =>
    cases q
    simp only [DV] at h
    obtain ⟨a, vs, rfl, h1, h2⟩ := h
    exact ⟨a, vs, rfl, h1.seq, h2⟩
  | lst ys =>
    cases q
    obtain ⟨a, vs, rfl, h1, h2⟩ := seqL_ok r h (xs := xs) rfl
    exact ⟨a, vs, rfl, SqL.of h1, h2⟩
  | loc n =>
    obtain ⟨a, vs, rfl, h1, h2⟩ := seqL_ok r h (xs := xs) q
    exact ⟨a, vs, rfl, SqL.of h1, h2⟩
  | _ => cases q
theorem tup_ok {K : PySem.W.Frag} {ρ : List Addr} {H : Hp} {v : V} {xs : List D} (h : DV K ρ H (.tup xs) v) : ∃ a vs, v = .ref a ∧ SqT K H a vs ∧ DVs K ρ H xs vs := by
  simp only [DV] at h
  exact h
/-! ### + -/
open Classical in
noncomputable def catL (a b : List D) : Option D := if sizeOk (a.length + b.length) then some (.lst (a ++ b)) else none
open Classical in
noncomputable def gAdd (S : Sto) (x y : D) : Option D := match x, y with
  | .int i, .int j => some (.int (i + j))
  | .str a, .str b => if sizeOk (a.length + b.length) then some (.str (a ++ b)) else none
  | .tup a, .tup b => if sizeOk (a.length + b.length) then some (.tup (a ++ b)) else none
  | x, y => (match seqL S x, seqL S y with
    | some a, some b => catL a b
    | _, _ => none)
theorem sv_len (a : Tx) : (⟨a.toArray⟩ : Str).length = a.length := by simp [Str.length]
theorem sv_cat (a b : Tx) : (⟨a.toArray⟩ : Str) ++ (⟨b.toArray⟩ : Str) = ⟨(a ++ b).toArray⟩ := by
  show (⟨a.toArray ++ b.toArray⟩ : Str) = _
  simp
theorem post_int {K : PySem.W.Frag} {ρ : List Addr} {S : Sto} {H : Hp} {Q : VK} {i : Int} (r : Rel K ρ S H) (q : ∀ ρ' H' v, Rel K ρ' S H' → Ext K ρ H ρ' H' → DV K ρ' H' (.int i) v → Q v H') : Q (.int i) H := q ρ H _ r Ext.refl (by simp [DV])
theorem post_bl {K : PySem.W.Frag} {ρ : List Addr} {S : Sto} {H : Hp} {Q : VK} {i : Bool} (r : Rel K ρ S H) (q : ∀ ρ' H' v, Rel K ρ' S H' → Ext K ρ H ρ' H' → DV K ρ' H' (.bl i) v → Q v H') : Q (.bl i) H := q ρ H _ r Ext.refl (by simp [DV])
theorem post_str {K : PySem.W.Frag} {ρ : List Addr} {S : Sto} {H : Hp} {Q : VK} {i : Tx} (r : Rel K ρ S H) (q : ∀ ρ' H' v, Rel K ρ' S H' → Ext K ρ H ρ' H' → DV K ρ' H' (.str i) v → Q v H') : Q (sv i) H := q ρ H _ r Ext.refl (by simp [DV])
theorem post_lst {K : PySem.W.Frag} {ρ : List Addr} {S : Sto} {H : Hp} {Q : VK} {xs : List D} {vs : List V} {p : Addr} (r : Rel K ρ S H) (hp : H p = none) (h : DVs K ρ H xs vs) (q : ∀ ρ' H' v, Rel K ρ' S H' → Ext K ρ H ρ' H' → DV K ρ' H' (.lst xs) v → Q v H') : Q (.ref p) (upd H p (.lst vs)) :=
  q ρ _ _ (r.new hp) (Ext.new hp) (dv_lst hp (r.notin hp) h)
theorem post_tup {K : PySem.W.Frag} {ρ : List Addr} {S : Sto} {H : Hp} {Q : VK} {xs : List D} {vs : List V} {p : Addr} (r : Rel K ρ S H) (hp : H p = none) (h : DVs K ρ H xs vs) (q : ∀ ρ' H' v, Rel K ρ' S H' → Ext K ρ H ρ' H' → DV K ρ' H' (.tup xs) v → Q v H') : Q (.ref p) (upd H p (.tup vs)) :=
  q ρ _ _ (r.new hp) (Ext.new hp) (dv_tup hp h)
def rAddD (K : PySem.W.Frag) : R2 := fun x y H Q => (rI0 fun i j => .int (i + j)) x y H Q ∨ (∃ i j, x = .str i ∧ y = .str j ∧ i.length + j.length ≤ sizeLine ∧ Q (.str (i ++ j)) H) ∨ rCatA K x y H Q ∨ rCat x y H Q
theorem op_addD : OpR X (binaryOp .Add) (rAddD X.K) := op_add.or (op_add_str.or (op_catA.or op_cat))
theorem add_cat {x y : D} {v u : V} {H : Hp} {Q : VK} {ρ : List Addr} {S : Sto} {d : D} {K : PySem.W.Frag} (r : Rel K ρ S H) (dx : DV K ρ H x v) (dy : DV K ρ H y u)
    (hg : (match seqL S x, seqL S y with
    | some a, some b => catL a b
    | _, _ => none) = some d) (q : ∀ ρ' H' v, Rel K ρ' S H' → Ext K ρ H ρ' H' → DV K ρ' H' d v → Q v H') : rCat v u H Q := by
  cases e1 : seqL S x with
  | none => rw [e1] at hg; cases hg
  | some a =>
    cases e2 : seqL S y with
    | none => rw [e1, e2] at hg; cases hg
    | some b =>
      rw [e1, e2] at hg
      simp only [catL] at hg
      obtain ⟨p, vs, rfl, h1, d1⟩ := seqL_ok r dx e1
      obtain ⟨p2, us, rfl, h2, d2⟩ := seqL_ok r dy e2
      by_cases hl : sizeOk (a.length + b.length)
      · rw [if_pos hl] at hg
        cases hg
        exact ⟨p, p2, vs, us, rfl, rfl, h1, h2, by rw [← d1.length, ← d2.length]; exact hl, fun t ht => post_lst r ht (d1.append d2) q⟩
      · rw [if_neg hl] at hg; cases hg
theorem rp_add : ∀ x y H Q, rP X.K gAdd x y H Q → rAddD X.K x y H Q := by
  rintro v u H Q ⟨ρ, S, x, y, d, r, dx, dy, hg, q⟩
  unfold gAdd at hg
  split at hg
  · rw [dv_int] at dx dy
    subst dx dy
    cases hg
    exact .inl ⟨_, _, rfl, rfl, post_int r q⟩
  · rename_i a b
    rw [dv_str] at dx dy
    subst dx dy
    by_cases hl : sizeOk (a.length + b.length)
    · rw [if_pos hl] at hg
      cases hg
      exact .inr (.inl ⟨_, _, rfl, rfl, by rw [sv_len, sv_len]; exact hl, by rw [sv_cat]; exact post_str r q⟩)
    · rw [if_neg hl] at hg; cases hg
  · rename_i a b
    obtain ⟨p, vs, rfl, h1, d1⟩ := tup_ok dx
    obtain ⟨p2, us, rfl, h2, d2⟩ := tup_ok dy
    by_cases hl : sizeOk (a.length + b.length)
    · rw [if_pos hl] at hg
      cases hg
      refine .inr (.inr (.inl ⟨p, p2, vs, us, rfl, rfl, h1, h2, by rw [← d1.length, ← d2.length]; exact hl, fun e => ?_, fun _ e => ?_, fun _ _ t ht => post_tup r ht (d1.append d2) q⟩))
      · have : a = [] := List.length_eq_zero_iff.mp (by rw [d1.length, e]; rfl)
        subst this
        exact q ρ H _ r Ext.refl dy
      · have : b = [] := List.length_eq_zero_iff.mp (by rw [d2.length, e]; rfl)
        subst this
        rw [List.append_nil] at q
        exact q ρ H _ r Ext.refl dx
    · rw [if_neg hl] at hg; cases hg
  · exact .inr (.inr (.inr (add_cat r dx dy hg q)))
/-! ### the others on whole numbers -/
def gII (f : Int → Int → Option D) (_ : Sto) (x y : D) : Option D := match x, y with
  | .int i, .int j => f i j
  | _, _ => none
theorem gII_some {f : Int → Int → Option D} {S : Sto} {x y d : D} (h : gII f S x y = some d) : ∃ i j, x = .int i ∧ y = .int j ∧ f i j = some d := by
  unfold gII at h
  split at h
  · exact ⟨_, _, rfl, rfl, h⟩
  · cases h
theorem rp_ii {f : Int → Int → Option D} {r : R2} (hr : ∀ (i j : Int) (d : D) (H : Hp) (Q : VK), f i j = some d → (∀ v, (∀ K ρ H, DV K ρ H d v) → Q v H) → r (.int i) (.int j) H Q) : ∀ x y H Q, rP X.K (gII f) x y H Q → r x y H Q := by
  rintro v u H Q ⟨ρ, S, x, y, d, r, dx, dy, hg, q⟩
  obtain ⟨i, j, rfl, rfl, hf⟩ := gII_some hg
  rw [dv_int] at dx dy
  subst dx dy
  exact hr i j d H Q hf fun v hv => q ρ H v r Ext.refl (hv _ _ _)
theorem dvI {i : Int} : ∀ (K : PySem.W.Frag) (ρ : List Addr) (H : Hp), DV K ρ H (.int i) (.int i) := fun _ _ _ => by simp [DV]
theorem dvB {i : Bool} : ∀ (K : PySem.W.Frag) (ρ : List Addr) (H : Hp), DV K ρ H (.bl i) (.bl i) := fun _ _ _ => by simp [DV]
def gMns := gII fun i j => some (.int (i - j))
theorem rp_sub : ∀ x y H Q, rP X.K gMns x y H Q → (rI0 fun i j => .int (i - j)) x y H Q := rp_ii fun i j d H Q h q => by cases h; exact ⟨i, j, rfl, rfl, q _ dvI⟩
def mulOk (i j : Int) : Prop := CMul i j ∨ CMulW i j
open Classical in
noncomputable def gMul := gII fun i j => if mulOk i j then some (.int (i * j)) else none
def rMulD : R2 := fun x y H Q => (rI CMul fun i j => .int (i * j)) x y H Q ∨ (rI CMulW fun i j => .int (i * j)) x y H Q
theorem op_mulD : OpR X (binaryOp .Mult) rMulD := op_mul.or op_mulW
theorem rp_mul : ∀ x y H Q, rP X.K gMul x y H Q → rMulD x y H Q := rp_ii fun i j d H Q h q => by
  by_cases hm : mulOk i j
  · rw [if_pos hm] at h
    cases h
    rcases hm with hm | hm
    · exact .inl ⟨i, j, rfl, rfl, hm, q _ dvI⟩
    · exact .inr ⟨i, j, rfl, rfl, hm, q _ dvI⟩
  · rw [if_neg hm] at h; cases h
def divOk (j : Int) : Prop := 0 < j ∧ j.natAbs.log2 < 9000
open Classical in
noncomputable def gDiv := gII fun i j => if divOk j then some (.int (i / j)) else none
theorem rp_div : ∀ x y H Q, rP X.K gDiv x y H Q → (rI CDivW fun i j => .int (i / j)) x y H Q := rp_ii fun i j d H Q h q => by
  by_cases hm : divOk j
  · rw [if_pos hm] at h; cases h; exact ⟨i, j, rfl, rfl, hm, q _ dvI⟩
  · rw [if_neg hm] at h; cases h
def modOk (j : Int) : Prop := 0 < j
open Classical in
noncomputable def gMod := gII fun i j => if modOk j then some (.int (i % j)) else none
theorem rp_mod : ∀ x y H Q, rP X.K gMod x y H Q → (rI (fun _ j => 0 < j) fun i j => .int (i % j)) x y H Q := rp_ii fun i j d H Q h q => by
  by_cases hm : modOk j
  · rw [if_pos hm] at h; cases h; exact ⟨i, j, rfl, rfl, hm, q _ dvI⟩
  · rw [if_neg hm] at h; cases h
def powOk (i j : Int) : Prop := 0 ≤ j ∧ j ≤ 1000000 ∧ i.natAbs < 2 ^ 64
open Classical in
noncomputable def gPow := gII fun i j => if powOk i j then some (.int (i ^ j.toNat)) else none
theorem rp_pow : ∀ x y H Q, rP X.K gPow x y H Q → (rI CPow fun i j => .int (i ^ j.toNat)) x y H Q := rp_ii fun i j d H Q h q => by
  by_cases hm : powOk i j
  · rw [if_pos hm] at h; cases h; exact ⟨i, j, rfl, rfl, hm, q _ dvI⟩
  · rw [if_neg hm] at h; cases h
/-! order of numbers, of texts -/
def gLt (_ : Sto) (x y : D) : Option D := match x, y with
  | .int i, .int j => some (.bl (decide (i < j)))
  | .str a, .str b => some (.bl (decide (a < b)))
  | _, _ => none
def gGt (S : Sto) (x y : D) : Option D := gLt S y x
def gLe (_ : Sto) (x y : D) : Option D := match x, y with
  | .int i, .int j => some (.bl (decide (i ≤ j)))
  | .str a, .str b => some (.bl (!decide (b < a)))
  | _, _ => none
def gGe (S : Sto) (x y : D) : Option D := gLe S y x
def rLtD : R2 := fun x y H Q => (rI0 fun i j => .bl (decide (i < j))) x y H Q ∨ (∃ i j, x = .str i ∧ y = .str j ∧ Q (.bl (decide (i.cps.toList < j.cps.toList))) H)
def rGtD : R2 := fun x y H Q => (rI0 fun i j => .bl (decide (j < i))) x y H Q ∨ (∃ i j, x = .str i ∧ y = .str j ∧ Q (.bl (decide (j.cps.toList < i.cps.toList))) H)
def rLeD : R2 := fun x y H Q => (rI0 fun i j => .bl (decide (i ≤ j))) x y H Q ∨ (∃ i j, x = .str i ∧ y = .str j ∧ Q (.bl (!decide (j.cps.toList < i.cps.toList))) H)
def rGeD : R2 := fun x y H Q => (rI0 fun i j => .bl (decide (j ≤ i))) x y H Q ∨ (∃ i j, x = .str i ∧ y = .str j ∧ Q (.bl (!decide (i.cps.toList < j.cps.toList))) H)
theorem op_ltD : OpR X (compareOp .Lt) rLtD := op_lt.or op_lt_str
theorem op_gtD : OpR X (compareOp .Gt) rGtD := op_gt.or op_gt_str
theorem op_leD : OpR X (compareOp .LtE) rLeD := op_le.or op_le_str
theorem op_geD : OpR X (compareOp .GtE) rGeD := op_ge.or op_ge_str
theorem rp_lt : ∀ x y H Q, rP X.K gLt x y H Q → rLtD x y H Q := by
  rintro v u H Q ⟨ρ, S, x, y, d, r, dx, dy, hg, q⟩
  unfold gLt at hg
  split at hg
  · rw [dv_int] at dx dy; subst dx dy; cases hg
    exact .inl ⟨_, _, rfl, rfl, post_bl r q⟩
  · rw [dv_str] at dx dy; subst dx dy; cases hg
    exact .inr ⟨_, _, rfl, rfl, post_bl r q⟩
  · cases hg
theorem rp_gt : ∀ x y H Q, rP X.K gGt x y H Q → rGtD x y H Q := by
  rintro v u H Q ⟨ρ, S, x, y, d, r, dx, dy, hg, q⟩
  unfold gGt gLt at hg
  split at hg
  · rw [dv_int] at dx dy; subst dx dy; cases hg
    exact .inl ⟨_, _, rfl, rfl, post_bl r q⟩
  · rw [dv_str] at dx dy; subst dx dy; cases hg
    exact .inr ⟨_, _, rfl, rfl, post_bl r q⟩
  · cases hg
theorem rp_le : ∀ x y H Q, rP X.K gLe x y H Q → rLeD x y H Q := by
  rintro v u H Q ⟨ρ, S, x, y, d, r, dx, dy, hg, q⟩
  unfold gLe at hg
  split at hg
  · rw [dv_int] at dx dy; subst dx dy; cases hg
    exact .inl ⟨_, _, rfl, rfl, post_bl r q⟩
  · rw [dv_str] at dx dy; subst dx dy; cases hg
    exact .inr ⟨_, _, rfl, rfl, post_bl r q⟩
  · cases hg
theorem rp_ge : ∀ x y H Q, rP X.K gGe x y H Q → rGeD x y H Q := by
  rintro v u H Q ⟨ρ, S, x, y, d, r, dx, dy, hg, q⟩
  unfold gGe gLe at hg
  split at hg
  · rw [dv_int] at dx dy; subst dx dy; cases hg
    exact .inl ⟨_, _, rfl, rfl, post_bl r q⟩
  · rw [dv_str] at dx dy; subst dx dy; cases hg
    exact .inr ⟨_, _, rfl, rfl, post_bl r q⟩
  · cases hg
/-! ### == -/
mutual
def toP : D → Option PyData
  | .non => some .none
  | .bl b => some (.bool b)
  | .int i => some (.int i)
  | .str x => some (.str ⟨x.toArray⟩)
  | .tup xs => (toPs xs).map PyData.tuple
  | .lst xs => (toPs xs).map PyData.list
  | .fz xs => (toPs xs).map PyData.list
  | .loc _ => none
  | .ty _ => none
  | .glo _ => none
  | .exo => none
def toPs : List D → Option (List PyData)
  | [] => some []
  | x :: xs => match toP x, toPs xs with
    | some a, some b => some (a :: b)
    | _, _ => none
end
mutual
theorem toP_ok {K : PySem.W.Frag} {ρ : List Addr} {H : Hp} : ∀ (d : D) (v : V) (p : PyData), DV K ρ H d v → toP d = some p → Dp K H v p
  | .non, v, p, h, q => by simp only [DV] at h; simp only [toP] at q; cases q; subst h; exact .non
  | .bl b, v, p, h, q => by simp only [DV] at h; simp only [toP] at q; cases q; subst h; exact .bl b
  | .int i, v, p, h, q => by simp only [DV] at h; simp only [toP] at q; cases q; subst h; exact .int i
  | .str x, v, p, h, q => by simp only [DV] at h; simp only [toP] at q; cases q; subst h; exact .str _
  | .tup xs, v, p, h, q => by
    simp only [DV] at h; simp only [toP] at q
    obtain ⟨a, vs, rfl, h1, h2⟩ := h
    cases e : toPs xs with
    | none => rw [e] at q; cases q
    | some ps => rw [e] at q; cases q; exact .tup h1 (toPs_ok xs vs ps h2 e)
  | .lst xs, v, p, h, q => by
    simp only [DV] at h; simp only [toP] at q
    obtain ⟨a, vs, rfl, h1, h2⟩ := h
    cases e : toPs xs with
    | none => rw [e] at q; cases q
    | some ps => rw [e] at q; cases q; exact .lst h1.seq (toPs_ok xs vs ps h2 e)
  | .fz xs, v, p, h, q => by
    simp only [DV] at h; simp only [toP] at q
    obtain ⟨a, vs, rfl, h1, h2⟩ := h
    cases e : toPs xs with
    | none => rw [e] at q; cases q
    | some ps => rw [e] at q; cases q; exact .lst h1.seq (toPs_ok xs vs ps h2 e)
  | .loc _, _, _, _, q => by simp only [toP] at q; cases q
  | .ty _, _, _, _, q => by simp only [toP] at q; cases q
  | .glo _, _, _, _, q => by simp only [toP] at q; cases q
  | .exo, _, _, _, q => by simp only [toP] at q; cases q
theorem toPs_ok {K : PySem.W.Frag} {ρ : List Addr} {H : Hp} : ∀ (ds : List D) (vs : List V) (ps : List PyData), DVs K ρ H ds vs → toPs ds = some ps → DpAll K H vs ps
  | [], vs, ps, h, q => by simp only [DVs] at h; simp only [toPs] at q; cases q; subst h; exact .nil
  | x :: xs, vs, ps, h, q => by
    simp only [DVs] at h; simp only [toPs] at q
    obtain ⟨v, r, rfl, h1, h2⟩ := h
    cases e : toP x with
    | none => rw [e] at q; cases q
    | some a =>
      cases e2 : toPs xs with
      | none => rw [e, e2] at q; cases q
      | some b => rw [e, e2] at q; cases q; exact .cons (toP_ok x v a h1 e) (toPs_ok xs r b h2 e2)
end
/-- the datum of a value, a list that may change by its items -/
def toPS (S : Sto) (d : D) : Option PyData := match seqF S d with
  | some xs => (toPs xs).map PyData.list
  | none => toP d
theorem toPS_ok {K : PySem.W.Frag} {ρ : List Addr} {S : Sto} {H : Hp} (r : Rel K ρ S H) {d : D} {v : V} {p : PyData} (h : DV K ρ H d v) (q : toPS S d = some p) : Dp K H v p := by
  unfold toPS at q
  cases e : seqF S d with
  | none => rw [e] at q; exact toP_ok d v p h q
  | some xs =>
    rw [e] at q
    obtain ⟨a, vs, rfl, h1, h2⟩ := seqF_ok r h e
    simp only at q
    cases e2 : toPs xs with
    | none => rw [e2] at q; cases q
    | some ps => rw [e2] at q; cases q; exact .lst h1 (toPs_ok xs vs ps h2 e2)
def deepEq (S : Sto) (x y : D) : Option Bool := match toPS S x, toPS S y with
  | some a, some b => if SeqAt.shaped a = true ∧ SeqAt.shaped b = true then some (PyData.eqv a b) else none
  | _, _ => none
def eqB (S : Sto) (x y : D) : Option Bool := match x, y with
  | .int i, .int j => some (decide (i = j))
  | .str a, .str b => some (decide (a = b))
  | .bl a, .bl b => some (decide (a = b))
  | .non, .non => some true
  | .non, .int _ => some false
  | .int _, .non => some false
  | .str _, .non => some false
  | .non, .str _ => some false
  | x, y => deepEq S x y
def gEq (S : Sto) (x y : D) : Option D := (eqB S x y).map D.bl
def gNe (S : Sto) (x y : D) : Option D := (eqB S x y).map fun b => D.bl (!b)
def rEqA (K : PySem.W.Frag) : R2 := fun x y H Q => rEq x y H Q ∨ rEqD K x y H Q
def rNeA (K : PySem.W.Frag) : R2 := fun x y H Q => rNe x y H Q ∨ rNeD K x y H Q
theorem op_eqA (hu : X.A.units + 64 < cLine) : OpR X (compareOp .Eq) (rEqA X.K) := op_eq.or (op_eqD hu)
theorem op_neA (hu : X.A.units + 64 < cLine) : OpR X (compareOp .NotEq) (rNeA X.K) := op_ne.or (op_neD hu)
theorem sv_inj {a b : Tx} : sv a = sv b ↔ a = b := by
  unfold sv
  constructor
  · intro h
    injection h with h
    exact congrArg (fun x : Str => x.cps.toList) h
  · intro h; rw [h]
theorem eqB_ok {K : PySem.W.Frag} {ρ : List Addr} {S : Sto} {H : Hp} {x y : D} {v u : V} {b : Bool} (r : Rel K ρ S H) (dx : DV K ρ H x v) (dy : DV K ρ H y u) (h : eqB S x y = some b) :
    (scal v u = true ∧ decide (v = u) = b) ∨ ∃ d e, Dp K H v d ∧ Dp K H u e ∧ SeqAt.shaped d = true ∧ SeqAt.shaped e = true ∧ PyData.eqv d e = b := by
  unfold eqB at h
  split at h
  · rw [dv_int] at dx dy; subst dx dy; cases h; exact .inl ⟨rfl, by simp⟩
  · rw [dv_str] at dx dy; subst dx dy; cases h; exact .inl ⟨rfl, by simp [sv_inj]⟩
  · rw [dv_bl] at dx dy; subst dx dy; cases h; exact .inl ⟨rfl, by simp⟩
  · rw [dv_non] at dx dy; subst dx dy; cases h; exact .inl ⟨by rw [show scal V.non V.non = true from rfl], by simp⟩
  · rw [dv_non] at dx; rw [dv_int] at dy; subst dx dy; cases h; exact .inl ⟨rfl, by simp⟩
  · rw [dv_int] at dx; rw [dv_non] at dy; subst dx dy; cases h; exact .inl ⟨rfl, by simp⟩
  · rw [dv_str] at dx; rw [dv_non] at dy; subst dx dy; cases h; exact .inl ⟨rfl, by simp [sv]⟩
  · rw [dv_non] at dx; rw [dv_str] at dy; subst dx dy; cases h; exact .inl ⟨rfl, by simp [sv]⟩
  · unfold deepEq at h
    split at h
    · rename_i a b' e1 e2
      by_cases hs : SeqAt.shaped a = true ∧ SeqAt.shaped b' = true
      · rw [if_pos hs] at h
        cases h
        exact .inr ⟨a, b', toPS_ok r dx e1, toPS_ok r dy e2, hs.1, hs.2, rfl⟩
      · rw [if_neg hs] at h; cases h
    · cases h
theorem rp_eq : ∀ x y H Q, rP X.K gEq x y H Q → rEqA X.K x y H Q := by
  rintro v u H Q ⟨ρ, S, x, y, d, r, dx, dy, hg, q⟩
  unfold gEq at hg
  cases e : eqB S x y with
  | none => rw [e] at hg; cases hg
  | some b =>
    rw [e] at hg
    cases hg
    rcases eqB_ok r dx dy e with ⟨h1, rfl⟩ | ⟨a, c, h1, h2, h3, h4, rfl⟩
    · exact .inl ⟨h1, post_bl r q⟩
    · exact .inr ⟨a, c, h1, h2, h3, h4, post_bl r q⟩
theorem rp_ne : ∀ x y H Q, rP X.K gNe x y H Q → rNeA X.K x y H Q := by
  rintro v u H Q ⟨ρ, S, x, y, d, r, dx, dy, hg, q⟩
  unfold gNe at hg
  cases e : eqB S x y with
  | none => rw [e] at hg; cases hg
  | some b =>
    rw [e] at hg
    cases hg
    rcases eqB_ok r dx dy e with ⟨h1, rfl⟩ | ⟨a, c, h1, h2, h3, h4, rfl⟩
    · exact .inl ⟨h1, post_bl r q⟩
    · exact .inr ⟨a, c, h1, h2, h3, h4, post_bl r q⟩
/-! is None -/
def gIsN (_ : Sto) (x y : D) : Option D := match y with
  | .non => some (.bl (match x with | .non => true | _ => false))
  | _ => none
def gNotN (_ : Sto) (x y : D) : Option D := match y with
  | .non => some (.bl (match x with | .non => false | _ => true))
  | _ => none
theorem dv_isnon {K : PySem.W.Frag} {ρ : List Addr} {H : Hp} {x : D} {v : V} (h : DV K ρ H x v) : decide (v = .non) = (match x with | .non => true | _ => false) := by
  cases x with
  | non => rw [dv_non] at h; subst h; rfl
  | bl b => rw [dv_bl] at h; subst h; simp
  | int b => rw [dv_int] at h; subst h; simp
  | str b => rw [dv_str] at h; subst h; simp [sv]
  | tup b => simp only [DV] at h; obtain ⟨a, vs, rfl, _⟩ := h; simp
  | lst b => simp only [DV] at h; obtain ⟨a, vs, rfl, _⟩ := h; simp
  | fz b => simp only [DV] at h; obtain ⟨a, vs, rfl, _⟩ := h; simp
  | loc b => simp only [DV] at h; obtain ⟨a, rfl, _⟩ := h; simp
  | ty b => simp only [DV] at h; subst h; simp
  | glo b => simp only [DV] at h; subst h; simp
  | exo => simp only [DV] at h; obtain ⟨a, rfl⟩ := h; simp
def rIsD : R2 := fun x y H Q => (y = .non ∧ Q (.bl (decide (x = .non))) H)
def rIsND : R2 := fun x y H Q => (y = .non ∧ Q (.bl (!decide (x = .non))) H)
theorem rp_isN : ∀ x y H Q, rP X.K gIsN x y H Q → rIsD x y H Q := by
  rintro v u H Q ⟨ρ, S, x, y, d, r, dx, dy, hg, q⟩
  unfold gIsN at hg
  split at hg
  · rw [dv_non] at dy; subst dy; cases hg
    refine ⟨rfl, ?_⟩
    rw [dv_isnon dx]
    cases x <;> exact post_bl r q
  · cases hg
theorem rp_notN : ∀ x y H Q, rP X.K gNotN x y H Q → rIsND x y H Q := by
  rintro v u H Q ⟨ρ, S, x, y, d, r, dx, dy, hg, q⟩
  unfold gNotN at hg
  split at hg
  · rw [dv_non] at dy; subst dy; cases hg
    refine ⟨rfl, ?_⟩
    rw [dv_isnon dx]
    cases x <;> exact post_bl r q
  · cases hg
/-! ### in -/
/-- in a text: one sign; in a row of plain data -/
def inB (S : Sto) (x y : D) : Option Bool := match x, y with
  | .str [c], .str z => some (decide (c ∈ z))
  | x, y => (match toP x, (match y with | .tup ys => toPs ys | y => (seqF S y).bind toPs) with
    | some a, some bs => if SeqAt.shaped a = true ∧ SeqAt.shaped (.list bs) = true then some (bs.any fun z => PyData.eqv z a) else none
    | _, _ => none)
/-! ### one operand, built-ins -/
def gNeg (_ : Sto) (x : D) : Option D := match x with
  | .int i => some (.int (-i))
  | _ => none
theorem rp_neg : ∀ x H Q, rP1 X.K gNeg x H Q → (rU fun i => .int (-i)) x H Q := by
  rintro v H Q ⟨ρ, S, x, d, r, dx, hg, q⟩
  unfold gNeg at hg
  split at hg
  · rw [dv_int] at dx; subst dx; cases hg
    exact ⟨_, rfl, post_int r q⟩
  · cases hg
open Classical in
noncomputable def gLen (S : Sto) (ds : List D) : Option D := match ds with
  | [.str x] => if sizeOk (x.length) then some (.int x.length) else none
  | [.tup xs] => some (.int xs.length)
  | [d] => (seqF S d).map fun xs => .int xs.length
  | _ => none
theorem dvs1 {K : PySem.W.Frag} {ρ : List Addr} {H : Hp} {d : D} {vs : List V} (h : DVs K ρ H [d] vs) : ∃ v, vs = [v] ∧ DV K ρ H d v := by
  simp only [DVs] at h
  obtain ⟨v, r, rfl, h1, rfl⟩ := h
  exact ⟨v, rfl, h1⟩
theorem dvs2 {K : PySem.W.Frag} {ρ : List Addr} {H : Hp} {d e : D} {vs : List V} (h : DVs K ρ H [d, e] vs) : ∃ v u, vs = [v, u] ∧ DV K ρ H d v ∧ DV K ρ H e u := by
  simp only [DVs] at h
  obtain ⟨v, r, rfl, h1, u, t, rfl, h2, rfl⟩ := h
  exact ⟨v, u, rfl, h1, h2⟩
def rLenD (K : PySem.W.Frag) : List V → Hp → VK → Prop := fun xs H Q => ∃ x n, xs = [x] ∧ LenV K x H n ∧ Q (.int n) H
theorem rp_len : ∀ vs H Q, rPB X.K gLen vs H Q → rLenD X.K vs H Q := by
  rintro vs H Q ⟨ρ, S, ds, d, r, dv, hg, q⟩
  unfold gLen at hg
  split at hg
  · rename_i x
    obtain ⟨v, rfl, h1⟩ := dvs1 dv
    rw [dv_str] at h1; subst h1
    by_cases hl : sizeOk (x.length)
    · rw [if_pos hl] at hg; cases hg
      exact ⟨_, _, rfl, ⟨by rw [sv_len]; exact hl, (sv_len x).symm⟩, post_int r q⟩
    · rw [if_neg hl] at hg; cases hg
  · rename_i xs
    obtain ⟨v, rfl, h1⟩ := dvs1 dv
    obtain ⟨a, us, rfl, h2, h3⟩ := tup_ok h1
    cases hg
    exact ⟨_, _, rfl, .inr ⟨us, h2, h3.length⟩, post_int r q⟩
  · rename_i x _ _
    obtain ⟨v, rfl, h1⟩ := dvs1 dv
    cases e : seqF S x with
    | none => rw [e] at hg; cases hg
    | some xs =>
      rw [e] at hg; cases hg
      obtain ⟨a, us, rfl, h2, h3⟩ := seqF_ok r h1 e
      exact ⟨_, _, rfl, .inl ⟨us, h2, h3.length⟩, post_int r q⟩
  · cases hg
def gAbs (_ : Sto) (ds : List D) : Option D := match ds with
  | [.int i] => some (.int (if i < 0 then -i else i))
  | _ => none
theorem rp_abs : ∀ vs H Q, rPB X.K gAbs vs H Q → (∃ i, vs = [V.int i] ∧ Q (.int (if i < 0 then -i else i)) H) := by
  rintro vs H Q ⟨ρ, S, ds, d, r, dv, hg, q⟩
  unfold gAbs at hg
  split at hg
  · have := dvs_int1 dv; subst this; cases hg
    exact ⟨_, rfl, post_int r q⟩
  · cases hg
def gMax2 (_ : Sto) (ds : List D) : Option D := match ds with
  | [.int i, .int j] => some (.int (if j > i then j else i))
  | _ => none
theorem rp_max2 : ∀ vs H Q, rPB X.K gMax2 vs H Q → (∃ i j, vs = [V.int i, V.int j] ∧ Q (.int (if j > i then j else i)) H) := by
  rintro vs H Q ⟨ρ, S, ds, d, r, dv, hg, q⟩
  unfold gMax2 at hg
  split at hg
  · have := dvs_int2 dv; subst this; cases hg
    exact ⟨_, _, rfl, post_int r q⟩
  · cases hg
def gMin2 (_ : Sto) (ds : List D) : Option D := match ds with
  | [.int i, .int j] => some (.int (if j < i then j else i))
  | _ => none
theorem rp_min2 : ∀ vs H Q, rPB X.K gMin2 vs H Q → (∃ i j, vs = [V.int i, V.int j] ∧ Q (.int (if j < i then j else i)) H) := by
  rintro vs H Q ⟨ρ, S, ds, d, r, dv, hg, q⟩
  unfold gMin2 at hg
  split at hg
  · have := dvs_int2 dv; subst this; cases hg
    exact ⟨_, _, rfl, post_int r q⟩
  · cases hg
/-- int of a number, of a truth -/
def gInt (_ : Sto) (ds : List D) : Option D := match ds with
  | [.int i] => some (.int i)
  | [.bl k] => some (.int (if k then 1 else 0))
  | _ => none
def rIntD : List V → Hp → VK → Prop := fun xs H Q => (∃ i, xs = [.int i] ∧ Q (.int i) H) ∨ ∃ k, xs = [.bl k] ∧ Q (.int (if k then 1 else 0)) H
theorem rp_int : ∀ vs H Q, rPB X.K gInt vs H Q → rIntD vs H Q := by
  rintro vs H Q ⟨ρ, S, ds, d, r, dv, hg, q⟩
  unfold gInt at hg
  split at hg
  · have := dvs_int1 dv; subst this; cases hg
    exact .inl ⟨_, rfl, post_int r q⟩
  · obtain ⟨v, rfl, h1⟩ := dvs1 dv
    rw [dv_bl] at h1; subst h1; cases hg
    exact .inr ⟨_, rfl, post_int r q⟩
  · cases hg
/-! items -/
def atD (xs : List D) (i : Int) : Option D := if 0 ≤ i then xs[i.toNat]? else if -(xs.length : Int) ≤ i then xs[(i + xs.length).toNat]? else none
theorem atD_ok {K : PySem.W.Frag} {ρ : List Addr} {H : Hp} {xs : List D} {vs : List V} {i : Int} {d : D} (h : DVs K ρ H xs vs) (e : atD xs i = some d) : ∃ v, atI vs i = some v ∧ DV K ρ H d v := by
  unfold atD at e
  unfold atI ixN
  have hl := h.length
  by_cases h0 : 0 ≤ i
  · rw [if_pos h0] at e ⊢
    obtain ⟨v, h1, h2⟩ := h.get e
    have hi := (List.getElem?_eq_some_iff.mp h1).1
    rw [if_pos (by omega)]
    exact ⟨v, h1, h2⟩
  · rw [if_neg h0] at e ⊢
    by_cases h1 : -(xs.length : Int) ≤ i
    · rw [if_pos h1] at e
      rw [if_pos (by omega)]
      obtain ⟨v, h1, h2⟩ := h.get e
      rw [hl] at h1
      exact ⟨v, h1, h2⟩
    · rw [if_neg h1] at e; cases e
open Classical in
noncomputable def gIx (S : Sto) (x y : D) : Option D := match x, y with
  | .str z, .int i => if sizeOk (z.length) then (if 0 ≤ i then z[i.toNat]? else if -(z.length : Int) ≤ i then z[(i + z.length).toNat]? else none).map fun c => .str [c] else none
  | .tup xs, .int i => atD xs i
  | x, .int i => (seqF S x).bind fun xs => atD xs i
  | _, _ => none
theorem rp_ix : ∀ x y H Q, rP X.K gIx x y H Q → rIx X.K x y H Q := by
  rintro v u H Q ⟨ρ, S, x, y, d, r, dx, dy, hg, q⟩
  unfold gIx at hg
  split at hg
  · rename_i z i
    rw [dv_str] at dx; rw [dv_int] at dy; subst dx dy
    by_cases hl : sizeOk (z.length)
    · rw [if_pos hl] at hg
      refine .inr (.inr ?_)
      have key : ∃ c, atI z i = some c ∧ d = .str [c] := by
        unfold atI ixN
        by_cases h0 : 0 ≤ i
        · rw [if_pos h0] at hg ⊢
          cases e : z[i.toNat]? with
          | none => rw [e] at hg; cases hg
          | some c =>
            rw [e] at hg; cases hg
            have hi := (List.getElem?_eq_some_iff.mp e).1
            rw [if_pos (by omega)]
            exact ⟨c, e, rfl⟩
        · rw [if_neg h0] at hg ⊢
          by_cases h1 : -(z.length : Int) ≤ i
          · rw [if_pos h1] at hg ⊢
            cases e : z[(i + (z.length : Int)).toNat]? with
            | none => rw [e] at hg; cases hg
            | some c => rw [e] at hg; cases hg; exact ⟨c, e, rfl⟩
          · rw [if_neg h1] at hg; cases hg
      obtain ⟨c, h1, rfl⟩ := key
      exact ⟨_, i, c, rfl, rfl, by rw [sv_len]; exact hl, h1, post_str r q⟩
    · rw [if_neg hl] at hg; cases hg
  · rename_i xs i
    rw [dv_int] at dy; subst dy
    obtain ⟨a, vs, rfl, h1, h2⟩ := tup_ok dx
    obtain ⟨w, h3, h4⟩ := atD_ok h2 hg
    exact .inr (.inl ⟨a, vs, i, w, rfl, rfl, h1, h3, q ρ H w r Ext.refl h4⟩)
  · rename_i i _ _
    rw [dv_int] at dy; subst dy
    cases e : seqF S x with
    | none => rw [e] at hg; cases hg
    | some xs =>
      rw [e] at hg
      obtain ⟨a, vs, rfl, h1, h2⟩ := seqF_ok r dx e
      obtain ⟨w, h3, h4⟩ := atD_ok h2 hg
      exact .inl ⟨a, vs, i, w, rfl, rfl, h1, h3, q ρ H w r Ext.refl h4⟩
  · cases hg
/-! name op= value -/
def ipSub : TIp := ipI fun i j => i - j
theorem rp_isub : ∀ x y H Q, rP X.K gMns x y H Q → (ipI fun i j => i - j) x y H Q := rp_ii fun i j d H Q h q => by cases h; exact ⟨i, j, rfl, rfl, q _ dvI⟩
theorem ipR {op : Operator} {r : R2} (h : OpR X (inplaceOp op) r) : PIp X op r := fun pins s σ H x y v u Q I r1 r2 q => h pins s σ H x y v u Q I r1 r2 q
theorem rp_imul : ∀ x y H Q, rP X.K gMul x y H Q → (rI (fun i j => mulOk i j) fun i j => .int (i * j)) x y H Q := rp_ii fun i j d H Q h q => by
  by_cases hm : mulOk i j
  · rw [if_pos hm] at h
    cases h
    exact ⟨i, j, rfl, rfl, hm, q _ dvI⟩
  · rw [if_neg hm] at h; cases h
theorem iop_mulD : OpR X (inplaceOp .Mult) (rI (fun i j => mulOk i j) fun i j => .int (i * j)) := opI fun _ _ _ _ _ _ _ hc q => imul_int q (hc.elim CMul.ok CMulW.ok)
/-! isinstance against a built-in type -/
def tyName : D → Option String
  | .non => some "NoneType"
  | .bl _ => some "bool"
  | .int _ => some "int"
  | .str _ => some "str"
  | .tup _ => some "tuple"
  | .lst _ => some "list"
  | .fz _ => some "list"
  | _ => none
/-- a small table: which type is a subtype of which -/
def isTy (t : String) : String → Option Bool
  | "int" => some (t == "int" || t == "bool")
  | "bool" => some (t == "bool")
  | "str" => some (t == "str")
  | "tuple" => some (t == "tuple")
  | "list" => some (t == "list")
  | "dict" => some (t == "dict")
  | _ => none
def gIsi (S : Sto) (ds : List D) : Option D := match ds with
  | [x, .ty n] => (match (match x with | .loc k => (match S[k]? with | some (.lst _) => some "list" | some (.dic _) => some "dict" | _ => none) | x => tyName x) with
    | some t => (isTy t n).map D.bl
    | none => none)
  | _ => none
theorem isTy_kit {K : PySem.W.Frag} {t n : String} {b : Bool} (ht : t ∈ ["NoneType", "bool", "int", "str", "tuple", "list", "dict"]) (h : isTy t n = some b) : PySem.W.kitOne K (.type t) (.type n) = some b := by
  refine kit_ty ?_
  unfold isTy at h
  split at h
  all_goals first
    | (cases h
       simp only [List.mem_cons, List.not_mem_nil, or_false] at ht
       rcases ht with rfl | rfl | rfl | rfl | rfl | rfl | rfl <;> decide +kernel)
    | cases h
theorem tyName_ok {K : PySem.W.Frag} {ρ : List Addr} {H : Hp} {x : D} {v : V} {t : String} (h : DV K ρ H x v) (e : tyName x = some t) : TyX K H v (.type t) ∧ t ∈ ["NoneType", "bool", "int", "str", "tuple", "list", "dict"] := by
  cases x with
  | non => cases e; rw [dv_non] at h; subst h; exact ⟨.base .non, by simp⟩
  | bl b => cases e; rw [dv_bl] at h; subst h; exact ⟨.base (.bl b), by simp⟩
  | int b => cases e; rw [dv_int] at h; subst h; exact ⟨.base (.int b), by simp⟩
  | str b => cases e; rw [dv_str] at h; subst h; exact ⟨.base (.str _), by simp⟩
  | tup b =>
    cases e
    obtain ⟨a, vs, rfl, h1, h2⟩ := tup_ok h
    refine ⟨?_, by simp⟩
    rcases h1 with (h1 | ⟨o, h1⟩) | ⟨o, its, n, h1, h3, _⟩
    · exact .base (.tup h1)
    · exact .fTuple h1
    · exact .kTuple h1 h3
  | lst b =>
    cases e
    simp only [DV] at h
    obtain ⟨a, vs, rfl, h1, h2⟩ := h
    exact ⟨.base (.lst h1.2), by simp⟩
  | fz b =>
    cases e
    simp only [DV] at h
    obtain ⟨a, vs, rfl, h1, h2⟩ := h
    refine ⟨?_, by simp⟩
    rcases h1 with ⟨o, h1⟩ | ⟨o, its, n, h1, h3, _⟩
    · exact .base (.frz h1)
    · exact .kList h1 h3
  | _ => cases e
theorem rp_isi : ∀ vs H Q, rPB X.K gIsi vs H Q → rIsi X.K vs H Q := by
  rintro vs H Q ⟨ρ, S, ds, d, r, dv, hg, q⟩
  unfold gIsi at hg
  split at hg
  · rename_i x n
    obtain ⟨v, u, rfl, h1, h2⟩ := dvs2 dv
    have e2 : u = .ty n := by simpa [DV] using h2
    subst e2
    split at hg
    · rename_i t ht
      cases e : isTy t n with
      | none => rw [e] at hg; cases hg
      | some b =>
        rw [e] at hg; cases hg
        have key : TyX X.K H v (.type t) ∧ t ∈ ["NoneType", "bool", "int", "str", "tuple", "list", "dict"] := by
          split at ht
          · rename_i k
            simp only [DV] at h1
            obtain ⟨a, rfl, ha⟩ := h1
            split at ht
            · rename_i xs hx
              cases ht
              obtain ⟨us, h3, _⟩ := r.at_ _ _ _ hx ha
              exact ⟨.base (.lst h3), by simp⟩
            · rename_i xs hx
              cases ht
              obtain ⟨us, h3, _⟩ := r.at_ _ _ _ hx ha
              exact ⟨.base (.dK h3), by simp⟩
            · cases ht
          · exact tyName_ok h1 ht
        exact ⟨v, .ty n, .type t, .type n, b, rfl, .ty n, key.1, isTy_kit key.2 e, post_bl r q⟩
    · cases hg
  · cases hg
end
end PD

/-! PyD4: from one level of calls to the next; the end. -/
namespace PD
open PySem PySem.Spec PyProof.Rows L2
section
variable {P : Program} {w : World} {K : PySem.W.Frag} {mg : Str → Option Value} {base : Heap} {x : Str} {params : Arguments} {body : List Stmt} {scope : Scope}
/-- a def of the top, found by its name; its parameters ps -/
structure FD (K : PySem.W.Frag) (mg : Str → Option Value) (x : Str) (params : Arguments) (body : List Stmt) (scope : Scope) (ps : List Str) : Prop where
  ex : ∃ f fd, FunD K x x params body scope [] [] f fd ∧ mg x = some (.ref f) ∧ Binds K fd ps []
theorem callF_zero {ps : List Str} {n : Nat} (F : FD K mg x params body scope ps) : CallF P w K mg base 0 x n (fun _ _ => .bad) := by
  obtain ⟨f, fd, F, hm, b⟩ := F.ex
  have no : ∀ vs H Q E, ¬ spM K n (fun _ _ => .bad) vs H Q E := fun vs H Q E h => by
    obtain ⟨ρ, S, ds, r, dv, hl, p⟩ := h
    exact p
  exact ⟨f, fd, ps, ⟨fun vs H Q E h => absurd h (no vs H Q E), fun A outer s H args us vs Q E _ _ _ _ h => absurd h (no vs H Q E)⟩, hm, F.kp, b⟩
theorem callF_succ {k n : Nat} {N ps : List Str} {b : MS} (F : FD K mg x params body scope ps) (Sc : FnScope N ps scope) (hn : ps.length = n)
    (hb : ∀ (f : Addr) (cdv : Value) (A : Around) (outer : List Env) (s : Shared) (H : Hp) (E : XK), Room k (A.deeper (envOfC x scope s.heap.objs.size f cdv)) → BD (cxOf (L2.CX P w) P w K mg base N x scope f cdv A outer s H E) (WW.of (K := K) fun c d _ H => E c d H) body b) :
    CallF P w K mg base (k + 1) x n (runB N.length b) := by
  obtain ⟨f, fd, F, hm, bd⟩ := F.ex
  exact ⟨f, fd, ps, fn_run F Sc hn (hb f), hm, F.kp, bd⟩
/-- the script as a value -/
theorem dv_script {H : Hp} {a : Addr} {ns : List Int} (ho : Only H) (hs : SqL K H a (ns.map V.int)) : DVs K [] H [.fz (ns.map D.int)] [.ref a] := by
  have di : ∀ ms : List Int, DVs K [] H (ms.map D.int) (ms.map V.int) := fun ms => by
    induction ms with
    | nil => simp [DVs]
    | cons m r ih => simp only [List.map_cons, DVs]; exact ⟨_, _, rfl, by simp [DV], ih⟩
  refine DVs.one ?_
  simp only [DV]
  refine ⟨a, _, rfl, ?_, di ns⟩
  rcases FzP.of hs with h | h | h
  · exact .inl h
  · exact .inr h
  · rcases ho a with q | ⟨o, xs, q⟩
    · rw [h] at q; cases q
    · rw [h] at q; cases q
theorem rel_nil {H : Hp} : Rel K [] [] H := ⟨rfl, List.nodup_nil, fun n o a h => by simp at h⟩
/-- the law's promise from its meaning -/
theorem law_sp {m : MF} {H : Hp} {a : Addr} {ns : List Int} {E : XK} (ho : Only H) (hs : SqL K H a (ns.map V.int)) (h : ∃ S', m [.fz (ns.map D.int)] [] = .ok (.bl true) S') : spM K 1 m [.ref a] H (fun v _ => v = .bl true) E := by
  obtain ⟨S', h⟩ := h
  refine ⟨[], [], _, rel_nil, dv_script ho hs, rfl, ?_⟩
  rw [h]
  intro ρ' H' v r e d
  simpa [DV] using d
theorem cx_end {P : Program} {w : World} (H : Hp) (s : Shared) (e : Value) (s' : Shared) (h : L2.CX P w [] H s (fun _ _ _ => False) e s') : False := by
  obtain ⟨_, _, _, _, _, _, _, _, _, _, _, _, z⟩ := h
  exact z
end
/-- a law by its meaning m: F tells the written part and what stands there -/
theorem walk_W {l : PySem.W.OpenLaw} {n k : Nat} {q : Program} {loose : List Str} {XP : (Str → Option Value) → Heap → Prop} {YP : World → Heap → Prop} {d : DefRec} {x : Str} {m : MF}
    (hn : l.most = some n) (hn2 : n ≤ sizeLine) (hdf : d.params.defaults = []) (hr : Room k callerA)
    (F : ∀ (w : World) (mg : Str → Option Value) (fa : Addr) (h : Heap), YP w h → h.Ns mainGlobals mg → mg d.name = some (.ref fa) →
      ∃ (K : PySem.W.Frag) (fd : FuncData), K.In h ∧ (∀ (s : Shared) (u : Value), BindsTo s fd ⟨[u], []⟩ [(x, u)]) ∧
        ∀ base : Heap, K.In base → base.Ns mainGlobals mg → FnOk l.prog w K mg base (L2.CX l.prog w) k fa fd [x] (spM K 1 m))
    (hm : ∀ ns : List Int, ns.length ≤ n → ∃ S', m [.fz (ns.map D.int)] [] = .ok (.bl true) S') :
    PySem.W.WalkO q loose XP YP l.row.toRowW d [] (fun f vs => PySem.call f vs) := by
  refine Att.attach_call hn hdf fun w s₀ s₁ mg mb fa o pm cd doc a vs ns G Y ho hd hcd hmg hobj hints hlen hg => ?_
  obtain ⟨K, fd, KX, hb, hF⟩ := F w mg fa _ Y G.T.g hmg
  exact law_call KX G.T.g G.T.b G.T.builtins G.T.nolimit hg hobj hints (Nat.le_trans hlen hn2) hr hF hb (fun H hO hS => law_sp hO hS (hm ns hlen)) fun H e s' => cx_end H s₁ e s'
/-- the law's own def, as the row calls it -/
theorem law_fn {P : Program} {w : World} {K : PySem.W.Frag} {mg : Str → Option Value} {base : Heap} {k : Nat} {params : Arguments} {body : List Stmt} {scope : Scope} {f fa : Addr} {fd : FuncData} {N : List Str} {b : MS}
    (F : FunD K "law" "law" params body scope [] [] f fd) (hm : mg "law" = some (.ref f)) (hfa : mg "law" = some (.ref fa)) (Sc : FnScope N ["script"] scope)
    (hb : ∀ (f : Addr) (cdv : Value) (A : Around) (outer : List Env) (s : Shared) (H : Hp) (E : XK), Room k (A.deeper (envOfC "law" scope s.heap.objs.size f cdv)) → BD (cxOf (L2.CX P w) P w K mg base N "law" scope f cdv A outer s H E) (WW.of (K := K) fun c d _ H => E c d H) body b) :
    FnOk P w K mg base (L2.CX P w) (k + 1) fa fd ["script"] (spM K 1 (runB N.length b)) := by
  have e := hm.symm.trans hfa
  cases e
  exact fn_run F Sc rfl (hb f)
end PD

/-! PyD5: to reckon with the meanings. -/
namespace PD
open PySem PySem.Spec PyProof.Rows L2
/-- one turn of a loop -/
def turn (g : MG) (b : MS) (x : D) : MS := fun E S => (g x E S).toS E fun E1 S1 => b E1 S1
theorem chk_none {S : Sto} : chkOk none S := trivial
theorem forD_nil {g : MG} {b : MS} {E : Evn} {S : Sto} : forD none g b [] E S = .nx E S := by rw [forD, if_pos chk_none]
theorem forD_cons {g : MG} {b : MS} {x : D} {l : List D} {E : Evn} {S : Sto} : forD none g b (x :: l) E S = (match turn g b x E S with
    | .nx E2 S2 => forD none g b l E2 S2
    | .ct E2 S2 => forD none g b l E2 S2
    | .bk E2 S2 => .nx E2 S2
    | o => o) := by
  rw [forD, if_pos chk_none]
  unfold turn
  cases g x E S <;> rfl
/-- a loop whose turns all go on -/
theorem forD_all {g : MG} {b : MS} (P : Nat → Evn → Sto → Prop) : ∀ (l : List D) (E : Evn) (S : Sto) (n : Nat), P n E S →
    (∀ i x E S, l[i]? = some x → P (n + i) E S → ∃ E2 S2, (turn g b x E S = .nx E2 S2 ∨ turn g b x E S = .ct E2 S2) ∧ P (n + i + 1) E2 S2) →
    ∃ E2 S2, forD none g b l E S = .nx E2 S2 ∧ P (n + l.length) E2 S2
  | [], E, S, n, h0, hs => ⟨E, S, forD_nil, h0⟩
  | x :: l, E, S, n, h0, hs => by
    obtain ⟨E2, S2, h1, h2⟩ := hs 0 x E S rfl h0
    obtain ⟨E3, S3, h3, h4⟩ := forD_all P l E2 S2 (n + 1) h2 (fun i y E S e p => by
      have := hs (i + 1) y E S (by simpa using e) (by rw [show n + (i + 1) = n + 1 + i by omega]; exact p)
      rw [show n + (i + 1) + 1 = n + 1 + i + 1 by omega] at this
      exact this)
    refine ⟨E3, S3, ?_, by rw [List.length_cons, show n + (l.length + 1) = n + 1 + l.length by omega]; exact h4⟩
    rw [forD_cons]
    rcases h1 with h1 | h1 <;> rw [h1] <;> exact h3
/-- the same from the start -/
theorem forD_inv {g : MG} {b : MS} {l : List D} {E : Evn} {S : Sto} (P : Nat → Evn → Sto → Prop) (h0 : P 0 E S)
    (hs : ∀ i x E S, l[i]? = some x → P i E S → ∃ E2 S2, (turn g b x E S = .nx E2 S2 ∨ turn g b x E S = .ct E2 S2) ∧ P (i + 1) E2 S2) :
    ∃ E2 S2, forD none g b l E S = .nx E2 S2 ∧ P l.length E2 S2 := by
  have := forD_all P l E S 0 h0 (fun i x E S e p => by
    rw [Nat.zero_add] at p ⊢
    exact hs i x E S e p)
  rwa [Nat.zero_add] at this
/-- a range's turns -/
theorem rng_get {lo : Int} {n i : Nat} {x : D} (h : (rngD lo n)[i]? = some x) : i < n ∧ x = .int (lo + (i : Int)) := rngD_get h
theorem rng_len {lo : Int} {n : Nat} : (rngD lo n).length = n := by simp [rngD]
theorem forR_inv {g : MG} {b : MS} {lo : Int} {n : Nat} {E : Evn} {S : Sto} (P : Nat → Evn → Sto → Prop) (h0 : P 0 E S)
    (hs : ∀ i E S, i < n → P i E S → ∃ E2 S2, (turn g b (.int (lo + (i : Int))) E S = .nx E2 S2 ∨ turn g b (.int (lo + (i : Int))) E S = .ct E2 S2) ∧ P (i + 1) E2 S2) :
    ∃ E2 S2, forD none g b (rngD lo n) E S = .nx E2 S2 ∧ P n E2 S2 := by
  have := forD_inv (g := g) (b := b) (l := rngD lo n) (E := E) (S := S) P h0 (fun i x E S e p => by
    obtain ⟨h1, rfl⟩ := rng_get e
    exact hs i E S h1 p)
  rwa [rng_len] at this
theorem mulOk_small {i j : Int} (h : j.natAbs < 2 ^ 64) : mulOk i j := .inl (.inr ⟨by omega, by omega⟩)
theorem mulOk_smallL {i j : Int} (h : i.natAbs < 2 ^ 64) : mulOk i j := .inl (.inl ⟨by omega, by omega⟩)
theorem mulOk_wide {i j : Int} {a b : Nat} (ha : i.natAbs < 2 ^ a) (hb : j.natAbs < 2 ^ b) (h0 : 0 < a) (h1 : 0 < b) (h : a + b ≤ 1000000) : mulOk i j := .inr (wide_mul ha hb h0 h1 h)
end PD
namespace PD
open PySem PySem.Spec PyProof.Rows L2
section
variable {E : Evn} {S : Sto}
theorem a_seq {a b : MS} : mSeq a b E S = (match a E S with
  | .nx E' S' => b E' S'
  | r => r) := rfl
theorem a_skip : mSkip E S = .nx E S := rfl
theorem a_break : mBreak E S = .bk E S := rfl
theorem a_cont : mCont E S = .ct E S := rfl
theorem a_if {c : MT} {a b : MS} : mIf c a b E S = (c E S).toS E fun x S1 => if x = true then a E S1 else b E S1 := rfl
theorem a_ret {a : ME} : mRet a E S = (a E S).toS E fun d S1 => .rt d S1 := rfl
theorem a_retN : mRetN E S = .rt .non S := rfl
theorem a_drop {a : ME} : mDrop a E S = (a E S).toS E fun _ S1 => .nx E S1 := rfl
theorem a_set {i : Nat} {a : ME} : mSet i a E S = (a E S).toS E fun d S1 => .nx (E.set i (some d)) S1 := rfl
theorem a_asg {a : ME} {g : MG} : mAsg a g E S = (a E S).toS E fun d S1 => (g d E S1).toS E fun E' S2 => .nx E' S2 := rfl
theorem a_aug {i : Nat} {g : Sto → D → D → Option D} {a : ME} : mAug i g a E S = (match E[i]? with
  | some (some x) => (a E S).toS E fun y S1 => (match g S1 x y with
    | some d => .nx (E.set i (some d)) S1
    | none => .bad)
  | _ => .bad) := rfl
theorem a_for {it : MI} {g : MG} {b : MS} : mFor it g b E S = (it E S).toS E fun i S1 => forD i.chk g b i.items E S1 := rfl
theorem a_var {i : Nat} : mVar i E S = (match E[i]? with
  | some (some d) => .ok d S
  | _ => .bad) := rfl
theorem a_c {d : D} : mC d E S = .ok d S := rfl
theorem a_bin {g : Sto → D → D → Option D} {a b : ME} : mBin g a b E S = (a E S).bind fun x S1 => (b E S1).bind fun y S2 => (match g S2 x y with
  | some d => .ok d S2
  | none => .bad) := rfl
theorem a_un {g : Sto → D → Option D} {a : ME} : mUn g a E S = (a E S).bind fun x S1 => (match g S1 x with
  | some d => .ok d S1
  | none => .bad) := rfl
theorem a_b {g : Sto → List D → Option D} {a : MA} : mB g a E S = (a E S).bind fun xs S1 => (match g S1 xs with
  | some d => .ok d S1
  | none => .bad) := rfl
theorem a_nil : mNil E S = .ok [] S := rfl
theorem a_cons {a : ME} {r : MA} : mCons a r E S = (a E S).bind fun x S1 => (r E S1).bind fun xs S2 => .ok (x :: xs) S2 := rfl
open Classical in
theorem a_tup {a : MA} : mTup a E S = (a E S).bind fun xs S1 => if sizeOk xs.length then .ok (.tup xs) S1 else .bad := rfl
open Classical in
theorem a_lst {a : MA} : mLst a E S = (a E S).bind fun xs S1 => if sizeOk xs.length then .ok (.lst xs) S1 else .bad := rfl
open Classical in
theorem a_loc {a : MA} : mLoc a E S = (a E S).bind fun xs S1 => if sizeOk xs.length then .ok (.loc S1.length) (S1 ++ [.lst xs]) else .bad := rfl
theorem a_call {f : MF} {a : MA} : mCall f a E S = (a E S).bind fun ds S1 => f ds S1 := rfl
theorem a_and {a b : MT} : mAnd a b E S = (a E S).bind fun x S1 => if x = true then b E S1 else .ok false S1 := rfl
theorem a_or {a b : MT} : mOr a b E S = (a E S).bind fun x S1 => if x = true then .ok true S1 else b E S1 := rfl
theorem a_not {a : MT} : mNot a E S = (a E S).bind fun x S1 => .ok (!x) S1 := rfl
theorem a_andV {a b : ME} : mAndV a b E S = (a E S).bind fun x S1 => (match x with
  | .bl true => b E S1
  | .bl false => .ok (.bl false) S1
  | _ => .bad) := rfl
theorem a_orV {a b : ME} : mOrV a b E S = (a E S).bind fun x S1 => (match x with
  | .bl true => .ok (.bl true) S1
  | .bl false => b E S1
  | _ => .bad) := rfl
theorem a_notV {a : ME} : mNotV a E S = (a E S).bind fun x S1 => (match x with
  | .bl b => .ok (.bl (!b)) S1
  | _ => .bad) := rfl
theorem a_ifE {c : MT} {a b : ME} : mIfE c a b E S = (c E S).bind fun x S1 => if x = true then a E S1 else b E S1 := rfl
theorem a_asB {m : ME} : asB m E S = (m E S).bind fun d S1 => (match d with
  | .bl b => .ok b S1
  | _ => .bad) := rfl
theorem a_sl {g : Sto → D → Option Int → Option Int → Option D} {a : ME} {lo hi : MO} : mSl g a lo hi E S = (a E S).bind fun x S1 => (lo E S1).bind fun l S2 => (hi E S2).bind fun u S3 => (match g S3 x l u with
  | some d => .ok d S3
  | none => .bad) := rfl
theorem a_nopart : mNoPart E S = .ok none S := rfl
theorem a_part {a : ME} : mPart a E S = (a E S).bind fun d S1 => (match d with
  | .int i => .ok (some i) S1
  | _ => .bad) := rfl
theorem a_gN {i : Nat} {d : D} : gN i d E S = .ok (E.set i (some d)) S := rfl
theorem a_gT {n : Nat} {g : MGs} {xs : List D} : gT n g (.tup xs) E S = if xs.length = n then g xs E S else .bad := rfl
theorem a_gsNil : gsNil [] E S = .ok E S := rfl
theorem a_gsCons {g : MG} {r : MGs} {d : D} {ds : List D} : gsCons g r (d :: ds) E S = (g d E S).bind fun E' S' => (r ds E' S').noex := rfl
open Classical in
theorem a_range1 {a : MA} : iRange1 a E S = (a E S).bind fun ds S1 => (match int1 ds with
  | some j => if small62 j then .ok ⟨rngD 0 j.toNat, none⟩ S1 else .bad
  | none => .bad) := rfl
open Classical in
theorem a_range2 {a : MA} : iRange2 a E S = (a E S).bind fun ds S1 => (match int2 ds with
  | some (i, j) => if small62 i ∧ small62 j then .ok ⟨rngD i (j - i).toNat, none⟩ S1 else .bad
  | none => .bad) := rfl
theorem a_iseq {a : ME} : iSeq a E S = (a E S).bind fun d S1 => (match d with
  | .tup xs => .ok ⟨xs, none⟩ S1
  | .lst xs => .ok ⟨xs, none⟩ S1
  | .fz xs => .ok ⟨xs, none⟩ S1
  | .loc n => (match S1[n]? with
    | some (.lst xs) => .ok ⟨xs, some (n, xs)⟩ S1
    | _ => .bad)
  | _ => .bad) := rfl
theorem a_int1 {i : Int} : int1 [.int i] = some i := rfl
theorem a_int2 {i j : Int} : int2 [.int i, .int j] = some (i, j) := rfl
theorem a_turn {g : MG} {b : MS} {x : D} : turn g b x E S = (g x E S).toS E fun E1 S1 => b E1 S1 := rfl
theorem a_run {N : Nat} {b : MS} {ds : List D} : runB N b ds S = (match b (ds.map some ++ List.replicate (N - ds.length) none) S with
  | .nx _ S' => .ok .non S'
  | .rt d S' => .ok d S'
  | .ex e _ S' => .ex e S'
  | _ => .bad) := rfl
variable {i j : Int} {x y : Tx} {a b : Bool} {xs ys : List D}
theorem g_add : gAdd S (.int i) (.int j) = some (.int (i + j)) := rfl
open Classical in
theorem g_addS : gAdd S (.str x) (.str y) = if sizeOk (x.length + y.length) then some (.str (x ++ y)) else none := rfl
open Classical in
theorem g_addT : gAdd S (.tup xs) (.tup ys) = if sizeOk (xs.length + ys.length) then some (.tup (xs ++ ys)) else none := rfl
open Classical in
theorem g_addL : gAdd S (.lst xs) (.lst ys) = if sizeOk (xs.length + ys.length) then some (.lst (xs ++ ys)) else none := rfl
theorem g_sub : gMns S (.int i) (.int j) = some (.int (i - j)) := rfl
open Classical in
theorem g_mul : gMul S (.int i) (.int j) = if mulOk i j then some (.int (i * j)) else none := rfl
open Classical in
theorem g_div : gDiv S (.int i) (.int j) = if divOk j then some (.int (i / j)) else none := rfl
open Classical in
theorem g_mod : gMod S (.int i) (.int j) = if modOk j then some (.int (i % j)) else none := rfl
open Classical in
theorem g_pow : gPow S (.int i) (.int j) = if powOk i j then some (.int (i ^ j.toNat)) else none := rfl
theorem g_lt : gLt S (.int i) (.int j) = some (.bl (decide (i < j))) := rfl
theorem g_gt : gGt S (.int i) (.int j) = some (.bl (decide (j < i))) := rfl
theorem g_le : gLe S (.int i) (.int j) = some (.bl (decide (i ≤ j))) := rfl
theorem g_ge : gGe S (.int i) (.int j) = some (.bl (decide (j ≤ i))) := rfl
theorem g_ltS : gLt S (.str x) (.str y) = some (.bl (decide (x < y))) := rfl
theorem g_gtS : gGt S (.str x) (.str y) = some (.bl (decide (y < x))) := rfl
theorem g_leS : gLe S (.str x) (.str y) = some (.bl (!decide (y < x))) := rfl
theorem g_geS : gGe S (.str x) (.str y) = some (.bl (!decide (x < y))) := rfl
theorem g_eq : gEq S (.int i) (.int j) = some (.bl (decide (i = j))) := rfl
theorem g_ne : gNe S (.int i) (.int j) = some (.bl (!decide (i = j))) := rfl
theorem g_eqS : gEq S (.str x) (.str y) = some (.bl (decide (x = y))) := rfl
theorem g_neS : gNe S (.str x) (.str y) = some (.bl (!decide (x = y))) := rfl
theorem g_eqB : gEq S (.bl a) (.bl b) = some (.bl (decide (a = b))) := rfl
theorem g_neB : gNe S (.bl a) (.bl b) = some (.bl (!decide (a = b))) := rfl
theorem g_neg : gNeg S (.int i) = some (.int (-i)) := rfl
/-- the size of a number, as the built-in says it -/
def ab (i : Int) : Int := if i < 0 then -i else i
theorem g_abs : gAbs S [.int i] = some (.int (ab i)) := rfl
theorem g_max : gMax2 S [.int i, .int j] = some (.int (if j > i then j else i)) := rfl
theorem g_min : gMin2 S [.int i, .int j] = some (.int (if j < i then j else i)) := rfl
theorem g_int : gInt S [.int i] = some (.int i) := rfl
theorem g_intB : gInt S [.bl a] = some (.int (if a then 1 else 0)) := rfl
theorem g_ixT : gIx S (.tup xs) (.int i) = atD xs i := rfl
theorem g_ixL : gIx S (.lst xs) (.int i) = atD xs i := rfl
theorem g_ixF : gIx S (.fz xs) (.int i) = atD xs i := rfl
theorem g_lenT : gLen S [.tup xs] = some (.int xs.length) := rfl
theorem g_lenL : gLen S [.lst xs] = some (.int xs.length) := rfl
theorem g_lenF : gLen S [.fz xs] = some (.int xs.length) := rfl
open Classical in
theorem g_lenS : gLen S [.str x] = if sizeOk x.length then some (.int x.length) else none := rfl
theorem at_nat {n : Nat} : atD xs (n : Int) = xs[n]? := by unfold atD; rw [if_pos (Int.natCast_nonneg n), Int.toNat_natCast]
theorem at_0 : atD xs 0 = xs[0]? := rfl
theorem at_1 : atD xs 1 = xs[1]? := rfl
theorem at_2 : atD xs 2 = xs[2]? := rfl
theorem at_3 : atD xs 3 = xs[3]? := rfl
theorem at_4 : atD xs 4 = xs[4]? := rfl
theorem sizeOk_of {n : Nat} (h : n ≤ 16777216) : sizeOk n := by unfold sizeOk; rw [sizeLine_eq]; exact h
end
end PD
namespace PD
open PySem PySem.Spec PyProof.Rows L2
theorem so0 : sizeOk 0 := sizeOk_of (by decide)
theorem so1 : sizeOk 1 := sizeOk_of (by decide)
theorem so2 : sizeOk 2 := sizeOk_of (by decide)
theorem so3 : sizeOk 3 := sizeOk_of (by decide)
theorem so4 : sizeOk 4 := sizeOk_of (by decide)
theorem so5 : sizeOk 5 := sizeOk_of (by decide)
theorem so6 : sizeOk 6 := sizeOk_of (by decide)
theorem so7 : sizeOk 7 := sizeOk_of (by decide)
theorem so8 : sizeOk 8 := sizeOk_of (by decide)
theorem so9 : sizeOk 9 := sizeOk_of (by decide)
theorem so10 : sizeOk 10 := sizeOk_of (by decide)
theorem mo10 (i : Int) : mulOk i 10 := mulOk_small (by decide)
theorem divOk_of {j : Int} (h : 0 < j) (h2 : j < 18446744073709551616) : divOk j := by
  refine ⟨h, Nat.lt_of_lt_of_le (PySem.Flt.log2_lt_of (k := 64) (by decide) ?_) (by decide)⟩
  omega
theorem do10 : divOk 10 := divOk_of (by decide) (by decide)
theorem modOk_of {j : Int} (h : 0 < j) : modOk j := h
end PD
namespace PD
open PySem PySem.Spec PyProof.Rows L2
section
variable {S : Sto} {i : Int} {x : Tx} {a : Bool} {xs : List D}
theorem isi_non_int : gIsi S [.non, .ty "int"] = some (.bl false) := by simp [gIsi, tyName, isTy]
theorem isi_non_bool : gIsi S [.non, .ty "bool"] = some (.bl false) := by simp [gIsi, tyName, isTy]
theorem isi_non_str : gIsi S [.non, .ty "str"] = some (.bl false) := by simp [gIsi, tyName, isTy]
theorem isi_non_tuple : gIsi S [.non, .ty "tuple"] = some (.bl false) := by simp [gIsi, tyName, isTy]
theorem isi_non_list : gIsi S [.non, .ty "list"] = some (.bl false) := by simp [gIsi, tyName, isTy]
theorem isi_non_dict : gIsi S [.non, .ty "dict"] = some (.bl false) := by simp [gIsi, tyName, isTy]
theorem isi_bl_int : gIsi S [.bl a, .ty "int"] = some (.bl true) := by simp [gIsi, tyName, isTy]
theorem isi_bl_bool : gIsi S [.bl a, .ty "bool"] = some (.bl true) := by simp [gIsi, tyName, isTy]
theorem isi_bl_str : gIsi S [.bl a, .ty "str"] = some (.bl false) := by simp [gIsi, tyName, isTy]
theorem isi_bl_tuple : gIsi S [.bl a, .ty "tuple"] = some (.bl false) := by simp [gIsi, tyName, isTy]
theorem isi_bl_list : gIsi S [.bl a, .ty "list"] = some (.bl false) := by simp [gIsi, tyName, isTy]
theorem isi_bl_dict : gIsi S [.bl a, .ty "dict"] = some (.bl false) := by simp [gIsi, tyName, isTy]
theorem isi_int_int : gIsi S [.int i, .ty "int"] = some (.bl true) := by simp [gIsi, tyName, isTy]
theorem isi_int_bool : gIsi S [.int i, .ty "bool"] = some (.bl false) := by simp [gIsi, tyName, isTy]
theorem isi_int_str : gIsi S [.int i, .ty "str"] = some (.bl false) := by simp [gIsi, tyName, isTy]
theorem isi_int_tuple : gIsi S [.int i, .ty "tuple"] = some (.bl false) := by simp [gIsi, tyName, isTy]
theorem isi_int_list : gIsi S [.int i, .ty "list"] = some (.bl false) := by simp [gIsi, tyName, isTy]
theorem isi_int_dict : gIsi S [.int i, .ty "dict"] = some (.bl false) := by simp [gIsi, tyName, isTy]
theorem isi_str_int : gIsi S [.str x, .ty "int"] = some (.bl false) := by simp [gIsi, tyName, isTy]
theorem isi_str_bool : gIsi S [.str x, .ty "bool"] = some (.bl false) := by simp [gIsi, tyName, isTy]
theorem isi_str_str : gIsi S [.str x, .ty "str"] = some (.bl true) := by simp [gIsi, tyName, isTy]
theorem isi_str_tuple : gIsi S [.str x, .ty "tuple"] = some (.bl false) := by simp [gIsi, tyName, isTy]
theorem isi_str_list : gIsi S [.str x, .ty "list"] = some (.bl false) := by simp [gIsi, tyName, isTy]
theorem isi_str_dict : gIsi S [.str x, .ty "dict"] = some (.bl false) := by simp [gIsi, tyName, isTy]
theorem isi_tup_int : gIsi S [.tup xs, .ty "int"] = some (.bl false) := by simp [gIsi, tyName, isTy]
theorem isi_tup_bool : gIsi S [.tup xs, .ty "bool"] = some (.bl false) := by simp [gIsi, tyName, isTy]
theorem isi_tup_str : gIsi S [.tup xs, .ty "str"] = some (.bl false) := by simp [gIsi, tyName, isTy]
theorem isi_tup_tuple : gIsi S [.tup xs, .ty "tuple"] = some (.bl true) := by simp [gIsi, tyName, isTy]
theorem isi_tup_list : gIsi S [.tup xs, .ty "list"] = some (.bl false) := by simp [gIsi, tyName, isTy]
theorem isi_tup_dict : gIsi S [.tup xs, .ty "dict"] = some (.bl false) := by simp [gIsi, tyName, isTy]
theorem isi_lst_int : gIsi S [.lst xs, .ty "int"] = some (.bl false) := by simp [gIsi, tyName, isTy]
theorem isi_lst_bool : gIsi S [.lst xs, .ty "bool"] = some (.bl false) := by simp [gIsi, tyName, isTy]
theorem isi_lst_str : gIsi S [.lst xs, .ty "str"] = some (.bl false) := by simp [gIsi, tyName, isTy]
theorem isi_lst_tuple : gIsi S [.lst xs, .ty "tuple"] = some (.bl false) := by simp [gIsi, tyName, isTy]
theorem isi_lst_list : gIsi S [.lst xs, .ty "list"] = some (.bl true) := by simp [gIsi, tyName, isTy]
theorem isi_lst_dict : gIsi S [.lst xs, .ty "dict"] = some (.bl false) := by simp [gIsi, tyName, isTy]
theorem isi_fz_int : gIsi S [.fz xs, .ty "int"] = some (.bl false) := by simp [gIsi, tyName, isTy]
theorem isi_fz_bool : gIsi S [.fz xs, .ty "bool"] = some (.bl false) := by simp [gIsi, tyName, isTy]
theorem isi_fz_str : gIsi S [.fz xs, .ty "str"] = some (.bl false) := by simp [gIsi, tyName, isTy]
theorem isi_fz_tuple : gIsi S [.fz xs, .ty "tuple"] = some (.bl false) := by simp [gIsi, tyName, isTy]
theorem isi_fz_list : gIsi S [.fz xs, .ty "list"] = some (.bl true) := by simp [gIsi, tyName, isTy]
theorem isi_fz_dict : gIsi S [.fz xs, .ty "dict"] = some (.bl false) := by simp [gIsi, tyName, isTy]
end
end PD

/-! PyD6: errors. -/
namespace PD
open PySem PySem.Spec PyProof.Rows L2
def mRaise (e : Exn) : MS := fun E S => .ex e E S
/-- an own class of errors without an __init__ of its own -/
structure ExK (K : PySem.W.Frag) (mg : Str → Option Value) (x : String) : Prop where
  g : mg (x : Str) = some (.ref (He.ga K x))
  q : PySem.W.excIn K (He.ga K x) He.veBase "ValueError.__new__" = true
  k : PySem.W.keepIn K (.ref (He.ga K x)) = true
  b : PySem.W.subIn K (.ref (He.ga K x)) (.type "BaseException") = some true
  t : PySem.W.typeIn K (.ref (He.ga K x)) = some (.type "type")
section
variable {X : Cx} {W : WW X.K} {pos : Pos}
theorem pmk_own0 {C : Addr} {bmB : List Value} {B newId initId : String} {x : Str} {p pos : Pos} (F : ExcBaseFacts B newId initId bmB) (q : PySem.W.excIn X.K C bmB newId = true) (gC : X.mg x = some (.ref C)) (kC : PySem.W.keepIn X.K (.ref C) = true) (r : Raises X (.ref C)) (hg : Gl X x)
    (hdb : (x == ("__debug__" : Str)) = false := by decide) : PMk X (.Call (.Name x p) [] [] pos) (fun _ H Q => Q (.ref C) none H) := by
  intro pins s σ H Q I h
  refine wpAny_Call_Name_kw (ld_glob I hg gC ?_ hdb)
  refine PySem.W.callWith_K0 I.kIn kC ?_
  show wpAny _ _ (call (.ref C) []) _ _ _
  obtain ⟨bm, N, nm, qn, bs, hdct, sn, sub, ab, col, dd, k0, k1, k2, k3, k5, mN, hC, hN, hni, T⟩ := exc_obj I.kIn q
  refine wpAny_call_exc_subT F T hC hN hni (fun h' e hm => ?_) (by show 0 ≤ sizeLine; exact Nat.zero_le _)
  exact mk_of I hm r h (I.hok.gone hm.new)
theorem sd_raise0 {x : String} {p p2 : Pos} (c : ExK X.K X.mg x) (hc : X.calm = true) (tk : Takes X W.w) (hg : Gl X (x : Str)) (hdb : ((x : Str) == ("__debug__" : Str)) = false := by decide) :
    SD X W (.Raise (some (.Call (.Name (x : Str) p) [] [] p2)) none pos) (mRaise ⟨.own x, none⟩) := by
  refine sd_of (ps_raise hc tk (pmk_own0 PySem.F.excBase_ValueError c.q c.g c.k (raises_own c.b c.t) hg hdb)) fun D σ H ρ S E r er p => ?_
  exact p ρ H σ _ none r Ext.refl er ⟨rfl, rfl⟩
/-! try: .. except C as n: .. -/
/-- does the clause take it: a table by the classes' names -/
def takesE (tbl : List (String × Bool)) (e : Exn) : Option Bool := match e.cls with
  | .own x => tbl.lookup x
  | .bi _ => none
def mTryAs (body : MS) (tbl : List (String × Bool)) (i : Nat) (suite : Exn → MS) : MS := fun E S => match body E S with
  | .ex e E' S' => (match takesE tbl e with
    | some true => if i < E'.length then (match suite e (E'.set i (some .exo)) S' with
      | .nx E2 S2 => .nx (E2.set i none) S2
      | .bk E2 S2 => .bk (E2.set i none) S2
      | .ct E2 S2 => .ct (E2.set i none) S2
      | .rt d S2 => .rt d S2
      | _ => .bad) else .bad
    | some false => .ex e E' S'
    | none => .bad)
  | r => r
def mTryOnly (body : MS) (tbl : List (String × Bool)) (suite : Exn → MS) : MS := fun E S => match body E S with
  | .ex e E' S' => (match takesE tbl e with
    | some true => (match suite e E' S' with
      | .ex _ _ _ => .bad
      | r => r)
    | some false => .ex e E' S'
    | none => .bad)
  | r => r
/-- what the table's words say of the written part -/
def TblOk (K : PySem.W.Frag) (c : Value) (tbl : List (String × Bool)) : Prop := ∀ p ∈ tbl, PySem.W.exmOne K (.ref (He.ga K p.1)) c = some p.2
theorem lookup_mem' : ∀ {tbl : List (String × Bool)} {x : String} {b : Bool}, tbl.lookup x = some b → (x, b) ∈ tbl
  | [], _, _, h => by cases h
  | (y, c) :: t, x, b, h => by
    rw [List.lookup_cons] at h
    by_cases q : (x == y) = true
    · rw [q] at h
      cases h
      rw [beq_iff_eq.mp q]
      exact List.mem_cons_self
    · have q2 : (x == y) = false := by simpa using q
      rw [q2] at h
      exact List.mem_cons_of_mem _ (lookup_mem' h)
/-- what holds in the suite -/
def WS (X : Cx) (W : WW X.K) (e : Exn) (c : Value) (d : Option Addr) (f : Option (Nat × Addr)) : WW X.K := ⟨fun _ _ _ _ => False, fun ρ H => XR X.K ρ H e c d ∧ W.g ρ H, fun _ _ _ _ x h => ⟨h.1.mono x, W.gm _ _ _ _ x h.2⟩, f⟩
theorem sd_try_as {x : String} {n : Str} {i : Nat} {body suite : List Stmt} {b0 : Stmt} {np pos' : Pos} {mb : MS} {ms : Exn → MS} {tbl : List (String × Bool)} {c : Value} (hs : X.stack = X.env :: X.outer) (hf : X.env.frame = some X.env.locals) (hN : X.N.Nodup) (hi : X.N[i]? = some n) (hln : X.env.kindOf n = some .local)
    (hw : W.fix = none) (hc : Names X (x : Str) c) (ht : TblOk X.K c tbl) (tk : Takes X W.w)
    (hb : ∀ (w : WX) (pn : List (Addr × Obj)) (xe : Value → Shared → Prop), Takes (X.tr pn xe) w → PassesOwn (model X.prog X.w) X.A X.env xe → BD (X.tr pn xe) (⟨w, W.g, W.gm, W.fix⟩ : WW X.K) body mb)
    (hsu : ∀ (a : Addr) (oe : Obj) (e : Exn) (d : Option Addr) (pn : List (Addr × Obj)), Zc (e.cls.val X.K) d oe → (∃ vs, oe.data = .fields vs) → BD (X.suite a ((a, oe) :: pn)) (WS X W e (e.cls.val X.K) d (some (i, a)) : WW X.K) (b0 :: suite) (ms e)) :
    SD X W (.Try body [.ExceptHandler (some (.Name (x : Str) np)) (some n) (b0 :: suite) pos'] [] [] pos) (mTryAs mb tbl i ms) := by
  refine sd_of (ps_try_as (tb := fun w => tS X.K (⟨w, W.g, W.gm, W.fix⟩ : WW X.K) mb) (ts := fun a cls d D σ H => ∃ ρ S E e, Rel X.K ρ S H ∧ ER X.K W ρ H E σ ∧ XR X.K ρ H e cls d ∧ σ[i]? = some (some (.ref a)) ∧ SPost X.K (WS X W e cls d (some (i, a))) ρ H D (ms e E S)) hs hf hN hi hln hc tk (fun w pn xe h1 h2 => hb w pn xe h1 h2) ?_) ?_
  · intro a oe cls d pn hz hv
    refine ⟨fun pins s σ H D I q => ?_⟩
    obtain ⟨ρ, S, E, e, r, er, xr, sa, p⟩ := q
    have hcls := xr.1
    subst hcls
    exact (hsu a oe e d pn hz hv).run pins s σ H D I ⟨ρ, S, E, r, er.wish ⟨xr, er.1⟩ (fun j b z => by cases z; exact sa), p⟩
  · intro D σ H ρ S E r er p
    refine ⟨ρ, S, E, r, er.wish er.1 er.2.1, ?_⟩
    unfold mTryAs at p
    cases q : mb E S with
    | nx E' S' => rw [q] at p; exact fun ρ' H' σ' r' e' er' => p ρ' H' σ' r' e' (er'.wish er'.1 er'.2.1)
    | rt d S' => rw [q] at p; exact p
    | bk E' S' => rw [q] at p; exact fun ρ' H' σ' r' e' er' => p ρ' H' σ' r' e' (er'.wish er'.1 er'.2.1)
    | ct E' S' => rw [q] at p; exact fun ρ' H' σ' r' e' er' => p ρ' H' σ' r' e' (er'.wish er'.1 er'.2.1)
    | bad => rw [q] at p; exact p
    | ex e E' S' =>
      rw [q] at p
      intro ρ' H' σ' cv dx r' e' er' xr
      have hcls := xr.1
      simp only at p
      cases ht2 : takesE tbl e with
      | none => rw [ht2] at p; exact p.elim
      | some b =>
        rw [ht2] at p
        have hm : PySem.W.exmOne X.K cv c = some b := by
          unfold takesE at ht2
          rw [hcls]
          cases q2 : e.cls with
          | own y => rw [q2] at ht2; exact ht (y, b) (lookup_mem' ht2)
          | bi y => rw [q2] at ht2; cases ht2
        refine ⟨b, hm, fun hb1 a ha => ?_, fun hb1 => ?_⟩
        · subst hb1
          simp only at p
          by_cases hil : i < E'.length
          case neg => rw [if_neg hil] at p; exact p.elim
          rw [if_pos hil] at p
          have er3 := (er'.wish (W' := W) er'.1 er'.2.1).set hw i (show DV X.K ρ' H' .exo (.ref a) by simp [DV])
          refine ⟨ρ', S', E'.set i (some .exo), e, r', er3, xr, ?_, ?_⟩
          · have hlt : i < σ'.length := by rw [← er'.2.2.1]; exact hil
            rw [List.getElem?_set_self hlt]
          cases q3 : ms e (E'.set i (some .exo)) S' with
          | nx E2 S2 => rw [q3] at p; exact fun ρ2 H2 σ2 r2 e2 er2 => p ρ2 H2 _ r2 (e'.trans e2) ((er2.wish (W' := W) er2.1.2 (fun j b z => by rw [hw] at z; cases z)).unset hw i)
          | bk E2 S2 => rw [q3] at p; exact fun ρ2 H2 σ2 r2 e2 er2 => p ρ2 H2 _ r2 (e'.trans e2) ((er2.wish (W' := W) er2.1.2 (fun j b z => by rw [hw] at z; cases z)).unset hw i)
          | ct E2 S2 => rw [q3] at p; exact fun ρ2 H2 σ2 r2 e2 er2 => p ρ2 H2 _ r2 (e'.trans e2) ((er2.wish (W' := W) er2.1.2 (fun j b z => by rw [hw] at z; cases z)).unset hw i)
          | rt d2 S2 => rw [q3] at p; exact fun ρ2 H2 v r2 e2 dv => p ρ2 H2 v r2 (e'.trans e2) dv
          | ex e2 E2 S2 => rw [q3] at p; exact p.elim
          | bad => rw [q3] at p; exact p.elim
        · subst hb1
          exact p ρ' H' σ' cv dx r' e' (er'.wish er'.1 er'.2.1) xr
theorem sd_try_only {x : String} {body suite : List Stmt} {b0 : Stmt} {np pos' : Pos} {mb : MS} {ms : Exn → MS} {tbl : List (String × Bool)} {c : Value} (hs : X.stack = X.env :: X.outer) (hf : X.env.frame = some X.env.locals)
    (hc : Names X (x : Str) c) (ht : TblOk X.K c tbl) (tk : Takes X W.w)
    (hb : ∀ (w : WX) (pn : List (Addr × Obj)) (xe : Value → Shared → Prop), Takes (X.tr pn xe) w → PassesOwn (model X.prog X.w) X.A X.env xe → BD (X.tr pn xe) (⟨w, W.g, W.gm, W.fix⟩ : WW X.K) body mb)
    (hsu : ∀ (a : Addr) (oe : Obj) (e : Exn) (d : Option Addr) (pn : List (Addr × Obj)), Zc (e.cls.val X.K) d oe → (∃ vs, oe.data = .fields vs) → BD (X.suite a ((a, oe) :: pn)) (WS X W e (e.cls.val X.K) d W.fix : WW X.K) (b0 :: suite) (ms e)) :
    SD X W (.Try body [.ExceptHandler (some (.Name (x : Str) np)) none (b0 :: suite) pos'] [] [] pos) (mTryOnly mb tbl ms) := by
  refine sd_of (ps_try_only (tb := fun w => tS X.K (⟨w, W.g, W.gm, W.fix⟩ : WW X.K) mb) (ts := fun a cls d D σ H => ∃ ρ S E e, Rel X.K ρ S H ∧ ER X.K W ρ H E σ ∧ XR X.K ρ H e cls d ∧ SPost X.K (WS X W e cls d W.fix) ρ H D (ms e E S)) hs hf hc tk (fun w pn xe h1 h2 => hb w pn xe h1 h2) ?_) ?_
  · intro a oe cls d pn hz hv
    refine ⟨fun pins s σ H D I q => ?_⟩
    obtain ⟨ρ, S, E, e, r, er, xr, p⟩ := q
    have hcls := xr.1
    subst hcls
    exact (hsu a oe e d pn hz hv).run pins s σ H D I ⟨ρ, S, E, r, er.wish ⟨xr, er.1⟩ er.2.1, p⟩
  · intro D σ H ρ S E r er p
    refine ⟨ρ, S, E, r, er.wish er.1 er.2.1, ?_⟩
    unfold mTryOnly at p
    cases q : mb E S with
    | nx E' S' => rw [q] at p; exact fun ρ' H' σ' r' e' er' => p ρ' H' σ' r' e' (er'.wish er'.1 er'.2.1)
    | rt d S' => rw [q] at p; exact p
    | bk E' S' => rw [q] at p; exact fun ρ' H' σ' r' e' er' => p ρ' H' σ' r' e' (er'.wish er'.1 er'.2.1)
    | ct E' S' => rw [q] at p; exact fun ρ' H' σ' r' e' er' => p ρ' H' σ' r' e' (er'.wish er'.1 er'.2.1)
    | bad => rw [q] at p; exact p
    | ex e E' S' =>
      rw [q] at p
      intro ρ' H' σ' cv dx r' e' er' xr
      have hcls := xr.1
      simp only at p
      cases ht2 : takesE tbl e with
      | none => rw [ht2] at p; exact p.elim
      | some b =>
        rw [ht2] at p
        have hm : PySem.W.exmOne X.K cv c = some b := by
          unfold takesE at ht2
          rw [hcls]
          cases q2 : e.cls with
          | own y => rw [q2] at ht2; exact ht (y, b) (lookup_mem' ht2)
          | bi y => rw [q2] at ht2; cases ht2
        refine ⟨b, hm, fun hb1 a ha => ?_, fun hb1 => ?_⟩
        · subst hb1
          simp only at p
          refine ⟨ρ', S', E', e, r', er'.wish (W' := W) er'.1 er'.2.1, xr, ?_⟩
          cases q3 : ms e E' S' with
          | nx E2 S2 => rw [q3] at p; exact fun ρ2 H2 σ2 r2 e2 er2 => p ρ2 H2 _ r2 (e'.trans e2) (er2.wish er2.1.2 er2.2.1)
          | bk E2 S2 => rw [q3] at p; exact fun ρ2 H2 σ2 r2 e2 er2 => p ρ2 H2 _ r2 (e'.trans e2) (er2.wish er2.1.2 er2.2.1)
          | ct E2 S2 => rw [q3] at p; exact fun ρ2 H2 σ2 r2 e2 er2 => p ρ2 H2 _ r2 (e'.trans e2) (er2.wish er2.1.2 er2.2.1)
          | rt d2 S2 => rw [q3] at p; exact fun ρ2 H2 v r2 e2 dv => p ρ2 H2 v r2 (e'.trans e2) dv
          | ex e2 E2 S2 => rw [q3] at p; exact p.elim
          | bad => rw [q3] at p; exact p.elim
        · subst hb1
          exact p ρ' H' σ' cv dx r' e' (er'.wish er'.1 er'.2.1) xr
end
end PD
namespace PD
open PySem PySem.Spec PyProof.Rows L2
/-- isinstance of the caught error, by a table of the classes' names -/
def mExIs (e : Exn) (tbl : List (String × Bool)) : ME := fun _ S => match e.fs with
  | some _ => .bad
  | none => (match takesE tbl e with
    | some b => .ok (.bl b) S
    | none => .bad)
structure IsOk (K : PySem.W.Frag) (c : String) (tbl : List (String × Bool)) : Prop where
  all : ∀ p ∈ tbl, ExcC K (He.ga K p.1) ∧ PySem.W.kitOne K (.ref (He.ga K p.1)) (.ref (He.ga K c)) = some p.2
theorem takesE_some {tbl : List (String × Bool)} {e : Exn} {b : Bool} (h : takesE tbl e = some b) : ∃ y, e.cls = .own y ∧ (y, b) ∈ tbl := by
  unfold takesE at h
  cases q : e.cls with
  | own y => rw [q] at h; exact ⟨y, rfl, lookup_mem' h⟩
  | bi y => rw [q] at h; cases h
section
variable {X : Cx} {W : WW X.K} {pos : Pos}
theorem ed_exis {e : Exn} {d : Option Addr} {a : Addr} {oe : Obj} {pn : List (Addr × Obj)} {i : Nat} {c : String} {tbl : List (String × Bool)} {en ec : Expr} {p : Pos} (hz : Zc (e.cls.val X.K) d oe) (hv : ∃ vs, oe.data = .fields vs) (ht : IsOk X.K c tbl)
    (hg : Gl X "isinstance") (hm : X.mg "isinstance" = none) (hn : PE (X.suite a ((a, oe) :: pn)) en (tVar i)) (hc : PE (X.suite a ((a, oe) :: pn)) ec (tC (.ref (He.ga X.K c))))
    (hs1 : starEach (en :: [ec]) X.env = (false, eval en X.env) :: starEach [ec] X.env := by rfl) (hs2 : starEach (ec :: []) X.env = (false, eval ec X.env) :: starEach [] X.env := by rfl) (hpl : (backTo pos (starEach [ec] X.env)).any (·.1) = false := by rfl) :
    ED (X.suite a ((a, oe) :: pn)) (WS X W e (e.cls.val X.K) d (some (i, a)) : WW X.K) (.Call (.Name "isinstance" p) [en, ec] [] pos) (mExIs e tbl) := by
  refine ⟨fun pins s σ H Q I h => ?_⟩
  obtain ⟨ρ, S, E, r, er, q⟩ := h
  unfold mExIs at q
  cases q1 : e.fs with
  | some fs => rw [q1] at q; exact q.elim
  | none =>
    rw [q1] at q
    cases q2 : takesE tbl e with
    | none => rw [q2] at q; exact q.elim
    | some b =>
      rw [q2] at q
      obtain ⟨y, hy, hmem⟩ := takesE_some q2
      obtain ⟨hC, hk⟩ := ht.all _ hmem
      have hd : d = none := by
        have h1 := er.1.1.2
        rw [q1] at h1
        exact h1
      subst hd
      rw [hy] at hz
      have C : CallR (X.suite a ((a, oe) :: pn)) (.builtin "isinstance") (rIsE X.K (He.ga X.K y) a) := call_isE hC hz hv
      refine PE.run (pe_callB (X := X.suite a ((a, oe) :: pn)) C hg hm boot_isinstance (pa_cons (X := X.suite a ((a, oe) :: pn)) hn (pa_cons (X := X.suite a ((a, oe) :: pn)) hc pa_nil hs2) hs1) (he := hs1) (hpl := hpl)) pins s σ H Q I ?_
      refine ⟨.ref a, er.2.1 i a rfl, ?_⟩
      exact ⟨.ref (He.ga X.K c), .ref (He.ga X.K c), b, rfl, fun u hu => hu, hk, q ρ H _ r Ext.refl (by simp [DV])⟩
end
/-! ### more facts of the written part: a row of truths -/
def obsB (n : Nat) (fa : List He.Fa) (fn : List He.DefD) (ex : PySem.W.Frag → Bool) (g : Addr → Option Obj) : He.AlD × Bool := (He.obsDG n fa fn g, ex (He.frG g (He.asD g n)))
def hookB (n : Nat) (fa : List He.Fa) (fn : List He.DefD) (ex : PySem.W.Frag → Bool) : PySem.W.Hook where
  α := He.AlD × Bool
  obs := fun s => obsB n fa fn ex s.heap.get?
  val := fun _ => (He.valD fn, true)
  says := fun _ h => ∃ K : PySem.W.Frag, K.In h ∧ He.SaysD fa fn K ∧ ex K = true
  of := fun _ _ e => ⟨_, He.frG_in, congrArg (fun z : He.AlD × Bool => z.1) e, congrArg (fun z : He.AlD × Bool => z.2) e⟩
  keeps := fun _ _ _ ⟨K, hK, c⟩ k => ⟨K, PySem.W.Frag.In.keeps hK k, c⟩
theorem obsB_eq {n : Nat} {fa : List He.Fa} {fn : List He.DefD} {ex : PySem.W.Frag → Bool} {g : Addr → Option Obj} {s : Shared} (h : ∀ a, g a = s.heap.get? a) : obsB n fa fn ex g = (hookB n fa fn ex).obs s := by
  have e : g = s.heap.get? := funext h
  rw [e] <;> rfl
def excCB (K : PySem.W.Frag) (x : String) : Bool :=
  decide (PySem.W.findIn K (.ref (He.ga K x)) "__getattribute__" = some (some (.builtin "BaseException.__getattribute__"))) && (decide (PySem.W.findIn K (.ref (He.ga K x)) "__getattr__" = some none) &&
  (decide (PySem.W.subIn K (.ref (He.ga K x)) (.type "BaseException") = some true) && (PySem.W.hasDictIn K (He.ga K x) && (decide (PySem.W.findIn K (.ref (He.ga K x)) "__class__" = some (some (.builtin "object.__class__"))) &&
  (decide (PySem.W.specialIn K (.builtin "object.__class__") "__get__" = some (some (.builtin "getset_descriptor.__get__"))) && (decide (PySem.W.takesIn K (.builtin "object.__class__") = some true) && decide (PySem.W.mroIn K (He.ga K x) (.type "object") = some true)))))))
theorem excCB_ok {K : PySem.W.Frag} {x : String} (h : excCB K x = true) : ExcC K (He.ga K x) := by
  unfold excCB at h
  simp only [Bool.and_eq_true, decide_eq_true_eq] at h
  obtain ⟨h1, h2, h3, h4, h5, h6, h7, h8⟩ := h
  exact ⟨h1, h2, h3, h4, h5, h6, h7, h8⟩
def kitCB (K : PySem.W.Frag) (x c : String) (b : Bool) : Bool := decide (PySem.W.kitOne K (.ref (He.ga K x)) (.ref (He.ga K c)) = some b)
theorem kitCB_ok {K : PySem.W.Frag} {x c : String} {b : Bool} (h : kitCB K x c b = true) : PySem.W.kitOne K (.ref (He.ga K x)) (.ref (He.ga K c)) = some b := of_decide_eq_true h
end PD
namespace PD
open PySem PySem.Spec PyProof.Rows L2
/-! name += value: numbers, texts -/
open Classical in
noncomputable def gAddA (_ : Sto) (x y : D) : Option D := match x, y with
  | .int i, .int j => some (.int (i + j))
  | .str a, .str b => if sizeOk (a.length + b.length) then some (.str (a ++ b)) else none
  | _, _ => none
theorem g_addA {S : Sto} {i j : Int} : gAddA S (.int i) (.int j) = some (.int (i + j)) := rfl
open Classical in
theorem g_addAS {S : Sto} {x y : Tx} : gAddA S (.str x) (.str y) = if sizeOk (x.length + y.length) then some (.str (x ++ y)) else none := rfl
def rAddA : R2 := fun x y H Q => (rI0 fun i j => .int (i + j)) x y H Q ∨ (∃ i j, x = .str i ∧ y = .str j ∧ i.length + j.length ≤ sizeLine ∧ Q (.str (i ++ j)) H)
section
variable {X : Cx}
theorem iop_addD : OpR X (inplaceOp .Add) rAddA := iop_add.or iop_add_str
theorem rp_iadd : ∀ x y H Q, rP X.K gAddA x y H Q → rAddA x y H Q := by
  rintro v u H Q ⟨ρ, S, x, y, d, r, dx, dy, hg, q⟩
  unfold gAddA at hg
  split at hg
  · rw [dv_int] at dx dy
    subst dx dy
    cases hg
    exact .inl ⟨_, _, rfl, rfl, post_int r q⟩
  · rename_i a b
    rw [dv_str] at dx dy
    subst dx dy
    by_cases hl : sizeOk (a.length + b.length)
    · rw [if_pos hl] at hg
      cases hg
      exact .inr ⟨_, _, rfl, rfl, by rw [sv_len, sv_len]; exact hl, by rw [sv_cat]; exact post_str r q⟩
    · rw [if_neg hl] at hg; cases hg
  · cases hg
end
end PD

namespace PD
open PySem PySem.Spec PyProof PyProof.Rows L2
/-! ### == on data -/
mutual
def okd : D → Nat → Bool
  | .non, _ => true
  | .bl _, _ => true
  | .int _, _ => true
  | .str c, _ => c.all (· < 0x110000)
  | .tup xs, n => decide (0 < n) && okds xs (n - 1)
  | .lst xs, n => decide (0 < n) && okds xs (n - 1)
  | .fz xs, n => decide (0 < n) && okds xs (n - 1)
  | .loc _, _ => false
  | .ty _, _ => false
  | .glo _, _ => false
  | .exo, _ => false
def okds : List D → Nat → Bool
  | [], _ => true
  | x :: xs, n => okd x n && okds xs n
end
mutual
def teq : D → D → Bool
  | .non, y => match y with | .non => true | _ => false
  | .bl a, y => match y with | .bl b => a == b | .int j => (if a then 1 else 0) == j | _ => false
  | .int i, y => match y with | .bl b => i == (if b then 1 else 0) | .int j => decide (i = j) | _ => false
  | .str a, y => match y with | .str b => decide (a = b) | _ => false
  | .tup xs, y => match y with | .tup ys => teqs xs ys | _ => false
  | .lst xs, y => match y with | .lst ys => teqs xs ys | .fz ys => teqs xs ys | _ => false
  | .fz xs, y => match y with | .lst ys => teqs xs ys | .fz ys => teqs xs ys | _ => false
  | .loc _, _ => false
  | .ty _, _ => false
  | .glo _, _ => false
  | .exo, _ => false
def teqs : List D → List D → Bool
  | [], ys => match ys with | [] => true | _ :: _ => false
  | x :: xs, ys => match ys with | [] => false | y :: ys => teq x y && teqs xs ys
end
mutual
theorem okd_toP : ∀ (d : D) (n : Nat), okd d n = true → ∃ p, toP d = some p ∧ p.canLay0 = true ∧ p.depth ≤ n
  | .non, n, h => ⟨_, rfl, by simp [PyData.canLay0], by simp [PyData.depth]⟩
  | .bl b, n, h => ⟨_, rfl, by simp [PyData.canLay0], by simp [PyData.depth]⟩
  | .int i, n, h => ⟨_, rfl, by simp [PyData.canLay0], by simp [PyData.depth]⟩
  | .str c, n, h => by
    simp only [okd] at h
    exact ⟨_, rfl, by simpa [PyData.canLay0, PyData.strOk] using h, by simp [PyData.depth]⟩
  | .tup xs, n, h => by
    simp only [okd, Bool.and_eq_true, decide_eq_true_eq] at h
    obtain ⟨p, e, a, b⟩ := okds_toP xs (n - 1) h.2
    refine ⟨.tuple p, by simp only [toP, e, Option.map_some], by simpa [PyData.canLay0] using a, by simp [PyData.depth]; omega⟩
  | .lst xs, n, h => by
    simp only [okd, Bool.and_eq_true, decide_eq_true_eq] at h
    obtain ⟨p, e, a, b⟩ := okds_toP xs (n - 1) h.2
    refine ⟨.list p, by simp only [toP, e, Option.map_some], by simpa [PyData.canLay0] using a, by simp [PyData.depth]; omega⟩
  | .fz xs, n, h => by
    simp only [okd, Bool.and_eq_true, decide_eq_true_eq] at h
    obtain ⟨p, e, a, b⟩ := okds_toP xs (n - 1) h.2
    refine ⟨.list p, by simp only [toP, e, Option.map_some], by simpa [PyData.canLay0] using a, by simp [PyData.depth]; omega⟩
  | .loc _, n, h => by simp [okd] at h
  | .ty _, n, h => by simp [okd] at h
  | .glo _, n, h => by simp [okd] at h
  | .exo, n, h => by simp [okd] at h
theorem okds_toP : ∀ (ds : List D) (n : Nat), okds ds n = true → ∃ p, toPs ds = some p ∧ PyData.canLayAll0 p = true ∧ PyData.depthAll p ≤ n
  | [], n, h => ⟨[], rfl, by simp [PyData.canLayAll0], by simp [PyData.depthAll]⟩
  | x :: xs, n, h => by
    simp only [okds, Bool.and_eq_true] at h
    obtain ⟨p, e, a, b⟩ := okd_toP x n h.1
    obtain ⟨q, e2, a2, b2⟩ := okds_toP xs n h.2
    exact ⟨p :: q, by simp only [toPs, e, e2], by simp [PyData.canLayAll0, a, a2], by simp [PyData.depthAll]; omega⟩
end
theorem tx_str {a b : Tx} : ((⟨a.toArray⟩ : Str) == ⟨b.toArray⟩) = decide (a = b) := by
  rw [Bool.eq_iff_iff]
  simp only [beq_iff_eq, decide_eq_true_eq]
  constructor
  · intro h; have := congrArg (fun x : Str => x.cps.toList) h; simpa using this
  · intro h; rw [h]
mutual
theorem eqv_teq : ∀ (x y : D) (p q : PyData), toP x = some p → toP y = some q → PyData.eqv p q = teq x y
  | .non, y, p, q, h, g => by
    simp only [toP] at h; cases h
    cases y <;> simp only [toP, Option.map_eq_some_iff, reduceCtorEq] at g
    all_goals first | (obtain ⟨r, _, rfl⟩ := g; simp [PyData.eqv, teq]; done) | (cases g; simp [PyData.eqv, teq]; done)
  | .bl b, y, p, q, h, g => by
    simp only [toP] at h; cases h
    cases y <;> simp only [toP, Option.map_eq_some_iff, reduceCtorEq] at g
    all_goals first | (obtain ⟨r, _, rfl⟩ := g; simp [PyData.eqv, teq]; done) | (cases g; simp [PyData.eqv, teq]; done)
  | .int i, y, p, q, h, g => by
    simp only [toP] at h; cases h
    cases y <;> simp only [toP, Option.map_eq_some_iff, reduceCtorEq] at g
    all_goals first | (obtain ⟨r, _, rfl⟩ := g; simp [PyData.eqv, teq]; done) | (cases g; simp [PyData.eqv, teq]; done) | (cases g; simp only [PyData.eqv, teq]; rw [Bool.eq_iff_iff]; simp; done)
  | .str c, y, p, q, h, g => by
    simp only [toP] at h; cases h
    cases y <;> simp only [toP, Option.map_eq_some_iff, reduceCtorEq] at g
    all_goals first | (obtain ⟨r, _, rfl⟩ := g; simp [PyData.eqv, teq]; done) | (cases g; simp only [PyData.eqv, teq]; exact tx_str) | (cases g; simp [PyData.eqv, teq]; done)
  | .tup xs, y, p, q, h, g => by
    simp only [toP, Option.map_eq_some_iff] at h
    obtain ⟨ps, h1, rfl⟩ := h
    cases y <;> simp only [toP, Option.map_eq_some_iff, reduceCtorEq] at g
    all_goals first | (obtain ⟨r, g1, rfl⟩ := g; simp only [PyData.eqv, teq]; exact eqv_teqs _ _ _ _ h1 g1) | (obtain ⟨r, g1, rfl⟩ := g; simp only [PyData.eqv, teq]; done) | (cases g; simp [PyData.eqv, teq]; done)
  | .lst xs, y, p, q, h, g => by
    simp only [toP, Option.map_eq_some_iff] at h
    obtain ⟨ps, h1, rfl⟩ := h
    cases y <;> simp only [toP, Option.map_eq_some_iff, reduceCtorEq] at g
    all_goals first | (obtain ⟨r, g1, rfl⟩ := g; simp only [PyData.eqv, teq]; exact eqv_teqs _ _ _ _ h1 g1) | (obtain ⟨r, g1, rfl⟩ := g; simp only [PyData.eqv, teq]; done) | (cases g; simp [PyData.eqv, teq]; done)
  | .fz xs, y, p, q, h, g => by
    simp only [toP, Option.map_eq_some_iff] at h
    obtain ⟨ps, h1, rfl⟩ := h
    cases y <;> simp only [toP, Option.map_eq_some_iff, reduceCtorEq] at g
    all_goals first | (obtain ⟨r, g1, rfl⟩ := g; simp only [PyData.eqv, teq]; exact eqv_teqs _ _ _ _ h1 g1) | (obtain ⟨r, g1, rfl⟩ := g; simp only [PyData.eqv, teq]; done) | (cases g; simp [PyData.eqv, teq]; done)
  | .loc _, y, p, q, h, g => by simp [toP] at h
  | .ty _, y, p, q, h, g => by simp [toP] at h
  | .glo _, y, p, q, h, g => by simp [toP] at h
  | .exo, y, p, q, h, g => by simp [toP] at h
theorem eqv_teqs : ∀ (xs ys : List D) (p q : List PyData), toPs xs = some p → toPs ys = some q → PyData.eqvAll p q = teqs xs ys
  | [], ys, p, q, h, g => by
    simp only [toPs] at h; cases h
    cases ys with
    | nil => simp only [toPs] at g; cases g; simp [PyData.eqvAll, teqs]
    | cons y ys =>
      simp only [toPs] at g
      split at g
      · cases g; simp [PyData.eqvAll, teqs]
      · cases g
  | x :: xs, ys, p, q, h, g => by
    simp only [toPs] at h
    split at h
    · rename_i a b e1 e2
      cases h
      cases ys with
      | nil => simp only [toPs] at g; cases g; simp [PyData.eqvAll, teqs]
      | cons y ys =>
        simp only [toPs] at g
        split at g
        · rename_i c d e3 e4
          cases g
          simp only [PyData.eqvAll, teqs]
          rw [eqv_teq x y a c e1 e3, eqv_teqs xs ys b d e2 e4]
        · cases g
    · cases h
end
/-- a value with the items of a list that may change read off -/
def flat (S : Sto) (d : D) : D := match d with
  | .loc n => match seqF S (.loc n) with
    | some xs => .lst xs
    | none => .loc n
  | d => d
theorem toPS_flat (S : Sto) (d : D) : okd (flat S d) 64 = true → toPS S d = toP (flat S d) := by
  intro h
  unfold toPS
  cases d
  case loc n =>
    simp only [flat] at *
    cases e : seqF S (.loc n) with
    | none => (try rw [e] at h) <;> simp [okd] at h
    | some xs => simp only [e]; simp only [toP]
  all_goals simp only [seqF, flat, toP]
theorem deepEq_teq {S : Sto} {x y : D} (hx : okd (flat S x) 64 = true) (hy : okd (flat S y) 64 = true) : deepEq S x y = some (teq (flat S x) (flat S y)) := by
  obtain ⟨p, e1, a1, b1⟩ := okd_toP _ _ hx
  obtain ⟨q, e2, a2, b2⟩ := okd_toP _ _ hy
  unfold deepEq
  rw [toPS_flat S x hx, toPS_flat S y hy, e1, e2]
  simp only
  rw [if_pos ⟨by simp [SeqAt.shaped, a1, b1], by simp [SeqAt.shaped, a2, b2]⟩, eqv_teq _ _ _ _ e1 e2]
theorem eqB_teq {S : Sto} {x y : D} (hx : okd (flat S x) 64 = true) (hy : okd (flat S y) 64 = true) : eqB S x y = some (teq (flat S x) (flat S y)) := by
  unfold eqB
  split
  all_goals first | (simp [flat, teq]; done) | exact deepEq_teq hx hy
theorem gEq_teq {S : Sto} {x y : D} (hx : okd (flat S x) 64 = true) (hy : okd (flat S y) 64 = true) : gEq S x y = some (.bl (teq (flat S x) (flat S y))) := by
  unfold gEq; rw [eqB_teq hx hy]; rfl
theorem gNe_teq {S : Sto} {x y : D} (hx : okd (flat S x) 64 = true) (hy : okd (flat S y) 64 = true) : gNe S x y = some (.bl (!teq (flat S x) (flat S y))) := by
  unfold gNe; rw [eqB_teq hx hy]; rfl
mutual
theorem teq_self : ∀ (d : D) (n : Nat), okd d n = true → teq d d = true
  | .non, _, _ => by simp [teq]
  | .bl _, _, _ => by simp [teq]
  | .int _, _, _ => by simp [teq]
  | .str _, _, _ => by simp [teq]
  | .tup xs, n, h => by simp only [okd, Bool.and_eq_true] at h; simp only [teq]; exact teqs_self xs _ h.2
  | .lst xs, n, h => by simp only [okd, Bool.and_eq_true] at h; simp only [teq]; exact teqs_self xs _ h.2
  | .fz xs, n, h => by simp only [okd, Bool.and_eq_true] at h; simp only [teq]; exact teqs_self xs _ h.2
  | .loc _, _, h => by simp [okd] at h
  | .ty _, _, h => by simp [okd] at h
  | .glo _, _, h => by simp [okd] at h
  | .exo, _, h => by simp [okd] at h
theorem teqs_self : ∀ (ds : List D) (n : Nat), okds ds n = true → teqs ds ds = true
  | [], _, _ => by simp [teqs]
  | x :: xs, n, h => by
    simp only [okds, Bool.and_eq_true] at h
    simp only [teqs, teq_self x n h.1, teqs_self xs n h.2, Bool.and_self]
end
end PD

/-! PyD8: texts, methods, lists that change. -/
namespace PD
open PySem PySem.Spec PyProof PyProof.Rows L2
section
variable {X : Cx} {W : WW X.K} {pos : Pos}
/-! ### slices -/
def cutL {α : Type} (xs : List α) (lo hi : Option Int) : List α := (xs.drop (HT.sIx xs.length 0 lo)).take (HT.sIx xs.length xs.length hi - HT.sIx xs.length 0 lo)
open Classical in
noncomputable def gSl (S : Sto) (x : D) (lo hi : Option Int) : Option D := match x with
  | .str z => if sizeOk z.length then some (.str (cutL z lo hi)) else none
  | .tup xs => some (.tup (cutL xs lo hi))
  | x => (seqF S x).map fun xs => .lst (cutL xs lo hi)
def rSlAny (K : PySem.W.Frag) : V → Option Int → Option Int → Hp → VK → Prop := fun x lo hi H Q => rSlS x lo hi H Q ∨ rSlA K x lo hi H Q ∨ rSlL K x lo hi H Q
theorem sl_any : SlR X (rSlAny X.K) := sl_str.or (sl_tupA.or sl_list)
theorem cutS_D (z : Tx) (lo hi : Option Int) : cutS ⟨z.toArray⟩ lo hi = ⟨(cutL z lo hi).toArray⟩ := by
  unfold cutS cutL
  rw [sv_len]
theorem dvs_cut {K : PySem.W.Frag} {ρ : List Addr} {H : Hp} {ds : List D} {vs : List V} {lo hi : Option Int} (h : DVs K ρ H ds vs) : DVs K ρ H (cutL ds lo hi) (cutV vs lo hi) := by
  unfold cutL cutV
  rw [← h.length]
  exact DVs.take _ (DVs.drop _ h)
theorem cut_whole {α : Type} {xs : List α} {lo hi : Option Int} (h : HT.sIx xs.length 0 lo = 0 ∧ HT.sIx xs.length xs.length hi = xs.length) : cutL xs lo hi = xs := by
  unfold cutL
  rw [h.1, h.2]
  simp
theorem rp_sl : ∀ x l u H Q, rPS X.K gSl x l u H Q → rSlAny X.K x l u H Q := by
  rintro v lo hi H Q ⟨ρ, S, x, d, r, dx, hg, q⟩
  unfold gSl at hg
  split at hg
  · rename_i z
    rw [dv_str] at dx; subst dx
    by_cases hl : sizeOk z.length
    · rw [if_pos hl] at hg; cases hg
      exact .inl ⟨_, rfl, by rw [sv_len]; exact hl, by rw [cutS_D]; exact post_str r q⟩
    · rw [if_neg hl] at hg; cases hg
  · rename_i xs
    cases hg
    obtain ⟨a, vs, rfl, h1, h2⟩ := tup_ok dx
    refine .inr (.inl ⟨a, vs, rfl, h1, fun w => ?_, fun _ p hp => post_tup r hp (dvs_cut h2) q⟩)
    rw [cut_whole (by rw [h2.length]; exact w)] at q
    exact q ρ H _ r Ext.refl dx
  · cases e : seqF S x with
    | none => rw [e] at hg; cases hg
    | some xs =>
      rw [e] at hg; cases hg
      obtain ⟨a, vs, rfl, h1, h2⟩ := seqF_ok r dx e
      exact .inr (.inr ⟨a, vs, rfl, h1, fun p hp => post_lst r hp (dvs_cut h2) q⟩)
/-- xs[::-1] -/
def gRev (S : Sto) (x : D) : Option D := (seqF S x).map fun xs => .lst xs.reverse
theorem ed_rev {e : Expr} {m : ME} {k : Nat} {p1 p2 p3 : Pos} (h : ED X W e m) : ED X W (.Subscript e (.Slice none none (some (.UnaryOp .USub (.Constant (.int 1) k p1) p2)) p3) pos) (mUn gRev m) := by
  refine ed_of (pe_revL h) fun σ H Q ρ S E r er p => ?_
  refine ⟨ρ, S, E, r, er, (Post.bind (R := DV X.K) p).imp fun x H1 ⟨ρ1, S1, d, r1, e1, d1, p1⟩ => ?_⟩
  obtain ⟨u, hu, q⟩ := post_opt p1
  unfold gRev at hu
  cases e2 : seqF S1 d with
  | none => rw [e2] at hu; cases hu
  | some xs =>
    rw [e2] at hu; cases hu
    obtain ⟨a, vs, rfl, h1, h2⟩ := seqF_ok r1 d1 e2
    exact ⟨a, vs, rfl, h1, fun p hp => post_lst r1 hp h2.reverse q⟩
/-! ### methods of texts -/
noncomputable def mSM (g : Sto → Tx → List D → Option D) (o : ME) (a : MA) : ME := fun E S => (o E S).bind fun x S1 => match x with
  | .str z => (a E S1).bind fun xs S2 => match g S2 z xs with
    | some d => .ok d S2
    | none => .bad
  | _ => .bad
def rPM (K : PySem.W.Frag) (g : Sto → Tx → List D → Option D) : V → List V → Hp → VK → Prop := fun x vs H Q => ∃ ρ S z ds d, x = sv z ∧ Rel K ρ S H ∧ DVs K ρ H ds vs ∧ g S z ds = some d ∧ ∀ ρ' H' v, Rel K ρ' S H' → Ext K ρ H ρ' H' → DV K ρ' H' d v → Q v H'
variable {id : String} {name : Str} {o e : Expr} {es : List Expr} {mo : ME} {ma : MA} {apos : Pos} {r : V → List V → Hp → VK → Prop} {g : Sto → Tx → List D → Option D}
theorem ed_sm0 (slot : Slot "str" name id) (ty : typeOf (.builtin id) = pure (.type "method_descriptor")) (hm : MtR X id r) (hr : ∀ x vs H Q, rPM X.K g x vs H Q → r x vs H Q) (ho : ED X W o mo)
    (hbase : attributeBase o name X.env (eval o X.env) = eval o X.env := by rfl) (hline : (apos.endLine == pos.line) = true := by rfl) : ED X W (.Call (.Attribute o name apos) [] [] pos) (mSM g mo mNil) := by
  refine ed_of (pe_bm0 F.plainAttrs_str slot ty hm ho hbase hline) fun σ H Q ρ S E r0 er p => ?_
  refine ⟨ρ, S, E, r0, er, (Post.bind (R := DV X.K) p).imp fun x H1 ⟨ρ1, S1, d, r1, e1, d1, p1⟩ => ?_⟩
  cases d with
  | str z =>
    rw [dv_str] at d1; subst d1
    refine ⟨rfl, ?_⟩
    obtain ⟨u, hu, q⟩ := post_opt p1
    exact hr _ _ _ _ ⟨ρ1, S1, z, [], u, rfl, r1, by simp [DVs], hu, q⟩
  | _ => exact p1.elim
theorem ed_sm (slot : Slot "str" name id) (ty : typeOf (.builtin id) = pure (.type "method_descriptor")) (hm : MtR X id r) (hr : ∀ x vs H Q, rPM X.K g x vs H Q → r x vs H Q) (ho : ED X W o mo) (ha : AD X W (e :: es) ma)
    (hbase : attributeBase o name X.env (eval o X.env) = eval o X.env := by rfl)
    (hfew : ((backTo pos (starEach (e :: es) X.env)).all (fun x => !x.1) && (backToKw pos (keywordEach [] X.env)).all (fun x => x.1.isSome)
      && decide ((e :: es).length + ([] : List Keyword).length + (if ([] : List Keyword).isEmpty then 0 else 1) < 30)) = true := by rfl)
    (hline : (apos.endLine == pos.line) = true := by rfl) (hs : starEach (e :: es) X.env = (false, eval e X.env) :: starEach es X.env := by rfl) (hplain : (backTo pos (starEach es X.env)).any (·.1) = false := by rfl) :
    ED X W (.Call (.Attribute o name apos) (e :: es) [] pos) (mSM g mo ma) := by
  refine ed_of (pe_bm F.plainAttrs_str slot ty hm ho ha hbase hfew hline hs hplain) fun σ H Q ρ S E r0 er p => ?_
  refine ⟨ρ, S, E, r0, er, (Post.bind (R := DV X.K) p).imp fun x H1 ⟨ρ1, S1, d, r1, e1, d1, p1⟩ => ?_⟩
  cases d with
  | str z =>
    rw [dv_str] at d1; subst d1
    refine ⟨rfl, ρ1, S1, E, r1, er.mono e1, (Post.bind (R := DVs X.K) p1).imp fun vs H2 ⟨ρ2, S2, ds, r2, e2, d2, p2⟩ => ?_⟩
    obtain ⟨u, hu, q⟩ := post_opt p2
    exact hr _ _ _ _ ⟨ρ2, S2, z, ds, u, rfl, r2, d2, hu, q⟩
  | _ => exact p1.elim
/-! texts as codes -/
def gStarts (_ : Sto) (z : Tx) (ds : List D) : Option D := match ds with
  | [.str p] => some (.bl (decide (z.take p.length = p)))
  | _ => none
theorem take_beq {z p : Tx} : (z.take p.length == p) = decide (z.take p.length = p) := by
  rw [Bool.eq_iff_iff]; simp
theorem starts_D (z p : Tx) : Txt.startswith ⟨z.toArray⟩ ⟨p.toArray⟩ = decide (z.take p.length = p) := by
  unfold Txt.startswith
  rw [StrLaws.subAt_eq, sv_len, sv_len]
  show (decide (0 + p.length ≤ z.length) && ((z.drop 0).take p.length == p)) = _
  rw [List.drop_zero, take_beq]
  by_cases h : z.take p.length = p
  · have hl := congrArg List.length h
    rw [List.length_take] at hl
    simp [h]
    omega
  · simp [h]
theorem rp_starts : ∀ x vs H Q, rPM X.K gStarts x vs H Q → (∃ a b, x = .str a ∧ vs = [.str b] ∧ Q (.bl (Txt.startswith a b)) H) := by
  rintro v vs H Q ⟨ρ, S, z, ds, d, rfl, r, dv, hg, q⟩
  unfold gStarts at hg
  split at hg
  · rename_i p
    cases hg
    obtain ⟨u, rfl, h1⟩ := dvs1 dv
    rw [dv_str] at h1; subst h1
    exact ⟨_, _, rfl, rfl, by rw [starts_D]; exact post_bl r q⟩
  · cases hg
def gEnds (_ : Sto) (z : Tx) (ds : List D) : Option D := match ds with
  | [.str p] => some (.bl (decide (p.length ≤ z.length ∧ z.drop (z.length - p.length) = p)))
  | _ => none
theorem ends_D (z p : Tx) : Txt.endswith ⟨z.toArray⟩ ⟨p.toArray⟩ = decide (p.length ≤ z.length ∧ z.drop (z.length - p.length) = p) := by
  unfold Txt.endswith
  rw [StrLaws.subAt_eq, sv_len, sv_len]
  show (decide (0 + p.length ≤ z.length) && ((z.drop (z.length - p.length)).take p.length == p)) = _
  by_cases h : p.length ≤ z.length
  · have e : (z.drop (z.length - p.length)).take p.length = z.drop (z.length - p.length) := List.take_of_length_le (by rw [List.length_drop]; omega)
    rw [e, Bool.eq_iff_iff]
    simp [h]
  · simp [h]
theorem rp_ends : ∀ x vs H Q, rPM X.K gEnds x vs H Q → (∃ a b, x = .str a ∧ vs = [.str b] ∧ Q (.bl (Txt.endswith a b)) H) := by
  rintro v vs H Q ⟨ρ, S, z, ds, d, rfl, r, dv, hg, q⟩
  unfold gEnds at hg
  split at hg
  · rename_i p
    cases hg
    obtain ⟨u, rfl, h1⟩ := dvs1 dv
    rw [dv_str] at h1; subst h1
    exact ⟨_, _, rfl, rfl, by rw [ends_D]; exact post_bl r q⟩
  · cases hg
/-- strings of a row -/
def strL : List D → Option (List Tx)
  | [] => some []
  | .str x :: r => (strL r).map (x :: ·)
  | _ => none
theorem strs_ok {K : PySem.W.Frag} {ρ : List Addr} {H : Hp} : ∀ {ds : List D} {vs : List V} {xs : List Tx}, DVs K ρ H ds vs → strL ds = some xs → vs = (xs.map SX.S).map V.str
  | [], vs, xs, h, e => by simp only [DVs] at h; simp only [strL] at e; cases e; subst h; rfl
  | d :: ds, vs, xs, h, e => by
    simp only [DVs] at h
    obtain ⟨v, rr, rfl, h1, h2⟩ := h
    cases d with
    | str x =>
      simp only [strL, Option.map_eq_some_iff] at e
      obtain ⟨ys, e1, rfl⟩ := e
      rw [dv_str] at h1; subst h1
      rw [strs_ok h2 e1]
      rfl
    | _ => simp only [strL] at e; cases e
@[simp] theorem strs_map (l : List Tx) : strL (l.map D.str) = some l := by
  induction l with
  | nil => rfl
  | cons x l ih => simp only [List.map_cons, strL, ih, Option.map_some]
theorem dvs_strs {K : PySem.W.Frag} {ρ : List Addr} {H : Hp} : ∀ (l : List Tx), DVs K ρ H (l.map D.str) ((l.map SX.S).map V.str)
  | [] => by simp [DVs]
  | x :: l => by
    simp only [List.map_cons, DVs]
    exact ⟨_, _, rfl, dv_str.mpr rfl, dvs_strs l⟩
open Classical in
/-- split by a text of signs below 256 -/
noncomputable def gSplit (_ : Sto) (z : Tx) (ds : List D) : Option D := match ds with
  | [.str p] => if p ≠ [] ∧ p.all (· < 256) = true ∧ sizeOk (z.length + 2) then some (.lst ((TL.spl p 0 [] z).map D.str)) else none
  | _ => none
theorem rp_split : ∀ x vs H Q, rPM X.K gSplit x vs H Q → (∃ a b, x = .str a ∧ vs = [.str b] ∧ (b.length == 0) = false ∧ a.length + 2 ≤ sizeLine ∧ rNewStrs (Txt.split a b) H Q) := by
  rintro v vs H Q ⟨ρ, S, z, ds, d, rfl, r, dv, hg, q⟩
  unfold gSplit at hg
  split at hg
  · rename_i p
    by_cases hl : p ≠ [] ∧ p.all (· < 256) = true ∧ sizeOk (z.length + 2)
    · rw [if_pos hl] at hg; cases hg
      obtain ⟨u, rfl, h1⟩ := dvs1 dv
      rw [dv_str] at h1; subst h1
      refine ⟨_, _, rfl, rfl, ?_, by rw [sv_len]; exact hl.2.2, ?_⟩
      · rw [sv_len]
        cases p with
        | nil => exact absurd rfl hl.1
        | cons a b => rfl
      · rw [SX.split_S hl.1 hl.2.1]
        intro t ht
        exact post_lst r ht (dvs_strs _) q
    · rw [if_neg hl] at hg; cases hg
  · cases hg
/-- join -/
def joinOk (z : Tx) (ys : List Tx) : Prop := (ys.map (·.length)).sum + ys.length * z.length ≤ 16777216
def rowF (S : Sto) : D → Option (List D)
  | .tup xs => some xs
  | d => seqF S d
open Classical in
noncomputable def gJoin (S : Sto) (z : Tx) (ds : List D) : Option D := match ds with
  | [d] => (match (rowF S d).bind strL with
    | some ys => if joinOk z ys then some (.str (TL.joinL z ys)) else none
    | none => none)
  | _ => none
theorem rowF_ok {K : PySem.W.Frag} {ρ : List Addr} {S : Sto} {H : Hp} (r : Rel K ρ S H) {d : D} {v : V} {xs : List D} (h : DV K ρ H d v) (q : rowF S d = some xs) : ∃ a vs, v = .ref a ∧ (SqL K H a vs ∨ SqT K H a vs) ∧ DVs K ρ H xs vs := by
  unfold rowF at q
  split at q
  · cases q
    obtain ⟨a, vs, rfl, h1, h2⟩ := tup_ok h
    exact ⟨a, vs, rfl, .inr h1, h2⟩
  · obtain ⟨a, vs, rfl, h1, h2⟩ := seqF_ok r h q
    exact ⟨a, vs, rfl, .inl h1, h2⟩
theorem rp_join : ∀ x vs H Q, rPM X.K gJoin x vs H Q → (∃ a p, ∃ ys : List Str, x = .str a ∧ vs = [.ref p] ∧ (SqL X.K H p (ys.map V.str) ∨ SqT X.K H p (ys.map V.str)) ∧
      (ys.map (·.length)).sum + ys.length * a.length ≤ 16777216 ∧ Q (.str (Txt.join a ys)) H) := by
  rintro v vs H Q ⟨ρ, S, z, ds, d, rfl, r, dv, hg, q⟩
  unfold gJoin at hg
  split at hg
  · rename_i x
    obtain ⟨u, rfl, h1⟩ := dvs1 dv
    cases e : rowF S x with
    | none => rw [e] at hg; cases hg
    | some xs =>
      rw [e] at hg
      cases e2 : strL xs with
      | none => rw [Option.bind_some, e2] at hg; cases hg
      | some ys =>
        rw [Option.bind_some, e2] at hg
        simp only at hg
        by_cases hl : joinOk z ys
        · rw [if_pos hl] at hg; cases hg
          obtain ⟨a, us, rfl, h2, h3⟩ := rowF_ok r h1 e
          have := strs_ok h3 e2
          subst this
          refine ⟨_, a, ys.map SX.S, rfl, rfl, h2, ?_, ?_⟩
          · rw [SX.lens, List.length_map, sv_len]; exact hl
          · have e4 : Txt.join ⟨z.toArray⟩ (ys.map SX.S) = SX.S (TL.joinL z ys) := SX.join_S z ys
            rw [e4]
            exact post_str r q
        · rw [if_neg hl] at hg; cases hg
  · cases hg
/-- zfill -/
def zfillD (z : Tx) (n : Int) : Tx := if n ≤ z.length then z else match z with
  | 43 :: r => 43 :: (List.replicate (n.toNat - z.length) 48 ++ r)
  | 45 :: r => 45 :: (List.replicate (n.toNat - z.length) 48 ++ r)
  | z => List.replicate (n.toNat - z.length) 48 ++ z
def padOk (i : Int) : Prop := PadOk i = true
open Classical in
noncomputable def gZfill (_ : Sto) (z : Tx) (ds : List D) : Option D := match ds with
  | [.int i] => if padOk i then some (.str (zfillD z i)) else none
  | _ => none
theorem tl_padded (x : Str) (k : Nat) : TL.tl (Builtin.Str.padded x k 0 48) = List.replicate k 48 ++ TL.tl x := by
  have := PyProof.Rows.padded_list x k 0 48
  simp only [List.replicate_zero, List.append_nil] at this
  exact this
theorem zfill_D (z : Tx) (n : Int) : Txt.zfill ⟨z.toArray⟩ n = ⟨(zfillD z n).toArray⟩ := by
  refine TL.ext_tl ?_
  unfold Txt.zfill zfillD
  rw [sv_len]
  by_cases h : n ≤ (z.length : Int)
  · rw [if_pos h, if_pos h]
  · rw [if_neg h, if_neg h]
    unfold zfilled
    have key : ∀ c (r : Tx), z = c :: r → TL.tl (Builtin.Str.strSub (⟨z.toArray⟩ : Str) 0 1 ++ Builtin.Str.padded (Builtin.Str.strSub (⟨z.toArray⟩ : Str) 1 (⟨z.toArray⟩ : Str).length) (n.toNat - z.length) 0 48) = c :: (List.replicate (n.toNat - z.length) 48 ++ r) := fun c r e => by
      subst e
      rw [TL.tl_append, tl_padded, TL.tl_strSub, TL.tl_strSub_end]
      rfl
    cases z with
    | nil => rw [show ((⟨([] : Tx).toArray⟩ : Str).cps[0]?) = none from rfl]; exact tl_padded _ _
    | cons c r =>
      rw [show ((⟨(c :: r).toArray⟩ : Str).cps[0]?) = some c by simp]
      by_cases h1 : c = 43
      · subst h1; exact key 43 r rfl
      · by_cases h2 : c = 45
        · subst h2; exact key 45 r rfl
        · have e1 : (match some c with | some 43 => Builtin.Str.strSub (⟨(c :: r).toArray⟩ : Str) 0 1 ++ Builtin.Str.padded (Builtin.Str.strSub (⟨(c :: r).toArray⟩ : Str) 1 (⟨(c :: r).toArray⟩ : Str).length) (n.toNat - (c :: r).length) 0 48 | some 45 => Builtin.Str.strSub (⟨(c :: r).toArray⟩ : Str) 0 1 ++ Builtin.Str.padded (Builtin.Str.strSub (⟨(c :: r).toArray⟩ : Str) 1 (⟨(c :: r).toArray⟩ : Str).length) (n.toNat - (c :: r).length) 0 48 | _ => Builtin.Str.padded (⟨(c :: r).toArray⟩ : Str) (n.toNat - (c :: r).length) 0 48) = Builtin.Str.padded (⟨(c :: r).toArray⟩ : Str) (n.toNat - (c :: r).length) 0 48 := by
            split
            · rename_i q; cases q; exact absurd rfl h1
            · rename_i q; cases q; exact absurd rfl h2
            · rfl
          refine (congrArg TL.tl e1).trans ?_
          rw [tl_padded]
          split
          · rename_i q; cases q; exact absurd rfl h1
          · rename_i q; cases q; exact absurd rfl h2
          · rfl
theorem rp_zfill : ∀ x vs H Q, rPM X.K gZfill x vs H Q → (∃ (a : Str) (i : Int), x = .str a ∧ vs = [.int i] ∧ PadOk i = true ∧ Q (.str (Txt.zfill a i)) H) := by
  rintro v vs H Q ⟨ρ, S, z, ds, d, rfl, r, dv, hg, q⟩
  unfold gZfill at hg
  split at hg
  · rename_i i
    by_cases hl : padOk i
    · rw [if_pos hl] at hg; cases hg
      have := dvs_int1 dv
      subst this
      exact ⟨_, i, rfl, rfl, hl, by rw [zfill_D]; exact post_str r q⟩
    · rw [if_neg hl] at hg; cases hg
  · cases hg
end
end PD

/-! PyD9: built-ins on texts, in, lists that change. -/
namespace PD
open PySem PySem.Spec PyProof PyProof.Rows L2
section
variable {X : Cx} {W : WW X.K} {pos : Pos}
/-! ### numbers and texts -/
def numT (i : Int) : Tx := if i < 0 then 45 :: TL.numL i.natAbs else TL.numL i.natAbs
theorem num_D (i : Int) : (Str.ofString (toString i)) = (⟨(numT i).toArray⟩ : Str) := by
  refine TL.ext_tl ?_
  unfold numT
  cases i with
  | ofNat n =>
    rw [if_neg (by simp)]
    exact TL.tl_num n
  | negSucc n =>
    rw [if_pos (Int.negSucc_lt_zero n)]
    have e : toString (Int.negSucc n) = "-" ++ toString (n + 1) := rfl
    have e2 := TL.tl_num (n + 1)
    rw [TL.tl_ofString] at e2
    rw [e, TL.tl_ofString, String.toList_append, List.map_append]
    have e3 : (toString ((n + 1 : Nat) : Int)) = toString (n + 1) := rfl
    rw [e3] at e2
    rw [e2]
    rfl
def strOkI (i : Int) : Prop := i.natAbs.log2 < 1920
open Classical in
noncomputable def gStr (_ : Sto) (ds : List D) : Option D := match ds with
  | [.int i] => if strOkI i then some (.str (numT i)) else none
  | _ => none
theorem rp_str : ∀ vs H Q, rPB X.K gStr vs H Q → (∃ i : Int, vs = [.int i] ∧ i.natAbs.log2 < 1920 ∧ Q (.str (toString i)) H) := by
  rintro vs H Q ⟨ρ, S, ds, d, r, dv, hg, q⟩
  unfold gStr at hg
  split at hg
  · rename_i i
    by_cases hl : strOkI i
    · rw [if_pos hl] at hg; cases hg
      have := dvs_int1 dv
      subst this
      refine ⟨i, rfl, hl, ?_⟩
      have e : ((toString i : String) : Str) = (⟨(numT i).toArray⟩ : Str) := num_D i
      rw [e]
      exact post_str r q
    · rw [if_neg hl] at hg; cases hg
  · cases hg
def digT (z : Tx) : Prop := z.all (fun c => decide (48 ≤ c) && decide (c ≤ 57)) = true ∧ z ≠ [] ∧ z.length ≤ 640
open Classical in
/-- int of a number, of a truth, of a text of figures -/
noncomputable def gIntA (S : Sto) (ds : List D) : Option D := match ds with
  | [.str z] => if digT z then some (.int (NumText.digitsVal z : Nat)) else none
  | ds => gInt S ds
def rIntA : List V → Hp → VK → Prop := fun xs H Q => (∃ a n, xs = [V.str a] ∧ PySem.intText? a = some n ∧ a.length ≤ 640 ∧ Q (.int n) H) ∨ rIntD xs H Q
theorem rp_intA : ∀ vs H Q, rPB X.K gIntA vs H Q → rIntA vs H Q := by
  rintro vs H Q ⟨ρ, S, ds, d, r, dv, hg, q⟩
  unfold gIntA at hg
  split at hg
  · rename_i z
    by_cases hl : digT z
    · rw [if_pos hl] at hg; cases hg
      obtain ⟨u, rfl, h1⟩ := dvs1 dv
      rw [dv_str] at h1; subst h1
      refine .inl ⟨_, _, rfl, SX.int_S hl.1 hl.2.1 (Nat.le_trans hl.2.2 (by decide)), by rw [sv_len]; exact hl.2.2, post_int r q⟩
    · rw [if_neg hl] at hg; cases hg
  · exact .inr (rp_int (X := X) _ _ _ ⟨ρ, S, ds, d, r, dv, hg, q⟩)
def gOrd (_ : Sto) (ds : List D) : Option D := match ds with
  | [.str [c]] => some (.int c)
  | _ => none
theorem rp_ord : ∀ vs H Q, rPB X.K gOrd vs H Q → (∃ x, vs = [V.str x] ∧ x.length = 1 ∧ Q (.int (x.cps.getD 0 0 : Nat)) H) := by
  rintro vs H Q ⟨ρ, S, ds, d, r, dv, hg, q⟩
  unfold gOrd at hg
  split at hg
  · rename_i c
    cases hg
    obtain ⟨u, rfl, h1⟩ := dvs1 dv
    rw [dv_str] at h1; subst h1
    exact ⟨_, rfl, rfl, post_int r q⟩
  · cases hg
def gChr (_ : Sto) (ds : List D) : Option D := match ds with
  | [.int i] => if 0 ≤ i ∧ i ≤ 1114111 then some (.str [i.toNat]) else none
  | _ => none
theorem rp_chr : ∀ vs H Q, rPB X.K gChr vs H Q → (∃ i, vs = [V.int i] ∧ 0 ≤ i ∧ i ≤ 1114111 ∧ Q (.str ⟨#[i.toNat]⟩) H) := by
  rintro vs H Q ⟨ρ, S, ds, d, r, dv, hg, q⟩
  unfold gChr at hg
  split at hg
  · rename_i i
    split at hg
    · rename_i h
      cases hg
      have := dvs_int1 dv
      subst this
      exact ⟨i, rfl, h.1, h.2, post_str (i := [i.toNat]) r q⟩
    · cases hg
  · cases hg
/-! ### in -/
def flD : D → Bool
  | .non => true
  | .bl _ => true
  | .int _ => true
  | .str _ => true
  | _ => false
theorem fl_eq {K : PySem.W.Frag} {ρ : List Addr} {H : Hp} {x y : D} {v u : V} (fx : flD x = true) (fy : flD y = true) (dx : DV K ρ H x v) (dy : DV K ρ H y u) : flatV v = true ∧ eqV v u = teq x y := by
  cases x <;> simp only [flD, Bool.false_eq_true] at fx <;> cases y <;> simp only [flD, Bool.false_eq_true] at fy <;>
    simp only [DV] at dx dy <;> subst dx dy <;> refine ⟨rfl, ?_⟩
  all_goals simp only [teq]
  all_goals first | rfl | skip
  all_goals (show (_ == _) = _; first | exact tx_str | (rw [Bool.eq_iff_iff]; simp))
theorem fl_in {K : PySem.W.Frag} {ρ : List Addr} {H : Hp} {x : D} {v : V} (fx : flD x = true) (dx : DV K ρ H x v) : ∀ {ys : List D} {us : List V}, ys.all flD = true → DVs K ρ H ys us → us.all flatV = true ∧ inV v us = ys.any fun y => teq y x
  | [], us, f, h => by simp only [DVs] at h; subst h; exact ⟨rfl, rfl⟩
  | y :: ys, us, f, h => by
    simp only [DVs] at h
    obtain ⟨u, r, rfl, h1, h2⟩ := h
    simp only [List.all_cons, Bool.and_eq_true] at f
    obtain ⟨a, b⟩ := fl_in fx dx f.2 h2
    obtain ⟨c, e⟩ := fl_eq f.1 fx h1 dx
    refine ⟨by simp [c, a], ?_⟩
    unfold inV at b ⊢
    rw [List.any_cons, List.any_cons, e, b]
def inB2 (S : Sto) (x y : D) : Option Bool := match x, y with
  | .str [c], .str z => some (decide (c ∈ z))
  | x, .tup ys => if flD x = true ∧ ys.all flD = true then some (ys.any fun y => teq y x) else none
  | x, y => (match seqF S y with
    | some ys => if flD x = true ∧ ys.all flD = true then some (ys.any fun y => teq y x) else
        if okd (flat S x) 64 = true ∧ okds ys 63 = true then some (ys.any fun y => teq y (flat S x)) else none
    | none => none)
def gIn (S : Sto) (x y : D) : Option D := (inB2 S x y).map D.bl
def gNotIn (S : Sto) (x y : D) : Option D := (inB2 S x y).map fun b => D.bl (!b)
def InOk (K : PySem.W.Frag) (b : Bool) (v u : V) (H : Hp) : Prop := (∃ c z, v = .str ⟨#[c]⟩ ∧ u = .str z ∧ decide (c ∈ z.cps.toList) = b) ∨
  (∃ p xs, u = .ref p ∧ (SqL K H p xs ∨ SqT K H p xs) ∧ flatV v = true ∧ xs.all flatV = true ∧ inV v xs = b) ∨
  (∃ d ds, Dp K H v d ∧ Dp K H u (.list ds) ∧ SeqAt.shaped d = true ∧ SeqAt.shaped (.list ds) = true ∧ (ds.any fun z => PyData.eqv z d) = b)
theorem any_teq : ∀ (ys : List D) (ps : List PyData) (x : D) (p : PyData), toPs ys = some ps → toP x = some p → (ps.any fun z => PyData.eqv z p) = ys.any fun y => teq y x
  | [], ps, x, p, h, g => by simp only [toPs] at h; cases h; rfl
  | y :: ys, ps, x, p, h, g => by
    simp only [toPs] at h
    split at h
    · rename_i a b e1 e2
      cases h
      rw [List.any_cons, List.any_cons, any_teq ys b x p e2 g, eqv_teq y x a p e1 g]
    · cases h
theorem inB2_ok {K : PySem.W.Frag} {ρ : List Addr} {S : Sto} {H : Hp} {x y : D} {v u : V} {b : Bool} (r : Rel K ρ S H) (dx : DV K ρ H x v) (dy : DV K ρ H y u) (h : inB2 S x y = some b) : InOk K b v u H := by
  unfold inB2 at h
  split at h
  · cases h
    rw [dv_str] at dx dy; subst dx dy
    exact .inl ⟨_, _, rfl, rfl, rfl⟩
  · rename_i ys
    split at h
    · rename_i f
      cases h
      obtain ⟨a, us, rfl, h1, h2⟩ := tup_ok dy
      obtain ⟨c, e⟩ := fl_in f.1 dx f.2 h2
      exact .inr (.inl ⟨a, us, rfl, .inr h1, (fl_eq f.1 f.1 dx dx).1, c, e⟩)
    · cases h
  · split at h
    · rename_i ys e
      obtain ⟨a, us, rfl, h1, h2⟩ := seqF_ok r dy e
      split at h
      · rename_i f
        cases h
        obtain ⟨c, e⟩ := fl_in f.1 dx f.2 h2
        exact .inr (.inl ⟨a, us, rfl, .inl h1, (fl_eq f.1 f.1 dx dx).1, c, e⟩)
      · split at h
        · rename_i f
          cases h
          obtain ⟨p, e1, a1, b1⟩ := okd_toP _ _ f.1
          obtain ⟨ps, e2, a2, b2⟩ := okds_toP _ _ f.2
          refine .inr (.inr ⟨p, ps, toPS_ok r dx (by rw [toPS_flat S _ f.1]; exact e1), .lst h1 (toPs_ok ys us ps h2 e2), by simp [SeqAt.shaped, a1, b1], by simp [SeqAt.shaped, PyData.canLay0, PyData.depth, a2]; omega, any_teq _ _ _ _ e2 e1⟩)
        · cases h
    · cases h
def rInA (K : PySem.W.Frag) : R2 := fun x y H Q => (∃ (c : Nat) (z : Str), x = .str ⟨#[c]⟩ ∧ y = .str z ∧ Q (.bl (decide (c ∈ z.cps.toList))) H) ∨ rIn K false x y H Q ∨ rInD K x y H Q
def rNotInA (K : PySem.W.Frag) : R2 := fun x y H Q => (∃ (c : Nat) (z : Str), x = .str ⟨#[c]⟩ ∧ y = .str z ∧ Q (.bl (!decide (c ∈ z.cps.toList))) H) ∨ rIn K true x y H Q ∨ rNotInD K x y H Q
theorem op_inA (hu : X.A.units + 65 < cLine) : OpR X (compareOp .In) (rInA X.K) := op_in_sign.or (op_in_seq.or (op_inD hu))
theorem op_notInA (hu : X.A.units + 65 < cLine) : OpR X (compareOp .NotIn) (rNotInA X.K) := op_notIn_sign.or (op_notIn_seq.or (op_notInD hu))
theorem rp_in : ∀ x y H Q, rP X.K gIn x y H Q → rInA X.K x y H Q := by
  rintro v u H Q ⟨ρ, S, x, y, d, r, dx, dy, hg, q⟩
  unfold gIn at hg
  simp only [Option.map_eq_some_iff] at hg
  obtain ⟨b, hb, rfl⟩ := hg
  rcases inB2_ok r dx dy hb with ⟨c, z, rfl, rfl, e⟩ | ⟨p, xs, rfl, h1, h2, h3, e⟩ | ⟨d1, ds, h1, h2, h3, h4, e⟩
  · exact .inl ⟨c, z, rfl, rfl, by rw [e]; exact post_bl r q⟩
  · exact .inr (.inl ⟨p, xs, rfl, h1, h2, h3, by rw [if_neg (by decide), e]; exact post_bl r q⟩)
  · exact .inr (.inr ⟨d1, ds, h1, h2, h3, h4, by rw [e]; exact post_bl r q⟩)
theorem rp_notIn : ∀ x y H Q, rP X.K gNotIn x y H Q → rNotInA X.K x y H Q := by
  rintro v u H Q ⟨ρ, S, x, y, d, r, dx, dy, hg, q⟩
  unfold gNotIn at hg
  simp only [Option.map_eq_some_iff] at hg
  obtain ⟨b, hb, rfl⟩ := hg
  rcases inB2_ok r dx dy hb with ⟨c, z, rfl, rfl, e⟩ | ⟨p, xs, rfl, h1, h2, h3, e⟩ | ⟨d1, ds, h1, h2, h3, h4, e⟩
  · exact .inl ⟨c, z, rfl, rfl, by rw [e]; exact post_bl r q⟩
  · exact .inr (.inl ⟨p, xs, rfl, h1, h2, h3, by rw [if_pos rfl, e]; exact post_bl r q⟩)
  · exact .inr (.inr ⟨d1, ds, h1, h2, h3, h4, by rw [e]; exact post_bl r q⟩)
/-! ### walks over anything -/
def iAny (a : ME) : MI := fun E S => (a E S).bind fun d S1 => match d with
  | .str z => .ok ⟨z.map fun c => .str [c], none⟩ S1
  | d => iSeq (mC d) E S1
theorem walks_str {ρ : List Addr} {H : Hp} {z : Tx} : Walks X.K ρ H ⟨z.map fun c => .str [c], none⟩ (Its ⟨z.toArray⟩) := by
  intro ρ1 S H1 r e c
  refine ⟨fun i d hd => ?_, by simp [Its]⟩
  rw [List.getElem?_map, Option.map_eq_some_iff] at hd
  obtain ⟨k, hk, rfl⟩ := hd
  have hi := (List.getElem?_eq_some_iff.mp hk).1
  refine ⟨by simpa [Its] using hi, fun x H' hy => ?_⟩
  obtain ⟨rfl, c, hc, rfl⟩ := hy
  simp only [List.getElem?_toArray, hk, Option.some.injEq] at hc
  subst hc
  exact ⟨r, Ext.refl, by simp [DV, sv]⟩
theorem id_any {tg e : Expr} {m : ME} (h : ED X W e m) : ID X W tg e (iAny m) := by
  refine PI.impI (PI.or (pi_str h) (PI.or (pi_tup h) (pi_list h))) fun σ H R ρ S E r er p => ?_
  unfold iAny at p
  cases q : m E S with
  | bad => rw [q] at p; exact p.elim
  | ex e S1 => rw [q] at p; exact .inl ⟨ρ, S, E, r, er, by rw [q]; exact p⟩
  | ok d S1 =>
    rw [q, bind_ok] at p
    cases d with
    | str z =>
      refine .inl ⟨ρ, S, E, r, er, ?_⟩
      rw [q]
      intro ρ1 H1 v r1 e1 dv
      rw [dv_str] at dv; subst dv
      exact ⟨_, rfl, p ρ1 H1 _ r1 e1 walks_str⟩
    | tup xs =>
      refine .inr (.inl ⟨ρ, S, E, r, er, ?_⟩)
      rw [q]
      intro ρ1 H1 v r1 e1 dv
      simp only [DV] at dv
      obtain ⟨a, vs, rfl, h1, h2⟩ := dv
      exact ⟨a, rfl, ⟨vs, h1⟩, p ρ1 H1 _ r1 e1 (walks_tup h1 h2)⟩
    | lst xs =>
      refine .inr (.inr ⟨ρ, S, E, r, er, ?_⟩)
      rw [q]
      intro ρ1 H1 v r1 e1 dv
      simp only [DV] at dv
      obtain ⟨a, vs, rfl, h1, h2⟩ := dv
      exact ⟨a, rfl, ⟨vs, h1.seq⟩, p ρ1 H1 _ r1 e1 (walks_lst h1 h2)⟩
    | fz xs =>
      refine .inr (.inr ⟨ρ, S, E, r, er, ?_⟩)
      rw [q]
      intro ρ1 H1 v r1 e1 dv
      simp only [DV] at dv
      obtain ⟨a, vs, rfl, h1, h2⟩ := dv
      exact ⟨a, rfl, ⟨vs, h1.seq⟩, p ρ1 H1 _ r1 e1 (walks_fz h1 h2)⟩
    | loc n =>
      simp only [iSeq, mC, bind_ok] at p
      cases e : S1[n]? with
      | none => rw [e] at p; exact p.elim
      | some o =>
        cases o with
        | lst xs =>
          rw [e] at p
          refine .inr (.inr ⟨ρ, S, E, r, er, ?_⟩)
          rw [q]
          intro ρ1 H1 v r1 e1 dv
          simp only [DV] at dv
          obtain ⟨a, rfl, ha⟩ := dv
          obtain ⟨vs, h1, d1⟩ := r1.lst e ha
          exact ⟨a, rfl, ⟨vs, SqL.of h1⟩, p ρ1 H1 _ r1 e1 (walks_loc ha)⟩
        | _ => rw [e] at p; exact p.elim
    | _ => exact p.elim
/-! ### all, any -/
def bools : List D → Option (List Bool)
  | [] => some []
  | .bl x :: r => (bools r).map (x :: ·)
  | _ => none
theorem bools_ok {K : PySem.W.Frag} {ρ : List Addr} {H : Hp} : ∀ {ds : List D} {vs : List V} {xs : List Bool}, DVs K ρ H ds vs → bools ds = some xs → vs = xs.map V.bl
  | [], vs, xs, h, e => by simp only [DVs] at h; simp only [bools] at e; cases e; subst h; rfl
  | d :: ds, vs, xs, h, e => by
    simp only [DVs] at h
    obtain ⟨v, rr, rfl, h1, h2⟩ := h
    cases d with
    | bl x =>
      simp only [bools, Option.map_eq_some_iff] at e
      obtain ⟨ys, e1, rfl⟩ := e
      rw [dv_bl] at h1; subst h1
      rw [bools_ok h2 e1]
      rfl
    | _ => simp only [bools] at e; cases e
@[simp] theorem bools_map (l : List Bool) : bools (l.map D.bl) = some l := by
  induction l with
  | nil => rfl
  | cons x l ih => simp only [List.map_cons, bools, ih, Option.map_some]
def gAll (S : Sto) (ds : List D) : Option D := match ds with
  | [d] => ((seqF S d).bind bools).map fun bs => .bl (bs.all id)
  | _ => none
def gAny (S : Sto) (ds : List D) : Option D := match ds with
  | [d] => ((seqF S d).bind bools).map fun bs => .bl (bs.any id)
  | _ => none
theorem rp_all : ∀ vs H Q, rPB X.K gAll vs H Q → rAll X.K vs H Q := by
  rintro vs H Q ⟨ρ, S, ds, d, r, dv, hg, q⟩
  unfold gAll at hg
  split at hg
  · rename_i x
    simp only [Option.map_eq_some_iff, Option.bind_eq_some_iff] at hg
    obtain ⟨bs, ⟨xs, e1, e2⟩, rfl⟩ := hg
    obtain ⟨u, rfl, h1⟩ := dvs1 dv
    obtain ⟨a, us, rfl, h2, h3⟩ := seqF_ok r h1 e1
    have := bools_ok h3 e2
    subst this
    exact ⟨a, bs, rfl, h2, post_bl r q⟩
  · cases hg
theorem rp_any : ∀ vs H Q, rPB X.K gAny vs H Q → rAny X.K vs H Q := by
  rintro vs H Q ⟨ρ, S, ds, d, r, dv, hg, q⟩
  unfold gAny at hg
  split at hg
  · rename_i x
    simp only [Option.map_eq_some_iff, Option.bind_eq_some_iff] at hg
    obtain ⟨bs, ⟨xs, e1, e2⟩, rfl⟩ := hg
    obtain ⟨u, rfl, h1⟩ := dvs1 dv
    obtain ⟨a, us, rfl, h2, h3⟩ := seqF_ok r h1 e1
    have := bools_ok h3 e2
    subst this
    exact ⟨a, bs, rfl, h2, post_bl r q⟩
  · cases hg
/-! ### texts and lists many times -/
def repOk (n : Nat) (k : Int) : Prop := -(2 ^ 62) ≤ k ∧ k < 2 ^ 62 ∧ n * k.toNat ≤ 16777216
open Classical in
noncomputable def gMulA (S : Sto) (x y : D) : Option D := match x, y with
  | .str z, .int k => if repOk z.length k then some (.str (List.replicate k.toNat z).flatten) else none
  | .int _, _ => gMul S x y
  | x, .int k => (match seqL S x with
    | some xs => if repOk xs.length k then some (.lst (List.replicate k.toNat xs).flatten) else none
    | none => none)
  | _, _ => none
theorem foldl_repN (its : List Nat) : ∀ (k : Nat) (acc : List Nat), List.foldl (fun x1 x2 => x1 ++ x2) acc.toArray (List.replicate k its.toArray) = (acc ++ (List.replicate k its).flatten).toArray
  | 0, acc => by simp
  | k + 1, acc => by
    rw [List.replicate_succ, List.foldl_cons, List.append_toArray, foldl_repN its k (acc ++ its), List.replicate_succ, List.flatten_cons, List.append_assoc]
theorem mul_D {z : Tx} {k : Int} (h : repOk z.length k) : Txt.mul ⟨z.toArray⟩ k = ⟨((List.replicate k.toNat z).flatten).toArray⟩ := by
  unfold Txt.mul
  rw [sv_len]
  by_cases h1 : k < 1
  · rw [if_pos h1]
    have : k.toNat = 0 := by omega
    rw [this]
    rfl
  · rw [if_neg h1]
    by_cases h2 : (k == 1 || z.length == 0) = true
    · rw [if_pos h2]
      simp only [Bool.or_eq_true, beq_iff_eq] at h2
      rcases h2 with h2 | h2
      · subst h2; simp
      · have : z = [] := List.length_eq_zero_iff.mp h2
        subst this
        simp
    · rw [if_neg h2]
      have := foldl_repN z k.toNat []
      rw [List.nil_append] at this
      exact congrArg Str.mk this
theorem mul_ok {z : Tx} {k : Int} (h : repOk z.length k) : MulOk ⟨z.toArray⟩ k := by
  obtain ⟨h0, h1, h2⟩ := h
  refine ⟨?_, fun h3 h4 => ?_, fun _ _ => ?_⟩
  · rw [decide_eq_false (by omega), decide_eq_false (by omega)]; rfl
  · rw [sv_len]
    intro h5
    have hk : 0 < k := by omega
    have e1 : (2 ^ 63 - 1 : Int) < (z.length : Int) * k := by
      have := (Int.ediv_lt_iff_lt_mul hk).mp h5
      exact this
    have e2 : ((z.length * k.toNat : Nat) : Int) = (z.length : Int) * k := by rw [Int.natCast_mul, Int.toNat_of_nonneg (by omega)]
    omega
  · rw [sv_len]
    unfold Builtin.Str.tooLong
    rw [sizeLine_eq]
    exact decide_eq_false (by omega)
def rMulA (X : Cx) : R2 := fun x y H Q => rMulD x y H Q ∨ (∃ (z : Str) (k : Int), x = .str z ∧ y = .int k ∧ MulOk z k ∧ Q (.str (Txt.mul z k)) H) ∨ rRep x y H Q
theorem op_mul_str : OpR X (binaryOp .Mult) (fun x y H Q => ∃ (z : Str) (k : Int), x = .str z ∧ y = .int k ∧ MulOk z k ∧ Q (.str (Txt.mul z k)) H) := by
  intro pins s σ H x y v u Q I rx ry h
  obtain ⟨z, k, rfl, rfl, hk, q⟩ := h
  obtain ⟨t, rfl⟩ := rx
  obtain ⟨t', rfl⟩ := ry
  exact SB.mul hk fun t2 k2 => ⟨.str _, H, I.tok _, ⟨_, rfl⟩, q⟩
theorem op_mulA : OpR X (binaryOp .Mult) (rMulA X) := op_mulD.or (op_mul_str.or op_rep)
theorem dvs_rep {K : PySem.W.Frag} {ρ : List Addr} {H : Hp} {ds : List D} {vs : List V} (h : DVs K ρ H ds vs) : ∀ k : Nat, DVs K ρ H (List.replicate k ds).flatten (List.replicate k vs).flatten
  | 0 => by simp [DVs]
  | k + 1 => by
    simp only [List.replicate_succ, List.flatten_cons]
    exact h.append (dvs_rep h k)
theorem rp_mulA : ∀ x y H Q, rP X.K gMulA x y H Q → rMulA X x y H Q := by
  rintro v u H Q ⟨ρ, S, x, y, d, r, dx, dy, hg, q⟩
  unfold gMulA at hg
  split at hg
  · rename_i z k
    rw [dv_str] at dx; rw [dv_int] at dy; subst dx dy
    by_cases hl : repOk z.length k
    · rw [if_pos hl] at hg; cases hg
      exact .inr (.inl ⟨_, k, rfl, rfl, mul_ok hl, by rw [mul_D hl]; exact post_str r q⟩)
    · rw [if_neg hl] at hg; cases hg
  · exact .inl (rp_mul (X := X) _ _ _ _ ⟨ρ, S, _, _, d, r, dx, dy, hg, q⟩)
  · rename_i k _ _
    rw [dv_int] at dy; subst dy
    cases e : seqL S x with
    | none => rw [e] at hg; cases hg
    | some xs =>
      rw [e] at hg
      simp only at hg
      by_cases hl : repOk xs.length k
      · rw [if_pos hl] at hg; cases hg
        obtain ⟨a, vs, rfl, h1, h2⟩ := seqL_ok r dx e
        obtain ⟨a0, a1, a2⟩ := hl
        exact .inr (.inr ⟨a, k, vs, rfl, rfl, h1, by omega, by omega, by rw [← h2.length, sizeLine_eq]; omega, fun p hp => post_lst r hp (dvs_rep h2 _) q⟩)
      · rw [if_neg hl] at hg; cases hg
  · cases hg
end
end PD

/-! PyE0: lists that change; comprehensions; what a def leaves behind is dropped. -/
namespace PD
open PySem PySem.Spec PyProof PyProof.Rows L2
section
variable {X : Cx} {W : WW X.K} {pos : Pos}
/-! ### a list of the store gets other items -/
theorem Ext.write {K : PySem.W.Frag} {ρ : List Addr} {H : Hp} {a : Addr} {vs us : List V} (ha : a ∈ ρ) (h : H a = some (.lst vs)) : Ext K ρ H ρ (upd H a (.lst us)) := by
  refine ⟨⟨[], by simp⟩, fun b ws hb => ?_, fun b ws hb hw => ⟨hb, ?_⟩, fun b o ws hb => ?_, fun b fs hb => ?_⟩
  · refine hb.imp (fun hb => Rd.upd (fun z => ?_) hb) id
    subst z
    rcases hb with hb | ⟨o, hb⟩ <;> rw [h] at hb <;> cases hb
  · rw [upd_ne (fun z => by subst z; exact hb ha)]; exact hw
  · rw [upd_ne (fun z => by subst z; rw [h] at hb; cases hb)]; exact hb
  · rw [upd_ne (fun z => by subst z; rw [h] at hb; cases hb)]; exact hb
theorem nodup_at {ρ : List Addr} (hn : ρ.Nodup) {i j : Nat} {a : Addr} (hi : ρ[i]? = some a) (hj : ρ[j]? = some a) : i = j := by
  obtain ⟨h1, e1⟩ := List.getElem?_eq_some_iff.mp hi
  obtain ⟨h2, e2⟩ := List.getElem?_eq_some_iff.mp hj
  have hp := List.pairwise_iff_getElem.mp hn
  rcases Nat.lt_trichotomy i j with h | h | h
  · exact absurd (e1.trans e2.symm) (hp i j h1 h2 h)
  · exact h
  · exact absurd (e2.trans e1.symm) (hp j i h2 h1 h)
theorem Rel.write {K : PySem.W.Frag} {ρ : List Addr} {S : Sto} {H : Hp} (r : Rel K ρ S H) {n : Nat} {a : Addr} {xs ys : List D} {vs us : List V} (ha : ρ[n]? = some a) (hs : S[n]? = some (.lst xs)) (h : H a = some (.lst vs)) (d : DVs K ρ H ys us) :
    Rel K ρ (S.set n (.lst ys)) (upd H a (.lst us)) := by
  have e := Ext.write (K := K) (us := us) (List.mem_of_getElem? ha) h
  refine ⟨by simpa using r.len, r.nd, fun m o b h1 h2 => ?_⟩
  by_cases hm : n = m
  · subst hm
    rw [ha] at h2; cases h2
    have hl := (List.getElem?_eq_some_iff.mp hs).1
    rw [List.getElem?_set_self hl] at h1
    cases h1
    exact ⟨us, upd_same, DVs.mono e _ _ d⟩
  · rw [List.getElem?_set_ne hm] at h1
    have hb : b ≠ a := fun z => by subst z; exact hm (nodup_at r.nd ha h2)
    exact (r.at_ m o b h1 h2).mono e fun u hu => by rw [upd_ne hb]; exact hu
abbrev GL := Sto → List D → List D → Option (D × List D)
noncomputable def mLM (g : GL) (o : ME) (a : MA) : ME := fun E S => (o E S).bind fun x S1 => match x with
  | .loc n => (match S1[n]? with
    | some (.lst _) => (a E S1).bind fun xs S2 => (match S2[n]? with
      | some (.lst l) => (match g S2 l xs with
        | some (d, l2) => .ok d (S2.set n (.lst l2))
        | none => .bad)
      | _ => .bad)
    | _ => .bad)
  | _ => .bad
/-- a changing method by plain data -/
def rPL (K : PySem.W.Frag) (g : GL) : V → List V → Hp → VK → Prop := fun x vs H Q => ∃ ρ S n a l us ds d l2, x = .ref a ∧ Rel K ρ S H ∧ ρ[n]? = some a ∧ S[n]? = some (.lst l) ∧ H a = some (.lst us) ∧ DVs K ρ H l us ∧ DVs K ρ H ds vs ∧ g S l ds = some (d, l2) ∧
  ∀ ρ' H' v, Rel K ρ' (S.set n (.lst l2)) H' → Ext K ρ H ρ' H' → DV K ρ' H' d v → Q v H'
variable {id : String} {name : Str} {o e : Expr} {es : List Expr} {mo : ME} {ma : MA} {apos : Pos} {r : V → List V → Hp → VK → Prop} {g : GL}
theorem lm_read {n : Nat} {v : V} {ρ1 : List Addr} {S1 : Sto} {H1 : Hp} (r1 : Rel X.K ρ1 S1 H1) {xs : List D} (hs : S1[n]? = some (.lst xs)) (dv : DV X.K ρ1 H1 (.loc n) v) : ∃ a, v = .ref a ∧ ρ1[n]? = some a ∧ tyV X.K "list" v H1 := by
  simp only [DV] at dv
  obtain ⟨a, rfl, ha⟩ := dv
  obtain ⟨us, h1, d1⟩ := r1.lst hs ha
  exact ⟨a, rfl, ha, .inl ⟨rfl, us, SqL.of h1⟩⟩
theorem ed_lm0 (slot : Slot "list" name id) (ty : typeOf (.builtin id) = pure (.type "method_descriptor")) (hm : MtM X id r) (hr : ∀ x vs H Q, rPL X.K g x vs H Q → r x vs H Q) (ho : ED X W o mo)
    (hbase : attributeBase o name X.env (eval o X.env) = eval o X.env := by rfl) (hline : (apos.endLine == pos.line) = true := by rfl) : ED X W (.Call (.Attribute o name apos) [] [] pos) (mLM g mo mNil) := by
  refine ed_of (pe_bm0 (T := "list") (PySem.F.plainAttrs_list) slot ty hm ho hbase hline) fun σ H Q ρ S E r0 er p => ?_
  refine ⟨ρ, S, E, r0, er, (Post.bind (R := DV X.K) p).imp fun x H1 ⟨ρ1, S1, d, r1, e1, d1, p1⟩ => ?_⟩
  cases d with
  | loc n =>
    cases hs : S1[n]? with
    | none => simp only [hs] at p1; exact p1.elim
    | some ob =>
      cases ob with
      | lst xs =>
        obtain ⟨a, rfl, ha, ty⟩ := lm_read r1 hs d1
        refine ⟨ty, ?_⟩
        simp only [hs, mNil, bind_ok] at p1
        cases hg : g S1 xs [] with
        | none => rw [hg] at p1; exact p1.elim
        | some dl =>
          obtain ⟨d, l2⟩ := dl
          rw [hg] at p1
          obtain ⟨us, h1, d2⟩ := r1.lst hs ha
          exact hr _ _ _ _ ⟨ρ1, S1, n, a, xs, us, [], d, l2, rfl, r1, ha, hs, h1, d2, by simp [DVs], hg, p1⟩
      | _ => simp only [hs] at p1; exact p1.elim
  | _ => exact p1.elim
theorem ed_lm (slot : Slot "list" name id) (ty : typeOf (.builtin id) = pure (.type "method_descriptor")) (hm : MtM X id r) (hr : ∀ x vs H Q, rPL X.K g x vs H Q → r x vs H Q) (ho : ED X W o mo) (ha : AD X W (e :: es) ma)
    (hbase : attributeBase o name X.env (eval o X.env) = eval o X.env := by rfl)
    (hfew : ((backTo pos (starEach (e :: es) X.env)).all (fun x => !x.1) && (backToKw pos (keywordEach [] X.env)).all (fun x => x.1.isSome)
      && decide ((e :: es).length + ([] : List Keyword).length + (if ([] : List Keyword).isEmpty then 0 else 1) < 30)) = true := by rfl)
    (hline : (apos.endLine == pos.line) = true := by rfl) (hs : starEach (e :: es) X.env = (false, eval e X.env) :: starEach es X.env := by rfl) (hplain : (backTo pos (starEach es X.env)).any (·.1) = false := by rfl) :
    ED X W (.Call (.Attribute o name apos) (e :: es) [] pos) (mLM g mo ma) := by
  refine ed_of (pe_bm (T := "list") (PySem.F.plainAttrs_list) slot ty hm ho ha hbase hfew hline hs hplain) fun σ H Q ρ S E r0 er p => ?_
  refine ⟨ρ, S, E, r0, er, (Post.bind (R := DV X.K) p).imp fun x H1 ⟨ρ1, S1, d, r1, e1, d1, p1⟩ => ?_⟩
  cases d with
  | loc n =>
    cases hs : S1[n]? with
    | none => simp only [hs] at p1; exact p1.elim
    | some ob =>
      cases ob with
      | lst xs =>
        obtain ⟨a, rfl, hra, ty⟩ := lm_read r1 hs d1
        simp only [hs] at p1
        refine ⟨ty, ρ1, S1, E, r1, er.mono e1, (Post.bind (R := DVs X.K) p1).imp fun vs H2 ⟨ρ2, S2, ds, r2, e2, d2, p2⟩ => ?_⟩
        have ha2 : ρ2[n]? = some a := by
          obtain ⟨t, rfl⟩ := e2.pre
          rw [List.getElem?_append_left (List.getElem?_eq_some_iff.mp hra).1]; exact hra
        cases hs2 : S2[n]? with
        | none => simp only [hs2] at p2; exact p2.elim
        | some ob =>
          cases ob with
          | lst ys =>
            simp only [hs2] at p2
            cases hg : g S2 ys ds with
            | none => rw [hg] at p2; exact p2.elim
            | some dl =>
              obtain ⟨d, l2⟩ := dl
              rw [hg] at p2
              obtain ⟨us, h1, d3⟩ := r2.lst hs2 ha2
              exact hr _ _ _ _ ⟨ρ2, S2, n, a, ys, us, ds, d, l2, rfl, r2, ha2, hs2, h1, d3, d2, hg, p2⟩
          | _ => simp only [hs2] at p2; exact p2.elim
      | _ => simp only [hs] at p1; exact p1.elim
  | _ => exact p1.elim
/-! the methods -/
open Classical in
noncomputable def gAppend : GL := fun _ l ds => match ds with
  | [d] => if sizeOk (l.length + 1) then some (.non, l ++ [d]) else none
  | _ => none
theorem post_write {K : PySem.W.Frag} {ρ : List Addr} {S : Sto} {H : Hp} {Q : VK} {n : Nat} {a : Addr} {l l2 : List D} {us u2 : List V} {d : D} {v : V} (r : Rel K ρ S H) (ha : ρ[n]? = some a) (hs : S[n]? = some (.lst l)) (h1 : H a = some (.lst us)) (d2 : DVs K ρ H l2 u2) (dv : DV K ρ H d v)
    (q : ∀ ρ' H' v, Rel K ρ' (S.set n (.lst l2)) H' → Ext K ρ H ρ' H' → DV K ρ' H' d v → Q v H') : Q v (upd H a (.lst u2)) :=
  q ρ _ _ (r.write ha hs h1 d2) (Ext.write (List.mem_of_getElem? ha) h1) (DV.mono (Ext.write (List.mem_of_getElem? ha) h1) _ _ dv)
theorem rp_append : ∀ x vs H Q, rPL X.K gAppend x vs H Q → rAppend x vs H Q := by
  rintro x vs H Q ⟨ρ, S, n, a, l, us, ds, d, l2, rfl, r, ha, hs, h1, dl, dv, hg, q⟩
  unfold gAppend at hg
  split at hg
  · rename_i y
    by_cases hl : sizeOk (l.length + 1)
    · rw [if_pos hl] at hg; cases hg
      obtain ⟨w, rfl, h2⟩ := dvs1 dv
      exact ⟨a, us, w, rfl, rfl, h1, by rw [← dl.length]; exact hl, post_write r ha hs h1 (dl.append (DVs.one h2)) (dv_non.mpr rfl) q⟩
    · rw [if_neg hl] at hg; cases hg
  · cases hg
def gPop : GL := fun _ l ds => match ds with
  | [] => l[l.length - 1]?.map fun d => (d, l.dropLast)
  | _ => none
theorem dvs_dropLast {K : PySem.W.Frag} {ρ : List Addr} {H : Hp} {ds : List D} {vs : List V} (h : DVs K ρ H ds vs) : DVs K ρ H ds.dropLast vs.dropLast := by
  rw [List.dropLast_eq_take, List.dropLast_eq_take, h.length]
  exact h.take _
theorem rp_pop : ∀ x vs H Q, rPL X.K gPop x vs H Q → rPop x vs H Q := by
  rintro x vs H Q ⟨ρ, S, n, a, l, us, ds, d, l2, rfl, r, ha, hs, h1, dl, dv, hg, q⟩
  unfold gPop at hg
  split at hg
  · rw [Option.map_eq_some_iff] at hg
    obtain ⟨y, hy, e⟩ := hg
    cases e
    simp only [DVs] at dv
    subst dv
    obtain ⟨w, h2, h3⟩ := dl.get hy
    exact ⟨a, us, w, rfl, rfl, h1, by rw [← dl.length]; exact h2, post_write r ha hs h1 (dvs_dropLast dl) h3 q⟩
  · cases hg
open Classical in
noncomputable def gExtend : GL := fun S l ds => match ds with
  | [d] => (match seqL S d with
    | some ys => if sizeOk (l.length + ys.length) then some (.non, l ++ ys) else none
    | none => none)
  | _ => none
theorem rp_extend : ∀ x vs H Q, rPL X.K gExtend x vs H Q → rExtend x vs H Q := by
  rintro x vs H Q ⟨ρ, S, n, a, l, us, ds, d, l2, rfl, r, ha, hs, h1, dl, dv, hg, q⟩
  unfold gExtend at hg
  split at hg
  · rename_i y
    cases e : seqL S y with
    | none => rw [e] at hg; cases hg
    | some ys =>
      rw [e] at hg
      simp only at hg
      by_cases hl : sizeOk (l.length + ys.length)
      · rw [if_pos hl] at hg; cases hg
        obtain ⟨w, rfl, h2⟩ := dvs1 dv
        obtain ⟨b, ws, rfl, h3, h4⟩ := seqL_ok r h2 e
        exact ⟨a, b, us, ws, rfl, rfl, h1, h3, by rw [← dl.length, ← h4.length]; exact hl, post_write r ha hs h1 (dl.append h4) (dv_non.mpr rfl) q⟩
      · rw [if_neg hl] at hg; cases hg
  · cases hg

/-! ### what a def leaves behind is dropped -/
mutual
def lb (n : Nat) : D → Bool
  | .tup xs => lbs n xs
  | .lst xs => lbs n xs
  | .fz xs => lbs n xs
  | .loc k => decide (k < n)
  | .non => true
  | .bl _ => true
  | .int _ => true
  | .str _ => true
  | .ty _ => true
  | .glo _ => true
  | .exo => true
def lbs (n : Nat) : List D → Bool
  | [] => true
  | x :: xs => lb n x && lbs n xs
end
mutual
theorem DV.lb {K : PySem.W.Frag} {ρ : List Addr} {H : Hp} : ∀ (d : D) (v : V), DV K ρ H d v → lb ρ.length d = true
  | .non, v, h => by simp [PD.lb]
  | .bl _, v, h => by simp [PD.lb]
  | .int _, v, h => by simp [PD.lb]
  | .str _, v, h => by simp [PD.lb]
  | .ty _, v, h => by simp [PD.lb]
  | .glo _, v, h => by simp [PD.lb]
  | .exo, v, h => by simp [PD.lb]
  | .tup xs, v, h => by simp only [DV] at h; obtain ⟨a, vs, rfl, h1, h2⟩ := h; simp only [PD.lb]; exact DVs.lbs xs vs h2
  | .lst xs, v, h => by simp only [DV] at h; obtain ⟨a, vs, rfl, h1, h2⟩ := h; simp only [PD.lb]; exact DVs.lbs xs vs h2
  | .fz xs, v, h => by simp only [DV] at h; obtain ⟨a, vs, rfl, h1, h2⟩ := h; simp only [PD.lb]; exact DVs.lbs xs vs h2
  | .loc n, v, h => by simp only [DV] at h; obtain ⟨a, rfl, h1⟩ := h; simp only [PD.lb, decide_eq_true_eq]; exact (List.getElem?_eq_some_iff.mp h1).1
theorem DVs.lbs {K : PySem.W.Frag} {ρ : List Addr} {H : Hp} : ∀ (ds : List D) (vs : List V), DVs K ρ H ds vs → lbs ρ.length ds = true
  | [], vs, h => by simp [PD.lbs]
  | x :: xs, vs, h => by
    simp only [DVs] at h
    obtain ⟨v, r, rfl, h1, h2⟩ := h
    simp only [PD.lbs, Bool.and_eq_true]
    exact ⟨DV.lb x v h1, DVs.lbs xs r h2⟩
end
mutual
theorem DV.shrink {K : PySem.W.Frag} {ρ t : List Addr} {H : Hp} : ∀ (d : D) (v : V), DV K (ρ ++ t) H d v → lb ρ.length d = true → DV K ρ H d v
  | .non, v, h, _ => by simp only [DV] at h ⊢; exact h
  | .bl _, v, h, _ => by simp only [DV] at h ⊢; exact h
  | .int _, v, h, _ => by simp only [DV] at h ⊢; exact h
  | .str _, v, h, _ => by simp only [DV] at h ⊢; exact h
  | .ty _, v, h, _ => by simp only [DV] at h ⊢; exact h
  | .glo _, v, h, _ => by simp only [DV] at h ⊢; exact h
  | .exo, v, h, _ => by simp only [DV] at h ⊢; exact h
  | .tup xs, v, h, b => by simp only [DV] at h ⊢; simp only [PD.lb] at b; obtain ⟨a, vs, rfl, h1, h2⟩ := h; exact ⟨a, vs, rfl, h1, DVs.shrink xs vs h2 b⟩
  | .lst xs, v, h, b => by
    simp only [DV] at h ⊢; simp only [PD.lb] at b; obtain ⟨a, vs, rfl, h1, h2⟩ := h
    exact ⟨a, vs, rfl, ⟨fun z => h1.1 (List.mem_append_left _ z), h1.2⟩, DVs.shrink xs vs h2 b⟩
  | .fz xs, v, h, b => by simp only [DV] at h ⊢; simp only [PD.lb] at b; obtain ⟨a, vs, rfl, h1, h2⟩ := h; exact ⟨a, vs, rfl, h1, DVs.shrink xs vs h2 b⟩
  | .loc n, v, h, b => by
    simp only [DV] at h ⊢; simp only [PD.lb, decide_eq_true_eq] at b; obtain ⟨a, rfl, h1⟩ := h
    exact ⟨a, rfl, by rw [List.getElem?_append_left b] at h1; exact h1⟩
theorem DVs.shrink {K : PySem.W.Frag} {ρ t : List Addr} {H : Hp} : ∀ (ds : List D) (vs : List V), DVs K (ρ ++ t) H ds vs → lbs ρ.length ds = true → DVs K ρ H ds vs
  | [], vs, h, _ => by simp only [DVs] at h ⊢; exact h
  | x :: xs, vs, h, b => by
    simp only [DVs] at h ⊢
    obtain ⟨v, r, rfl, h1, h2⟩ := h
    simp only [PD.lbs, Bool.and_eq_true] at b
    exact ⟨v, r, rfl, DV.shrink x v h1 b.1, DVs.shrink xs r h2 b.2⟩
end
theorem KVR.shrink {K : PySem.W.Frag} {ρ t : List Addr} {H H0 : Hp} : ∀ (xs : List (Key × D)) (vs us : List (Key × V)), KVR K (ρ ++ t) H xs vs → KVR K ρ H0 xs us → KVR K ρ H xs vs
  | [], _, _, h, _ => h
  | (k, d) :: r, _, _, ⟨v, w, h1, h2, h3⟩, ⟨u, z, g1, g2, g3⟩ => ⟨v, w, h1, DV.shrink d v h2 (DV.lb d u g2), KVR.shrink r w z h3 g3⟩
theorem Ext.shrink {K : PySem.W.Frag} {ρ ρ' : List Addr} {H H' : Hp} (e : Ext K ρ H ρ' H') : Ext K ρ H ρ H' := by
  obtain ⟨t, rfl⟩ := e.pre
  exact ⟨⟨[], by simp⟩, e.tup, fun a vs h g => ⟨h, (e.oth a vs h g).2⟩, e.fz, e.xd⟩
theorem Rel.shrink {K : PySem.W.Frag} {ρ t : List Addr} {S T : Sto} {H H' : Hp} (r0 : Rel K ρ S H) (r : Rel K (ρ ++ t) (S ++ T) H') : Rel K ρ S H' := by
  refine ⟨r0.len, r0.nd, fun n o a h1 h2 => ?_⟩
  have q := r.at_ n o a (by rw [List.getElem?_append_left (List.getElem?_eq_some_iff.mp h1).1]; exact h1) (by rw [List.getElem?_append_left (List.getElem?_eq_some_iff.mp h2).1]; exact h2)
  have q0 := r0.at_ n o a h1 h2
  cases o with
  | lst xs => obtain ⟨vs, a1, a2⟩ := q; obtain ⟨us, b1, b2⟩ := q0; exact ⟨vs, a1, DVs.shrink _ _ a2 (DVs.lbs _ _ b2)⟩
  | dic xs => obtain ⟨vs, a1, a2⟩ := q; obtain ⟨us, b1, b2⟩ := q0; exact ⟨vs, a1, KVR.shrink _ _ _ a2 b2⟩
  | set S n => exact q
  | ins c N fs => obtain ⟨dx, vs, a1, a2⟩ := q; obtain ⟨dy, us, b1, b2⟩ := q0; exact ⟨dx, vs, a1, DVs.shrink _ _ a2 (DVs.lbs _ _ b2)⟩
def lbE (n : Nat) (e : Exn) : Prop := match e.fs with
  | none => True
  | some fs => lbs n fs.2 = true
open Classical in
noncomputable def trim (S : Sto) : Out D → Out D
  | .ok d S' => if S'.take S.length = S ∧ lb S.length d = true then .ok d S else .ok d S'
  | .ex e S' => if S'.take S.length = S ∧ lbE S.length e then .ex e S else .ex e S'
  | .bad => .bad
theorem Post.trim {K : PySem.W.Frag} {ρ : List Addr} {S : Sto} {H : Hp} {Q : VK} {Z : XQ} {o : Out D} (r : Rel K ρ S H) (h : Post K (DV K) ρ H Q Z (PD.trim S o)) : Post K (DV K) ρ H Q Z o := by
  cases o with
  | bad => exact h
  | ok d S' =>
    simp only [PD.trim] at h
    split at h
    · rename_i c
      intro ρ1 H1 v r1 e1 d1
      obtain ⟨t, rfl⟩ := e1.pre
      have hs : S' = S ++ S'.drop S.length := by
        have := List.take_append_drop S.length S'
        rw [c.1] at this
        exact this.symm
      rw [hs] at r1
      exact h ρ H1 v (r.shrink r1) e1.shrink (DV.shrink _ _ d1 (by rw [r.len]; exact c.2))
    · exact h
  | ex e S' =>
    simp only [PD.trim] at h
    split at h
    · rename_i c
      intro ρ1 H1 cl dx r1 e1 d1
      obtain ⟨t, rfl⟩ := e1.pre
      have hs : S' = S ++ S'.drop S.length := by
        have := List.take_append_drop S.length S'
        rw [c.1] at this
        exact this.symm
      rw [hs] at r1
      refine h ρ H1 cl dx (r.shrink r1) e1.shrink ?_
      obtain ⟨x1, x2⟩ := d1
      refine ⟨x1, ?_⟩
      have c2 := c.2
      unfold lbE at c2
      cases q : e.fs with
      | none => rw [q] at x2; exact x2
      | some fs =>
        rw [q] at x2 c2
        obtain ⟨d, vs, a1, a2, a3⟩ := x2
        exact ⟨d, vs, a1, a2, DVs.shrink _ _ a3 (by rw [r.len]; exact c2)⟩
    · exact h
/-- a def that drops what it has laid for itself -/
noncomputable def runT (n : Nat) (b : MS) : MF := fun ds S => trim S (runB n b ds S)
theorem callF_trim {P : Program} {w : World} {K : PySem.W.Frag} {mg : Str → Option Value} {base : Heap} {k n : Nat} {x : Str} {m : MF} (c : CallF P w K mg base k x n m) : CallF P w K mg base k x n (fun ds S => trim S (m ds S)) := by
  obtain ⟨f, fd, ps, F, h1, h2, h3⟩ := c.ex
  have i : ∀ vs H Q E, spM K n (fun ds S => trim S (m ds S)) vs H Q E → spM K n m vs H Q E := fun vs H Q E ⟨ρ, S, ds, r, dv, hl, p⟩ => ⟨ρ, S, ds, r, dv, hl, Post.trim r p⟩
  exact ⟨f, fd, ps, F.imp i, h1, h2, h3⟩

/-! ### comprehensions -/
def wipeE (E : Evn) : List Nat → Evn
  | [] => E
  | v :: vs => (wipeE E vs).set v none
theorem ER.wipe {K : PySem.W.Frag} {W : WW K} {ρ : List Addr} {H : Hp} {E : Evn} {σ : L2.St} (hw : W.fix = none) (h : ER K W ρ H E σ) : ∀ vs : List Nat, ER K W ρ H (wipeE E vs) (L2.wipe σ vs)
  | [] => h
  | v :: vs => (h.wipe hw vs).unset hw v
/-- the names that a turn stores: one, or those of a tuple -/
def stN (one : Bool) (is : List Nat) (x : D) (E : Evn) : Option Evn := match one, is, x with
  | true, [i], x => some (E.set i (some x))
  | false, [i, j], .tup [a, b] => some ((E.set i (some a)).set j (some b))
  | false, [i, j, k], .tup [a, b, c] => some (((E.set i (some a)).set j (some b)).set k (some c))
  | _, _, _ => none
/-- the same over values -/
def gN1 (K : PySem.W.Frag) (one : Bool) (is : List Nat) : TG := match one, is with
  | true, [i] => gName i
  | false, [i, j] => gTup K 2 (gCons (gName i) (gCons (gName j) gNil))
  | false, [i, j, k] => gTup K 3 (gCons (gName i) (gCons (gName j) (gCons (gName k) gNil)))
  | _, _ => fun _ _ _ _ => False
theorem wipe_set {σ : L2.St} {i : Nat} {v : Option V} : ∀ {vs : List Nat}, i ∈ vs → L2.wipe (σ.set i v) vs = L2.wipe σ vs
  | [], h => by cases h
  | w :: vs, h => by
    unfold L2.wipe
    by_cases hv : i ∈ vs
    · rw [wipe_set hv]
    · have e : i = w := by simpa [hv] using h
      subst e
      have key : ∀ us : List Nat, i ∉ us → L2.wipe (σ.set i v) us = (L2.wipe σ us).set i v := fun us => by
        induction us with
        | nil => intro _; rfl
        | cons u us ih =>
          intro hu
          simp only [List.mem_cons, not_or] at hu
          unfold L2.wipe
          rw [ih hu.2, List.set_comm _ _ hu.1]
      rw [key vs hv, List.set_set]
theorem wipe_wipe {σ : L2.St} {vs : List Nat} : ∀ us : List Nat, (∀ i ∈ us, i ∈ vs) → L2.wipe (L2.wipe σ us) vs = L2.wipe σ vs
  | [], _ => rfl
  | u :: us, h => by
    show L2.wipe ((L2.wipe σ us).set u none) vs = _
    rw [wipe_set (h u (by simp)), wipe_wipe us fun i hi => h i (by simp [hi])]
theorem stN_ok {K : PySem.W.Frag} {W : WW K} {ρ : List Addr} {S : Sto} {H : Hp} {E E2 : Evn} {σ : L2.St} {one : Bool} {is vs : List Nat} {x : D} {v : V} {Q : L2.St → Hp → Prop} (hw : W.fix = none) (er : ER K W ρ H E σ) (dv : DV K ρ H x v) (hv : ∀ i ∈ is, i ∈ vs)
    (h : stN one is x E = some E2) (q : ∀ σ2, ER K W ρ H E2 σ2 → L2.wipe σ2 vs = L2.wipe σ vs → Q σ2 H) : gN1 K one is v σ H Q := by
  unfold stN at h
  split at h
  · cases h
    exact q _ (er.set hw _ dv) (wipe_set (hv _ (by simp)))
  · rename_i i j a b
    cases h
    obtain ⟨p, us, rfl, h1, h2⟩ := tup_ok dv
    obtain ⟨u1, u2, rfl, d1, d2⟩ := dvs2 h2
    refine ⟨p, _, rfl, h1, rfl, u1, [u2], rfl, u2, [], rfl, rfl, ?_⟩
    exact q _ ((er.set hw _ d1).set hw _ d2) (by rw [wipe_set (hv j (by simp)), wipe_set (hv i (by simp))])
  · rename_i i j k a b c
    cases h
    obtain ⟨p, us, rfl, h1, h2⟩ := tup_ok dv
    simp only [DVs] at h2
    obtain ⟨u1, r1, rfl, d1, u2, r2, rfl, d2, u3, r3, rfl, d3, rfl⟩ := h2
    refine ⟨p, _, rfl, h1, rfl, u1, _, rfl, u2, _, rfl, u3, [], rfl, rfl, ?_⟩
    exact q _ (((er.set hw _ d1).set hw _ d2).set hw _ d3) (by rw [wipe_set (hv k (by simp)), wipe_set (hv j (by simp)), wipe_set (hv i (by simp))])
  · cases h
open Classical in
/-- the turns of a comprehension: S0 the store, E0 the names ahead of a turn, acc what there is -/
noncomputable def compD (c : Option (Nat × List D)) (one : Bool) (is : List Nat) (t : MT) (e : ME) (E0 : Evn) (S0 : Sto) : List D → List D → Out (List D)
  | [], acc => if chkOk c (S0 ++ [.lst acc]) then .ok acc S0 else .bad
  | x :: r, acc => if chkOk c (S0 ++ [.lst acc]) then (match stN one is x E0 with
      | some E1 => (match t E1 (S0 ++ [.lst acc]) with
        | .ok b S1 => if S1 = S0 ++ [.lst acc] then (if b = true then (match e E1 (S0 ++ [.lst acc]) with
            | .ok y S2 => if S2 = S0 ++ [.lst acc] ∧ lb S0.length y = true ∧ sizeOk (acc.length + 1) then compD c one is t e E0 S0 r (acc ++ [y]) else .bad
            | _ => .bad) else compD c one is t e E0 S0 r acc) else .bad
        | _ => .bad)
      | none => .bad) else .bad
noncomputable def mComp (it : MI) (one : Bool) (is vs : List Nat) (t : MT) (e : ME) : ME := fun E S => (it E S).bind fun i S1 => (compD i.chk one is t e (wipeE E vs) S1 i.items []).bind fun xs S2 => .ok (.lst xs) S2
def mYes : MT := fun _ S => .ok true S
abbrev W0 (K : PySem.W.Frag) : WW K := WW.of (K := K) fun _ _ _ _ => False
def PD' (X : Cx) (ifs : List Expr) (m : MT) : Prop := PTs X ifs (tT X.K (W0 X.K) m)
theorem PTs.imp {ifs : List Expr} {t t' : TT} (h : PTs X ifs t) (i : ∀ σ H Q, t' σ H Q → t σ H Q) : PTs X ifs t' := ⟨fun pins s σ H Q I q => h.run pins s σ H Q I (i _ _ _ q)⟩
theorem pd_nil : PD' X [] mYes := PTs.imp pts_nil fun σ H Q ⟨ρ, S, E, r, er, p⟩ => p ρ H true r Ext.refl rfl
theorem pd_one {c : Expr} {m : MT} (h : TD X (W0 X.K) c m) : PD' X [c] m := pts_one h
theorem comp_read {mi : MI} {own : List (Str × Nat)} {one : Bool} {is : List Nat} {mt : MT} {me : ME} (hw : W.fix = none) (hv : ∀ i ∈ is, i ∈ own.map (·.2)) : ∀ σ H Q ρ S E, Rel X.K ρ S H → ER X.K W ρ H E σ → Post X.K (DV X.K) ρ H Q (fun c dx H' => W.w c dx σ H') (mComp mi one is (own.map (·.2)) mt me E S) →
    tLc (tI X.K W mi) (gN1 X.K one is) (tT X.K (W0 X.K) mt) (tE X.K (W0 X.K) me) (own.map (·.2)) σ H Q := by
  intro σ H Q ρ S E r er p
  refine ⟨ρ, S, E, r, er, (Post.bind (R := Walks X.K) p).imp fun J H1 ⟨ρ1, S1, i, r1, e1, w1, p1⟩ => ?_⟩
  intro D hD
  have er1 := (er.mono e1).wipe hw (own.map (·.2))
  have er0 : ER X.K (W0 X.K) ρ1 H1 (wipeE E (own.map (·.2))) (L2.wipe σ (own.map (·.2))) := er1.wish trivial fun i a z => by cases z
  generalize wipeE E (own.map (·.2)) = E0 at p1 er0
  have hn : D ∉ ρ1 := r1.notin hD
  refine ⟨fun n m H2 => m = i.items.length - n ∧ n ≤ i.items.length ∧ ∃ acc us, Rel X.K (ρ1 ++ [D]) (S1 ++ [.lst acc]) H2 ∧ Ext X.K ρ1 H1 (ρ1 ++ [D]) H2 ∧ H2 D = some (.lst us) ∧ DVs X.K (ρ1 ++ [D]) H2 acc us ∧ lbs S1.length acc = true ∧
    Post X.K (DV X.K) ρ1 H1 Q (fun c dx H' => W.w c dx σ H') ((compD i.chk one is mt me E0 S1 (i.items.drop n) acc).bind fun xs S2 => .ok (.lst xs) S2),
    ⟨_, rfl, Nat.zero_le _, [], [], r1.alloc (u := .lst []) hD ⟨[], upd_same, by simp [DVs]⟩, Ext.alloc hD, upd_same, by simp [DVs], rfl, by simpa using p1⟩, ?_⟩
  rintro n m H2 ⟨rfl, hnl, acc, us, r2, e2, hHD, dacc, bacc, p2⟩
  have hck : chkOk i.chk (S1 ++ [.lst acc]) := Classical.byContradiction fun z => by
    cases q : i.items.drop n with
    | nil => rw [q, compD, if_neg z] at p2; exact p2
    | cons x rr => rw [q, compD, if_neg z] at p2; exact p2
  obtain ⟨w2, w3⟩ := w1 (ρ1 ++ [D]) (S1 ++ [.lst acc]) H2 r2 e2 hck
  have hDat : (ρ1 ++ [D])[S1.length]? = some D := by rw [← r1.len, List.getElem?_append_right (Nat.le_refl _), Nat.sub_self]; rfl
  have hSat : (S1 ++ [Ob.lst acc])[S1.length]? = some (.lst acc) := by rw [List.getElem?_append_right (Nat.le_refl _), Nat.sub_self]; rfl
  have same : ∀ {ρ' : List Addr} {H' : Hp}, Rel X.K ρ' (S1 ++ [.lst acc]) H' → (∃ t, ρ' = (ρ1 ++ [D]) ++ t) → ρ' = ρ1 ++ [D] := fun r' ⟨t, ht⟩ => by
    have h1 := r'.len
    have h2 := r2.len
    rw [ht, List.length_append, h2] at h1
    have : t = [] := List.length_eq_zero_iff.mp (by omega)
    rw [ht, this, List.append_nil]
  by_cases hlt : n < i.items.length
  · right
    have hd : i.items[n]? = some i.items[n] := List.getElem?_eq_getElem hlt
    obtain ⟨go, yl⟩ := w2 n _ hd
    refine ⟨go, fun H' => n + 1 ≤ i.items.length ∧ ∃ acc us, Rel X.K (ρ1 ++ [D]) (S1 ++ [.lst acc]) H' ∧ Ext X.K ρ1 H1 (ρ1 ++ [D]) H' ∧ H' D = some (.lst us) ∧ DVs X.K (ρ1 ++ [D]) H' acc us ∧ lbs S1.length acc = true ∧
      Post X.K (DV X.K) ρ1 H1 Q (fun c dx H' => W.w c dx σ H') ((compD i.chk one is mt me E0 S1 (i.items.drop (n + 1)) acc).bind fun xs S2 => .ok (.lst xs) S2),
      fun H' ⟨h1, h2⟩ => ⟨i.items.length - (n + 1), by omega, rfl, h1, h2⟩, fun x H3 hy => ?_⟩
    obtain ⟨r3, e3, d3⟩ := yl x H3 hy
    rw [drop_cons_of hd, compD, if_pos hck] at p2
    cases q : stN one is i.items[n] E0 with
    | none => rw [q] at p2; exact p2.elim
    | some E1 =>
      rw [q] at p2
      simp only at p2
      have er3 : ER X.K (W0 X.K) (ρ1 ++ [D]) H3 E0 (L2.wipe σ (own.map (·.2))) := er0.mono (e2.trans e3)
      refine stN_ok (S := S1) rfl er3 d3 hv q fun σ2 er4 hw2 => ⟨hw2.trans (wipe_wipe _ fun _ h => h), ?_⟩
      refine ⟨ρ1 ++ [D], S1 ++ [.lst acc], E1, r3, er4, ?_⟩
      cases q1 : mt E1 (S1 ++ [.lst acc]) with
      | bad => rw [q1] at p2; exact p2.elim
      | ex e S5 => rw [q1] at p2; exact p2.elim
      | ok b S5 =>
        rw [q1] at p2
        simp only at p2
        by_cases hS5 : S5 = S1 ++ [.lst acc]
        · rw [if_pos hS5] at p2
          subst hS5
          intro ρ5 H5 v r5 e5 hv5
          subst hv5
          have hρ5 := same r5 e5.pre
          subst hρ5
          cases b with
          | false =>
            rw [if_neg (by simp)] at p2 ⊢
            have hh : ∃ us, H5 D = some (.lst us) ∧ DVs X.K (ρ1 ++ [D]) H5 acc us := r5.lst hSat hDat
            obtain ⟨us5, h51, h52⟩ := hh
            exact ⟨hlt, acc, us5, r5, (e2.trans e3).trans e5, h51, h52, bacc, p2⟩
          | true =>
            rw [if_pos rfl] at p2 ⊢
            refine ⟨ρ1 ++ [D], S1 ++ [.lst acc], E1, r5, er4.mono e5, ?_⟩
            cases q2 : me E1 (S1 ++ [.lst acc]) with
            | bad => rw [q2] at p2; exact p2.elim
            | ex e S6 => rw [q2] at p2; exact p2.elim
            | ok y S6 =>
              rw [q2] at p2
              simp only at p2
              by_cases hS6 : S6 = S1 ++ [.lst acc] ∧ lb S1.length y = true ∧ sizeOk (acc.length + 1)
              · rw [if_pos hS6] at p2
                obtain ⟨h6, h7, h8⟩ := hS6
                subst h6
                intro ρ6 H6 w r6 e6 d6
                have hρ6 := same r6 e6.pre
                subst hρ6
                obtain ⟨us6, h61, h62⟩ := r6.lst hSat hDat
                refine ⟨us6, h61, by rw [← h62.length]; exact h8, hlt, acc ++ [y], us6 ++ [w], ?_, ?_, upd_same, ?_, ?_, p2⟩
                · have := r6.write hDat hSat h61 (h62.append (DVs.one d6))
                  rw [List.set_append_right _ _ (Nat.le_refl _), Nat.sub_self] at this
                  exact this
                · exact (((e2.trans e3).trans e5).trans e6).trans (Ext.write (by simp) h61)
                · exact DVs.mono (Ext.write (by simp) h61) _ _ (h62.append (DVs.one d6))
                · have key : ∀ l : List PD.D, lbs S1.length l = true → lbs S1.length (l ++ [y]) = true := fun l => by
                    induction l with
                    | nil => intro _; simp [lbs, h7]
                    | cons a l ih => intro h; simp only [List.cons_append, lbs, Bool.and_eq_true] at h ⊢; exact ⟨h.1, ih h.2⟩
                  exact key acc bacc
              · rw [if_neg hS6] at p2; exact p2.elim
        · rw [if_neg hS5] at p2; exact p2.elim
  · left
    have hn2 : n = i.items.length := by omega
    subst hn2
    rw [List.drop_length, compD, if_pos hck, bind_ok] at p2
    refine ⟨w3, p2 ρ1 H2 (.ref D) (r1.shrink r2) e2.shrink ?_⟩
    simp only [DV]
    exact ⟨D, us, rfl, ⟨hn, hHD⟩, DVs.shrink _ _ dacc (by rw [r1.len]; exact bacc)⟩
theorem ed_comp {elt tg iter : Expr} {ifs : List Expr} {scope : Scope} {own : List (Str × Nat)} {mi : MI} {one : Bool} {is : List Nat} {mt : MT} {me : ME} (hc : X.calm = true) (hN : X.N.Nodup) (hi : ID X W tg iter mi) (ok : BlkOk X.N X.env.scope scope own) (hw : W.fix = none)
    (hv : ∀ i ∈ is, i ∈ own.map (·.2))
    (hg : ∀ (s : Shared) (H : Hp) (C : Addr) (cl : List (Str × Addr)) (fp : List Addr), PG (X.blk s H scope (compEnvC scope cl C X.env) fp) tg (gN1 X.K one is))
    (ht : ∀ (s : Shared) (H : Hp) (C : Addr) (cl : List (Str × Addr)) (fp : List Addr), PD' (X.blk s H scope (compEnvC scope cl C X.env) fp) ifs mt)
    (he : ∀ (s : Shared) (H : Hp) (C : Addr) (cl : List (Str × Addr)) (fp : List Addr), ED (X.blk s H scope (compEnvC scope cl C X.env) fp) (W0 X.K) elt me) (hs : ∀ x, foldedSetIterable iter X.env x = pure x := by intro _; rfl) :
    ED X W (.ListComp elt [⟨tg, iter, ifs, 0⟩] scope pos) (mComp mi one is (own.map (·.2)) mt me) := by
  exact ed_of (pe_lc (tt := tT X.K (W0 X.K) mt) (te := tE X.K (W0 X.K) me) hc hN hi ok hg ht he hs) (comp_read hw hv)
/-- name = [..] on one line -/
theorem sd_setLc {i : Nat} {y : Str} {py spos : Pos} {elt tg iter : Expr} {ifs : List Expr} {scope : Scope} {own : List (Str × Nat)} {mi : MI} {one : Bool} {is : List Nat} {mt : MT} {me : ME} (hc : X.calm = true) (hN : X.N.Nodup) (hy : X.N[i]? = some y) (hyl : X.env.scope.names.lookup y = some .local)
    (hi : ID X W tg iter mi) (ok : BlkOk X.N X.env.scope scope own) (hw : W.fix = none) (hv : ∀ i ∈ is, i ∈ own.map (·.2))
    (hg : ∀ (s : Shared) (H : Hp) (C : Addr) (cl : List (Str × Addr)) (fp : List Addr), PG (X.blk s H scope (compEnvC scope cl C X.env) fp) tg (gN1 X.K one is))
    (ht : ∀ (s : Shared) (H : Hp) (C : Addr) (cl : List (Str × Addr)) (fp : List Addr), PD' (X.blk s H scope (compEnvC scope cl C X.env) fp) ifs mt)
    (he : ∀ (s : Shared) (H : Hp) (C : Addr) (cl : List (Str × Addr)) (fp : List Addr), ED (X.blk s H scope (compEnvC scope cl C X.env) fp) (W0 X.K) elt me)
    (hsw : swapsWith (.ListComp elt [⟨tg, iter, ifs, 0⟩] scope pos) (some (.Name y py)) spos.line X.env = pure true := by rfl) (hs : ∀ x, foldedSetIterable iter X.env x = pure x := by intro _; rfl) :
    SD X W (.Assign [.Name y py] (.ListComp elt [⟨tg, iter, ifs, 0⟩] scope pos) spos) (mSet i (mComp mi one is (own.map (·.2)) mt me)) := by
  refine sd_of (ps_setLc (tt := tT X.K (W0 X.K) mt) (te := tE X.K (W0 X.K) me) hc hN hy hyl hsw hi ok hg ht he hs) fun D σ H ρ S E r er p => ?_
  exact comp_read hw hv σ H _ ρ S E r er ((SPost.bind (R := DV X.K) er p).imp fun x H1 ⟨ρ1, S1, d, r1, e1, d1, p1⟩ => p1 ρ1 H1 _ r1 Ext.refl ((er.mono e1).set hw i d1))
end
end PD

/-! PyE1: to reckon with the meanings of PyD8, PyD9, PyE0. -/
namespace PD
open PySem PySem.Spec PyProof PyProof.Rows L2
section
variable {E : Evn} {S : Sto}
theorem a_sm {g : Sto → Tx → List D → Option D} {o : ME} {a : MA} : mSM g o a E S = (o E S).bind fun x S1 => (match x with
  | .str z => (a E S1).bind fun xs S2 => (match g S2 z xs with
    | some d => .ok d S2
    | none => .bad)
  | _ => .bad) := rfl
theorem a_lm {g : GL} {o : ME} {a : MA} : mLM g o a E S = (o E S).bind fun x S1 => (match x with
  | .loc n => (match S1[n]? with
    | some (.lst _) => (a E S1).bind fun xs S2 => (match S2[n]? with
      | some (.lst l) => (match g S2 l xs with
        | some (d, l2) => .ok d (S2.set n (.lst l2))
        | none => .bad)
      | _ => .bad)
    | _ => .bad)
  | _ => .bad) := rfl
theorem a_iany {a : ME} : iAny a E S = (a E S).bind fun d S1 => (match d with
  | .str z => .ok ⟨z.map fun c => .str [c], none⟩ S1
  | d => iSeq (mC d) E S1) := rfl
theorem a_comp {it : MI} {one : Bool} {is vs : List Nat} {t : MT} {e : ME} : mComp it one is vs t e E S = (it E S).bind fun i S1 => (compD i.chk one is t e (wipeE E vs) S1 i.items []).bind fun xs S2 => .ok (.lst xs) S2 := rfl
theorem a_yes : mYes E S = .ok true S := rfl
theorem g_mulAI {i j : Int} : gMulA S (.int i) (.int j) = gMul S (.int i) (.int j) := rfl
theorem g_mulAS {z : Tx} {k : Int} (h : repOk z.length k) : gMulA S (.str z) (.int k) = some (.str (List.replicate k.toNat z).flatten) := by
  simp only [gMulA, if_pos h]
theorem g_slS {z : Tx} {lo hi : Option Int} (h : sizeOk z.length) : gSl S (.str z) lo hi = some (.str (cutL z lo hi)) := by simp only [gSl, if_pos h]
theorem g_slT {z : List D} {lo hi : Option Int} : gSl S (.tup z) lo hi = some (.tup (cutL z lo hi)) := rfl
theorem g_slL {z : List D} {lo hi : Option Int} : gSl S (.lst z) lo hi = some (.lst (cutL z lo hi)) := rfl
theorem g_slF {z : List D} {lo hi : Option Int} : gSl S (.fz z) lo hi = some (.lst (cutL z lo hi)) := rfl
theorem g_revL {z : List D} : gRev S (.lst z) = some (.lst z.reverse) := rfl
theorem g_revF {z : List D} : gRev S (.fz z) = some (.lst z.reverse) := rfl
theorem g_starts {z p : Tx} : gStarts S z [.str p] = some (.bl (decide (z.take p.length = p))) := rfl
theorem g_ends {z p : Tx} : gEnds S z [.str p] = some (.bl (decide (p.length ≤ z.length ∧ z.drop (z.length - p.length) = p))) := rfl
theorem g_split {z p : Tx} (h1 : p ≠ [] ∧ p.all (· < 256) = true ∧ sizeOk (z.length + 2)) : gSplit S z [.str p] = some (.lst ((TL.spl p 0 [] z).map D.str)) := by simp only [gSplit, if_pos h1]
theorem g_joinM {z : Tx} {ys : List Tx} (h : joinOk z ys) : gJoin S z [.lst (ys.map D.str)] = some (.str (TL.joinL z ys)) := by
  unfold gJoin
  simp only [rowF, seqF, Option.bind_some, strs_map, if_pos h]
theorem g_join {z : Tx} {xs : List D} {ys : List Tx} (e : strL xs = some ys) (h : joinOk z ys) : gJoin S z [.lst xs] = some (.str (TL.joinL z ys)) := by
  unfold gJoin
  simp only [rowF, seqF, Option.bind_some, e, if_pos h]
theorem g_zfill {z : Tx} {i : Int} (h : padOk i) : gZfill S z [.int i] = some (.str (zfillD z i)) := by simp only [gZfill, if_pos h]
theorem g_str {i : Int} (h : strOkI i) : gStr S [.int i] = some (.str (numT i)) := by simp only [gStr, if_pos h]
theorem g_intAI {i : Int} : gIntA S [.int i] = some (.int i) := rfl
theorem g_intAB {i : Bool} : gIntA S [.bl i] = some (.int (if i then 1 else 0)) := rfl
theorem g_intAS {z : Tx} (h : digT z) : gIntA S [.str z] = some (.int (NumText.digitsVal z : Nat)) := by simp only [gIntA, if_pos h]
theorem g_ord {c : Nat} : gOrd S [.str [c]] = some (.int c) := rfl
theorem g_chr {i : Int} (h : 0 ≤ i ∧ i ≤ 1114111) : gChr S [.int i] = some (.str [i.toNat]) := by simp only [gChr, if_pos h]
theorem g_inC {c : Nat} {z : Tx} : gIn S (.str [c]) (.str z) = some (.bl (decide (c ∈ z))) := rfl
theorem g_notInC {c : Nat} {z : Tx} : gNotIn S (.str [c]) (.str z) = some (.bl (!decide (c ∈ z))) := rfl
theorem g_inT {x : D} {ys : List D} (h : flD x = true) (h2 : ys.all flD = true) : gIn S x (.tup ys) = some (.bl (ys.any fun y => teq y x)) := by
  unfold gIn inB2
  split
  · rename_i e; cases e
  · rename_i ys e; cases e; rw [if_pos ⟨h, h2⟩]; rfl
  · rename_i e _; exact absurd rfl (e _)
theorem g_notInT {x : D} {ys : List D} (h : flD x = true) (h2 : ys.all flD = true) : gNotIn S x (.tup ys) = some (.bl (!ys.any fun y => teq y x)) := by
  unfold gNotIn inB2
  split
  · rename_i e; cases e
  · rename_i ys e; cases e; rw [if_pos ⟨h, h2⟩]; rfl
  · rename_i e _; exact absurd rfl (e _)
theorem in_seq {x y : D} {ys : List D} (hy : seqF S y = some ys) (h : flD x = true) (h2 : ys.all flD = true) : inB2 S x y = some (ys.any fun y => teq y x) := by
  unfold inB2
  split
  · cases hy
  · cases hy
  · rw [hy]; simp only; rw [if_pos ⟨h, h2⟩]
theorem in_deep {x y : D} {ys : List D} (hy : seqF S y = some ys) (hx : flD x = false) (h : okd (flat S x) 64 = true) (h2 : okds ys 63 = true) : inB2 S x y = some (ys.any fun y => teq y (flat S x)) := by
  unfold inB2
  split
  · cases hy
  · cases hy
  · rw [hy]; simp only; rw [if_neg (by simp [hx]), if_pos ⟨h, h2⟩]
theorem g_in {x y : D} {b : Bool} (h : inB2 S x y = some b) : gIn S x y = some (.bl b) := by unfold gIn; rw [h]; rfl
theorem g_notIn {x y : D} {b : Bool} (h : inB2 S x y = some b) : gNotIn S x y = some (.bl (!b)) := by unfold gNotIn; rw [h]; rfl
theorem g_allM {bs : List Bool} : gAll S [.lst (bs.map D.bl)] = some (.bl (bs.all id)) := by unfold gAll; simp only [seqF, Option.bind_some, bools_map, Option.map_some]
theorem g_anyM {bs : List Bool} : gAny S [.lst (bs.map D.bl)] = some (.bl (bs.any id)) := by unfold gAny; simp only [seqF, Option.bind_some, bools_map, Option.map_some]
theorem g_append {l : List D} {d : D} (h : sizeOk (l.length + 1)) : gAppend S l [d] = some (.non, l ++ [d]) := by simp only [gAppend, if_pos h]
theorem g_pop {l : List D} {d : D} : gPop S (l ++ [d]) [] = some (d, l) := by unfold gPop; simp
/-- a comprehension whose turns leave the store alone: each gives f x where the test says so -/
theorem compD_map {one : Bool} {is : List Nat} {t : MT} {e : ME} {E0 : Evn} {S0 : Sto} (p : D → Bool) (f : D → D) : ∀ (l : List D) (acc : List D), sizeOk (acc.length + l.length) →
    (∀ x ∈ l, ∀ acc, ∃ E1, stN one is x E0 = some E1 ∧ t E1 (S0 ++ [.lst acc]) = .ok (p x) (S0 ++ [.lst acc]) ∧ (p x = true → e E1 (S0 ++ [.lst acc]) = .ok (f x) (S0 ++ [.lst acc]) ∧ lb S0.length (f x) = true)) →
    compD none one is t e E0 S0 l acc = .ok (acc ++ (l.filter p).map f) S0
  | [], acc, _, _ => by rw [compD, if_pos (show chkOk none _ from trivial)]; simp
  | x :: l, acc, hz, h => by
    obtain ⟨E1, h1, h2, h3⟩ := h x List.mem_cons_self acc
    rw [compD, if_pos (show chkOk none _ from trivial), h1]
    simp only
    rw [h2]
    simp only
    rw [if_pos trivial]
    cases hp : p x with
    | false =>
      rw [if_neg (by simp), compD_map p f l acc (by unfold sizeOk at *; simp only [List.length_cons] at hz; omega) fun y hy => h y (List.mem_cons_of_mem _ hy)]
      simp [List.filter_cons, hp]
    | true =>
      obtain ⟨h4, h5⟩ := h3 hp
      rw [if_pos rfl, h4]
      simp only
      rw [if_pos ⟨rfl, h5, by unfold sizeOk at *; simp only [List.length_cons] at hz; omega⟩, compD_map p f l _ (by unfold sizeOk at *; simp only [List.length_cons, List.length_append, List.length_nil] at hz ⊢; omega) fun y hy => h y (List.mem_cons_of_mem _ hy)]
      simp [List.filter_cons, hp]
/-- without a test -/
theorem compD_all {one : Bool} {is : List Nat} {e : ME} {E0 : Evn} {S0 : Sto} (f : D → D) (l : List D) (hz : sizeOk l.length)
    (h : ∀ x ∈ l, ∀ acc, ∃ E1, stN one is x E0 = some E1 ∧ e E1 (S0 ++ [.lst acc]) = .ok (f x) (S0 ++ [.lst acc]) ∧ lb S0.length (f x) = true) :
    compD none one is mYes e E0 S0 l [] = .ok (l.map f) S0 := by
  have := compD_map (one := one) (is := is) (t := mYes) (e := e) (E0 := E0) (S0 := S0) (fun _ => true) f l [] (by simpa using hz) fun x hx acc => by
    obtain ⟨E1, h1, h2, h3⟩ := h x hx acc
    exact ⟨E1, h1, rfl, fun _ => ⟨h2, h3⟩⟩
  rw [List.filter_eq_self.mpr (fun _ _ => rfl), List.nil_append] at this
  exact this
/-- a def that drops what it has laid -/
theorem trim_ok {d : D} {T : Sto} (h : lb S.length d = true) : trim S (.ok d (S ++ T)) = .ok d S := by
  unfold trim
  simp only
  rw [if_pos ⟨by simp, h⟩]
theorem trim_same {d : D} : trim S (.ok d S) = .ok d S := by
  unfold trim
  simp only
  split <;> rfl
theorem trim_exN {c : Cl} {T : Sto} : trim S (.ex ⟨c, none⟩ (S ++ T)) = .ex ⟨c, none⟩ S := by
  unfold trim
  simp only
  rw [if_pos ⟨by simp, trivial⟩]
theorem a_runT {n : Nat} {b : MS} {ds : List D} : runT n b ds S = trim S (runB n b ds S) := rfl
/-- the new list at the end of the store -/
theorem sto_last {x : Ob} : (S ++ [x])[S.length]? = some x := by rw [List.getElem?_append_right (Nat.le_refl _), Nat.sub_self]; rfl
theorem sto_set {x y : Ob} : (S ++ [x]).set S.length y = S ++ [y] := by rw [List.set_append_right _ _ (Nat.le_refl _), Nat.sub_self]; rfl
theorem g_joinLoc {z : Tx} {n : Nat} {xs : List D} {ys : List Tx} (hs : S[n]? = some (.lst xs)) (e : strL xs = some ys) (h : joinOk z ys) : gJoin S z [.loc n] = some (.str (TL.joinL z ys)) := by
  unfold gJoin
  simp only [rowF, seqF, hs, Option.bind_some, e, if_pos h]
theorem g_revLoc {n : Nat} {xs : List D} (hs : S[n]? = some (.lst xs)) : gRev S (.loc n) = some (.lst xs.reverse) := by
  unfold gRev
  simp only [seqF, hs, Option.map_some]
theorem g_lenLoc {n : Nat} {xs : List D} (hs : S[n]? = some (.lst xs)) : gLen S [.loc n] = some (.int xs.length) := by
  unfold gLen
  simp only [seqF, hs, Option.map_some]
end
end PD

/-! PyE2: calls without arguments; list, tuple of a row; o[i] = .. -/
namespace PD
open PySem PySem.Spec PyProof PyProof.Rows L2
section
variable {X : Cx} {W : WW X.K} {pos : Pos}
theorem room65 {k : Nat} {A : Around} (r : Room k A) : A.units + 65 < cLine := by have := r.un; omega
theorem pe_callSD0 {CX : CXT} {k : Nat} {f : Addr} {fd : FuncData} {ps : List Str} {sp : Sp} {dvs : List V} {ds : List Value} {E : L2.St → XK} {x : Str} {p : Pos} (F : FnOk X.prog X.w X.K X.mg X.base CX k f fd ps sp) (hr : Room k X.A) (hg : Gl X x) (hm : X.mg x = some (.ref f)) (hk : PySem.W.keepIn X.K (.ref f) = true) (hb : Binds X.K fd ps ds) (hd : Vals dvs ds) (hx : ∀ σ, PassesAt CX X σ (E σ))
    (hdb : (x == ("__debug__" : Str)) = false := by decide) : PE X (.Call (.Name x p) [] [] pos) (tCallSD sp dvs E tNil) := by
  refine ⟨fun pins s σ H Q I h => ?_⟩
  refine wpAny_Call_Name_kw (ld_glob I hg hm ?_ hdb)
  exact PySem.W.callWith_K0 I.kIn hk (run_fnSD (us := []) F hr hb hd (hx σ) I .nil h)
theorem ed_call0 {x : Str} {k : Nat} {m : MF} {p : Pos} (c : CallF X.prog X.w X.K X.mg X.base k x 0 m) (hr : Room k X.A) (tk : Takes X W.w) (hg : Gl X x) (hdb : (x == ("__debug__" : Str)) = false := by decide) :
    ED X W (.Call (.Name x p) [] [] pos) (mCall m mNil) := by
  obtain ⟨f, fd, ps, F, hm, hk, hb⟩ := c.ex
  refine ed_of (pe_callSD0 (E := fun σ c dx H => W.w c dx σ H) F hr hg hm hk hb .nil (fun σ => passAt tk σ) hdb) fun σ H Q ρ S E r er p => ?_
  exact ⟨ρ, S, [], r, by simp [DVs], rfl, p⟩
/-- list of a row, tuple of a row -/
def gList (S : Sto) (ds : List D) : Option D := match ds with
  | [d] => (rowF S d).map D.lst
  | _ => none
theorem rp_list : ∀ vs H Q, rPB X.K gList vs H Q → (∃ p ys, vs = [V.ref p] ∧ (SqL X.K H p ys ∨ SqT X.K H p ys) ∧ ∀ l, H l = none → Q (.ref l) (upd H l (.lst ys))) := by
  rintro vs H Q ⟨ρ, S, ds, d, r, dv, hg, q⟩
  unfold gList at hg
  split at hg
  · rename_i x
    rw [Option.map_eq_some_iff] at hg
    obtain ⟨xs, e, rfl⟩ := hg
    obtain ⟨u, rfl, h1⟩ := dvs1 dv
    obtain ⟨a, us, rfl, h2, h3⟩ := rowF_ok r h1 e
    exact ⟨a, us, rfl, h2, fun l hl => post_lst r hl h3 q⟩
  · cases hg
def gTuple (S : Sto) (ds : List D) : Option D := match ds with
  | [d] => (rowF S d).map D.tup
  | _ => none
theorem rp_tuple : ∀ vs H Q, rPB X.K gTuple vs H Q → (∃ p ys, vs = [V.ref p] ∧ ((SqL X.K H p ys ∧ ∀ l, H l = none → Q (.ref l) (upd H l (.tup ys))) ∨ (SqT X.K H p ys ∧ Q (.ref p) H))) := by
  rintro vs H Q ⟨ρ, S, ds, d, r, dv, hg, q⟩
  unfold gTuple at hg
  split at hg
  · rename_i x
    rw [Option.map_eq_some_iff] at hg
    obtain ⟨xs, e, rfl⟩ := hg
    obtain ⟨u, rfl, h1⟩ := dvs1 dv
    unfold rowF at e
    split at e
    · cases e
      obtain ⟨a, us, rfl, h2, h3⟩ := tup_ok h1
      exact ⟨a, us, rfl, .inr ⟨h2, q ρ H _ r Ext.refl h1⟩⟩
    · obtain ⟨a, us, rfl, h2, h3⟩ := seqF_ok r h1 e
      exact ⟨a, us, rfl, .inl ⟨h2, fun l hl => post_tup r hl h3 q⟩⟩
  · cases hg
/-- the place of an item -/
def ixD (n : Nat) (i : Int) : Option Nat := if 0 ≤ i then (if i.toNat < n then some i.toNat else none) else if -(n : Int) ≤ i then some (i + n).toNat else none
theorem ixD_ixN {n : Nat} {i : Int} {j : Nat} (h : ixD n i = some j) : ixN n i = some j := by
  unfold ixD at h
  unfold ixN
  by_cases h0 : 0 ≤ i
  · rw [if_pos h0] at h ⊢
    by_cases h1 : i.toNat < n
    · rw [if_pos h1] at h; rw [if_pos (by omega)]; exact h
    · rw [if_neg h1] at h; cases h
  · rw [if_neg h0] at h ⊢; exact h
/-- o[i] = d, o a list of the store -/
def gI (o i : ME) : MG := fun d E S => (o E S).bind fun x S1 => (i E S1).bind fun k S2 => match x, k with
  | .loc n, .int k => (match S2[n]? with
    | some (.lst l) => (match ixD l.length k with
      | some j => .ok E (S2.set n (.lst (l.set j d)))
      | none => .bad)
    | _ => .bad)
  | _, _ => .bad
theorem gd_sub {o i : Expr} {mo mi : ME} (ho : ED X W o mo) (hi : ED X W i mi)
    (ha : ∀ v, assign (.Subscript o i pos) X.env v = (do
      let ov ← holding [v] (eval o X.env)
      let iv ← holding [v, ov] (eval i X.env)
      standAt pos
      holding [v, ov, iv] (setItem ov iv v)
      release [v, ov, iv] []) := by intro _; rfl) : GD X W (.Subscript o i pos) (gI mo mi) := by
  refine PG.imp (pg_sub ho hi set_list ha) fun v σ H Q ⟨ρ, S, E, d, r, er, dv, p⟩ => ?_
  refine ⟨ρ, S, E, r, er, (Post.bind (R := DV X.K) p).imp fun x H1 ⟨ρ1, S1, dx, r1, e1, d1, p1⟩ => ?_⟩
  refine ⟨ρ1, S1, E, r1, er.mono e1, (Post.bind (R := DV X.K) p1).imp fun k H2 ⟨ρ2, S2, dk, r2, e2, d2, p2⟩ => ?_⟩
  have d1' := DV.mono e2 _ _ d1
  have dv' := DV.mono (e1.trans e2) _ _ dv
  cases dx with
  | loc n =>
    cases dk with
    | int k =>
      rw [dv_int] at d2; subst d2
      simp only at p2
      cases hs : S2[n]? with
      | none => rw [hs] at p2; exact p2.elim
      | some ob =>
        cases ob with
        | lst l =>
          rw [hs] at p2
          simp only at p2
          cases hj : ixD l.length k with
          | none => rw [hj] at p2; exact p2.elim
          | some j =>
            rw [hj] at p2
            simp only [DV] at d1'
            obtain ⟨a, rfl, ha⟩ := d1'
            obtain ⟨us, h1, h2⟩ := r2.lst hs ha
            have w := Ext.write (K := X.K) (us := us.set j v) (List.mem_of_getElem? ha) h1
            exact ⟨a, us, k, j, rfl, rfl, h1, by rw [← h2.length]; exact ixD_ixN hj, p2 ρ2 _ _ (r2.write ha hs h1 (DVs.set dv' j h2)) w ((er.mono (e1.trans e2)).mono w)⟩
        | _ => rw [hs] at p2; exact p2.elim
    | _ => exact p2.elim
  | _ => exact p2.elim
theorem a_gI {o i : ME} {d : D} {E : Evn} {S : Sto} : gI o i d E S = (o E S).bind fun x S1 => (i E S1).bind fun k S2 => (match x, k with
  | .loc n, .int k => (match S2[n]? with
    | some (.lst l) => (match ixD l.length k with
      | some j => .ok E (S2.set n (.lst (l.set j d)))
      | none => .bad)
    | _ => .bad)
  | _, _ => .bad) := rfl
theorem g_listL {S : Sto} {xs : List D} : gList S [.lst xs] = some (.lst xs) := rfl
theorem g_listF {S : Sto} {xs : List D} : gList S [.fz xs] = some (.lst xs) := rfl
theorem g_listT {S : Sto} {xs : List D} : gList S [.tup xs] = some (.lst xs) := rfl
theorem g_tupL {S : Sto} {xs : List D} : gTuple S [.lst xs] = some (.tup xs) := rfl
theorem g_tupF {S : Sto} {xs : List D} : gTuple S [.fz xs] = some (.tup xs) := rfl
theorem g_tupT {S : Sto} {xs : List D} : gTuple S [.tup xs] = some (.tup xs) := rfl
end
end PD

/-! PyE3: constants of any form in the written part; range with a pace. -/
namespace PD
open PySem PySem.Spec PyProof PyProof.Rows L2
mutual
def datC (K : PySem.W.Frag) : D → Value → Bool
  | .non, v => match v with | .none => true | _ => false
  | .bl b, v => match v with | .bool c => c == b | _ => false
  | .int i, v => match v with | .int j _ => decide (j = i) | _ => false
  | .str x, v => match v with | .str y _ => decide (y = ⟨x.toArray⟩) | _ => false
  | .tup xs, v => match v with
    | .ref a => (match K.lookup a with
      | some o => decide (o.cls = .type "tuple") && (match o.data with | .seq its n => decide (its.size ≤ sizeLine) && datCs K xs its.toList | _ => false)
      | none => false)
    | _ => false
  | .fz xs, v => match v with
    | .ref a => (match K.lookup a with
      | some o => decide (o.cls = .type "list") && (o.dict.isNone && (match o.data with | .seq its n => decide (its.size ≤ sizeLine) && datCs K xs its.toList | _ => false))
      | none => false)
    | _ => false
  | .lst _, _ => false
  | .loc _, _ => false
  | .ty _, _ => false
  | .glo _, _ => false
  | .exo, _ => false
def datCs (K : PySem.W.Frag) : List D → List Value → Bool
  | [], vs => vs.isEmpty
  | x :: xs, vs => match vs with
    | [] => false
    | v :: vs => datC K x v && datCs K xs vs
end
mutual
theorem datC_ok {K : PySem.W.Frag} : ∀ (d : D) (v : Value), datC K d v = true → ∃ w, RelV w v ∧ ∀ ρ H, DV K ρ H d w
  | .non, v, h => by
    simp only [datC] at h
    split at h
    · exact ⟨.non, rfl, fun _ _ => by simp [DV]⟩
    · cases h
  | .bl b, v, h => by
    simp only [datC] at h
    split at h
    · rw [beq_iff_eq] at h; subst h; exact ⟨.bl _, rfl, fun _ _ => by simp [DV]⟩
    · cases h
  | .int i, v, h => by
    simp only [datC] at h
    split at h
    · rw [decide_eq_true_eq] at h; subst h; exact ⟨.int _, ⟨_, rfl⟩, fun _ _ => by simp [DV]⟩
    · cases h
  | .str x, v, h => by
    simp only [datC] at h
    split at h
    · rw [decide_eq_true_eq] at h; subst h; exact ⟨.str _, ⟨_, rfl⟩, fun _ _ => by simp [DV, sv]⟩
    · cases h
  | .tup xs, v, h => by
    simp only [datC] at h
    split at h
    · rename_i a
      split at h
      · rename_i o ho
        simp only [Bool.and_eq_true, decide_eq_true_eq] at h
        obtain ⟨h1, h2⟩ := h
        split at h2
        · rename_i its n hd
          simp only [Bool.and_eq_true, decide_eq_true_eq] at h2
          obtain ⟨ws, r, q⟩ := datCs_ok xs _ h2.2
          exact ⟨.ref a, rfl, fun ρ H => by simp only [DV]; exact ⟨a, ws, rfl, .inr ⟨o, its, n, ho, h1, hd, h2.1, r⟩, q ρ H⟩⟩
        · cases h2
      · cases h
    · cases h
  | .fz xs, v, h => by
    simp only [datC] at h
    split at h
    · rename_i a
      split at h
      · rename_i o ho
        simp only [Bool.and_eq_true, decide_eq_true_eq] at h
        obtain ⟨h1, h3, h2⟩ := h
        split at h2
        · rename_i its n hd
          simp only [Bool.and_eq_true, decide_eq_true_eq] at h2
          obtain ⟨ws, r, q⟩ := datCs_ok xs _ h2.2
          exact ⟨.ref a, rfl, fun ρ H => by simp only [DV]; exact ⟨a, ws, rfl, .inr ⟨o, its, n, ho, h1, by simpa using h3, hd, h2.1, r⟩, q ρ H⟩⟩
        · cases h2
      · cases h
    · cases h
  | .lst _, v, h => by simp [datC] at h
  | .loc _, v, h => by simp [datC] at h
  | .ty _, v, h => by simp [datC] at h
  | .glo _, v, h => by simp [datC] at h
  | .exo, v, h => by simp [datC] at h
theorem datCs_ok {K : PySem.W.Frag} : ∀ (ds : List D) (vs : List Value), datCs K ds vs = true → ∃ ws, Vals ws vs ∧ ∀ ρ H, DVs K ρ H ds ws
  | [], vs, h => by
    simp only [datCs, List.isEmpty_iff] at h
    subst h
    exact ⟨[], .nil, fun _ _ => by simp [DVs]⟩
  | x :: xs, vs, h => by
    cases vs with
    | nil => simp [datCs] at h
    | cons v vs =>
      simp only [datCs, Bool.and_eq_true] at h
      obtain ⟨w, r, q⟩ := datC_ok x v h.1
      obtain ⟨ws, r2, q2⟩ := datCs_ok xs vs h.2
      exact ⟨w :: ws, .cons r r2, fun ρ H => by simp only [DVs]; exact ⟨w, ws, rfl, q ρ H, q2 ρ H⟩⟩
end
/-- a constant under its name -/
def conC (K : PySem.W.Frag) (x : Str) (d : D) : Bool := match PySem.W.nsIn K mainGlobals x with
  | some (some v) => datC K d v
  | _ => false
theorem conC_ok {K : PySem.W.Frag} {h : Heap} {mg : Str → Option Value} (X : K.In h) (G : h.Ns mainGlobals mg) {x : Str} {d : D} (c : conC K x d = true) : GC K mg x d := by
  unfold conC at c
  split at c
  · rename_i v e
    obtain ⟨w, r, q⟩ := datC_ok d v c
    exact ⟨v, w, PySem.W.mg_of X G e, r, q⟩
  · cases c
section
variable {X : Cx} {W : WW X.K} {pos : Pos}
def rngC (lo c : Int) (n : Nat) : List D := (List.range n).map fun (i : Nat) => D.int (lo + (i : Int) * c)
def rgN (i j c : Int) : Nat := (Builtin.Range.rangeSize i j c).toNat
def rgOk (i j c : Int) : Prop := RgC i j c (rgN i j c)
def int3 : List D → Option (Int × Int × Int)
  | [.int i, .int j, .int k] => some (i, j, k)
  | _ => none
open Classical in
noncomputable def iRange3 (a : MA) : MI := fun E S => (a E S).bind fun ds S1 => match int3 ds with
  | some (i, j, c) => if rgOk i j c then .ok ⟨rngC i c (rgN i j c), none⟩ S1 else .bad
  | none => .bad
theorem walks_rangeC {K : PySem.W.Frag} {ρ : List Addr} {H : Hp} {lo c : Int} {n : Nat} : Walks K ρ H ⟨rngC lo c n, none⟩ (Itc lo c n) := by
  intro ρ1 S H1 r e _
  refine ⟨fun i d hd => ?_, by simp [rngC, Itc]⟩
  unfold rngC at hd
  rw [List.getElem?_map] at hd
  by_cases hi : i < n
  · rw [List.getElem?_eq_getElem (by simpa using hi)] at hd
    simp at hd
    subst hd
    refine ⟨hi, fun x H' hy => ?_⟩
    obtain ⟨rfl, rfl⟩ := hy
    exact ⟨r, Ext.refl, by simp [DV]⟩
  · rw [List.getElem?_eq_none (by simpa using hi)] at hd
    cases hd
theorem id_range3 {tg a b c : Expr} {ma : MA} {p : Pos} (hg : Gl X "range") (hm : X.mg "range" = none) (ha : AD X W [a, b, c] ma)
    (hs : starEach [a, b, c] X.env = (false, eval a X.env) :: starEach [b, c] X.env := by rfl) (hpl : (backTo pos (starEach [b, c] X.env)).any (·.1) = false := by rfl) : ID X W tg (.Call (.Name "range" p) [a, b, c] [] pos) (iRange3 ma) := by
  refine PI.impI (pi_range3 hg hm ha hs hpl) fun σ H R ρ S E r er p => ?_
  refine ⟨ρ, S, E, r, er, (Post.bind (R := DVs X.K) p).imp fun vs H1 ⟨ρ1, S1, ds, r1, e1, d1, p1⟩ => ?_⟩
  unfold int3 at p1
  split at p1
  · rename_i i j c q
    split at q
    · cases q
      have e : vs = [.int i, .int j, .int c] := by
        simp only [DVs, DV] at d1
        obtain ⟨v, r, rfl, rfl, w, q, rfl, rfl, u, t, rfl, rfl, rfl⟩ := d1
        rfl
      subst e
      by_cases hj : rgOk i j c
      · rw [if_pos hj] at p1
        exact ⟨i, j, c, _, rfl, hj, p1 ρ1 H1 _ r1 Ext.refl walks_rangeC⟩
      · rw [if_neg hj] at p1; exact p1.elim
    · cases q
  · exact p1.elim
open Classical in
theorem a_range3 {a : MA} {E : Evn} {S : Sto} : iRange3 a E S = (a E S).bind fun ds S1 => (match int3 ds with
  | some (i, j, c) => if rgOk i j c then .ok ⟨rngC i c (rgN i j c), none⟩ S1 else .bad
  | none => .bad) := rfl
theorem a_int3 {i j k : Int} : int3 [.int i, .int j, .int k] = some (i, j, k) := rfl
end
end PD
namespace PD
open PySem PySem.Spec PyProof PyProof.Rows L2
section
variable {S : Sto}
theorem g_ixLoc {n : Nat} {i : Int} : gIx S (.loc n) (.int i) = (match S[n]? with
  | some (.lst xs) => atD xs i
  | _ => none) := by
  simp only [gIx, seqF]
  cases S[n]? with
  | none => rfl
  | some o => cases o <;> rfl
theorem g_lenLoc' {n : Nat} : gLen S [.loc n] = (match S[n]? with
  | some (.lst xs) => some (.int xs.length)
  | _ => none) := by
  simp only [gLen, seqF]
  cases S[n]? with
  | none => rfl
  | some o => cases o <;> rfl
theorem ixD_0 {n : Nat} : ixD (n + 1) 0 = some 0 := rfl
theorem ixD_1 {n : Nat} : ixD (n + 2) 1 = some 1 := by unfold ixD; simp
theorem ixD_2 {n : Nat} : ixD (n + 3) 2 = some 2 := by unfold ixD; simp
theorem ixD_3 {n : Nat} : ixD (n + 4) 3 = some 3 := by unfold ixD; simp
theorem ixD_l1 {a b c d : D} {x : D} : ixD [a, b, c, d].length 1 = some 1 := rfl
end
end PD

/-! PyE4: str.replace, where a token is out. -/
namespace PD
open PySem PySem.Spec PyProof PyProof.Rows L2
section
variable {X : Cx} {W : WW X.K} {pos : Pos}
/-- the same judgements where a token is out -/
def EDT (X : Cx) (W : WW X.K) (e : Expr) (m : ME) : Prop := PET X e (tE X.K W m)
def ADT (X : Cx) (W : WW X.K) (es : List Expr) (m : MA) : Prop := PAT X es (tA X.K W m)
def PTT (X : Cx) (e : Expr) (t : TT) : Prop :=
  ∀ (pins : List (Addr × Obj)) (s : Shared) (σ : L2.St) (H : Hp) (Q : Bool → Hp → Prop), 1 ≤ s.toks → Inv X pins σ H s → t σ H Q → wpAny (model X.prog X.w) X.A (isTrue e X.env (eval e X.env)) (TP X pins σ Q) X.xe s
def PWT (X : Cx) (e : Expr) (t : TT) : Prop :=
  ∀ (whole : Sem Value) (pins : List (Addr × Obj)) (s : Shared) (σ : L2.St) (H : Hp) (Q : Bool → Hp → Prop), 1 ≤ s.toks → Inv X pins σ H s → t σ H Q → wpAny (model X.prog X.w) X.A (isTrue e X.env whole) (TP X pins σ Q) X.xe s
def TDT (X : Cx) (W : WW X.K) (e : Expr) (m : MT) : Prop := PTT X e (tT X.K W m)
def WDT (X : Cx) (W : WW X.K) (e : Expr) (m : MT) : Prop := PWT X e (tT X.K W m)
def SDT (X : Cx) (W : WW X.K) (st : Stmt) (m : MS) : Prop := PST X st (tS X.K W m)
def BDT (X : Cx) (W : WW X.K) (st : List Stmt) (m : MS) : Prop := PSsT X st (tS X.K W m)
theorem PET.imp {e : Expr} {t t' : TE} (h : PET X e t) (i : ∀ σ H Q, t' σ H Q → t σ H Q) : PET X e t' := fun pins s σ H Q h0 I q => h pins s σ H Q h0 I (i _ _ _ q)
theorem PAT.imp {e : List Expr} {t t' : TA} (h : PAT X e t) (i : ∀ σ H Q, t' σ H Q → t σ H Q) : PAT X e t' := fun pos pins s σ H Q h0 I q => h pos pins s σ H Q h0 I (i _ _ _ q)
theorem PTT.imp {e : Expr} {t t' : TT} (h : PTT X e t) (i : ∀ σ H Q, t' σ H Q → t σ H Q) : PTT X e t' := fun pins s σ H Q h0 I q => h pins s σ H Q h0 I (i _ _ _ q)
theorem PWT.imp {e : Expr} {t t' : TT} (h : PWT X e t) (i : ∀ σ H Q, t' σ H Q → t σ H Q) : PWT X e t' := fun wh pins s σ H Q h0 I q => h wh pins s σ H Q h0 I (i _ _ _ q)
theorem PST.imp {e : Stmt} {t t' : TS} (h : PST X e t) (i : ∀ D σ H, t' D σ H → t D σ H) : PST X e t' := fun pins s σ H D h0 I q => h pins s σ H D h0 I (i _ _ _ q)
theorem PSsT.imp {e : List Stmt} {t t' : TS} (h : PSsT X e t) (i : ∀ D σ H, t' D σ H → t D σ H) : PSsT X e t' := fun pins s σ H D h0 I q => h pins s σ H D h0 I (i _ _ _ q)
theorem edt {e : Expr} {m : ME} (h : ED X W e m) : EDT X W e m := fun pins s σ H Q _ I q => PE.run h pins s σ H Q I q
theorem sdt {e : Stmt} {m : MS} (h : SD X W e m) : SDT X W e m := fun pins s σ H Q _ I q => PS.run h pins s σ H Q I q
theorem bdt {e : List Stmt} {m : MS} (h : BD X W e m) : BDT X W e m := fun pins s σ H Q _ I q => PSs.run h pins s σ H Q I q
/-! replace of written texts -/
def replOk (a z : Tx) : Prop := a.length + (a.length + 1) * z.length ≤ 16777216
open Classical in
noncomputable def mRepl (y z : Tx) (o : ME) : ME := fun E S => (o E S).bind fun x S1 => match x with
  | .str a => if replOk a z then .ok (.str (StrLaws.replL y z a)) S1 else .bad
  | _ => .bad
theorem repl_read {to : TE} {y z : Tx} {mo : ME} (hy : y ≠ []) : ∀ σ H Q, tE X.K W (mRepl y z mo) σ H Q → CwR.tReplC (tE X.K W mo) ⟨y.toArray⟩ ⟨z.toArray⟩ σ H Q := by
  rintro σ H Q ⟨ρ, S, E, r, er, p⟩
  refine ⟨ρ, S, E, r, er, (Post.bind (R := DV X.K) p).imp fun x H1 ⟨ρ1, S1, d, r1, e1, d1, p1⟩ => ?_⟩
  cases d with
  | str a =>
    simp only at p1
    by_cases h : replOk a z
    · rw [if_pos h] at p1
      rw [dv_str] at d1; subst d1
      refine ⟨_, rfl, by rw [sv_len, sv_len]; exact h, ?_⟩
      have e : Txt.replace ⟨a.toArray⟩ ⟨y.toArray⟩ ⟨z.toArray⟩ = ⟨(StrLaws.replL y z a).toArray⟩ := by
        refine TL.ext_tl ?_
        exact StrLaws.replace_list (x := ⟨a.toArray⟩) (y := ⟨y.toArray⟩) (z := ⟨z.toArray⟩) (by rw [sv_len]; cases y with | nil => exact absurd rfl hy | cons c r => simp)
      rw [e]
      exact post_str r1 p1
    · rw [if_neg h] at p1; exact p1.elim
  | _ => exact p1.elim
variable {o e : Expr} {es : List Expr} {mo m : ME} {ms : MA} {apos c0 c1 : Pos} {j k : Nat} {ys zs : Str} {y z : Tx}
theorem edt_repl (ho : ED X W o mo) (ey : ys = ⟨y.toArray⟩) (ez : zs = ⟨z.toArray⟩) (hy : y ≠ []) (hyz : (ys == zs) = false := by decide)
    (hst : starEach [.Constant (.str ys) j c0, .Constant (.str zs) k c1] X.env = [(false, eval (.Constant (.str ys) j c0) X.env), (false, eval (.Constant (.str zs) k c1) X.env)] := by rfl)
    (hbase : attributeBase o "replace" X.env (eval o X.env) = eval o X.env := by rfl) (hline : (apos.endLine == pos.line) = true := by rfl) :
    EDT X W (.Call (.Attribute o "replace" apos) [.Constant (.str ys) j c0, .Constant (.str zs) k c1] [] pos) (mRepl y z mo) := by
  subst ey ez
  exact PET.imp (CwR.pet_replC ho hyz hst hbase hline) (repl_read (to := tE X.K W mo) hy)
theorem edt_replT (ho : EDT X W o mo) (ey : ys = ⟨y.toArray⟩) (ez : zs = ⟨z.toArray⟩) (hy : y ≠ []) (hyz : (ys == zs) = false := by decide)
    (hst : starEach [.Constant (.str ys) j c0, .Constant (.str zs) k c1] X.env = [(false, eval (.Constant (.str ys) j c0) X.env), (false, eval (.Constant (.str zs) k c1) X.env)] := by rfl)
    (hbase : attributeBase o "replace" X.env (eval o X.env) = eval o X.env := by rfl) (hline : (apos.endLine == pos.line) = true := by rfl) :
    EDT X W (.Call (.Attribute o "replace" apos) [.Constant (.str ys) j c0, .Constant (.str zs) k c1] [] pos) (mRepl y z mo) := by
  subst ey ez
  exact PET.imp (CwR.pet_replT ho hyz hst hbase hline) (repl_read (to := tE X.K W mo) hy)
/-! rows, built-ins, comparisons, tests -/
theorem adt_nil : ADT X W [] mNil := fun pos pins s σ H Q _ I q => PA.run ad_nil pos pins s σ H Q I q
theorem adt_cons (h : EDT X W e m) (hr : ADT X W es ms) (hs : starEach (e :: es) X.env = (false, eval e X.env) :: starEach es X.env := by rfl) : ADT X W (e :: es) (mCons m ms) := by
  refine PAT.imp (pat_cons h hr hs) fun σ H Q ⟨ρ, S, E, r, er, p⟩ => ?_
  refine ⟨ρ, S, E, r, er, (Post.bind (R := DV X.K) p).imp fun x H1 ⟨ρ1, S1, d, r1, e1, d1, p1⟩ => ?_⟩
  refine ⟨ρ1, S1, E, r1, er.mono e1, (Post.bind (R := DVs X.K) p1).imp fun xs H2 ⟨ρ2, S2, ds, r2, e2, d2, p2⟩ => ?_⟩
  exact p2 ρ2 H2 (x :: xs) r2 Ext.refl (by simp only [DVs]; exact ⟨x, xs, rfl, DV.mono e2 _ _ d1, d2⟩)
theorem edt_callB {x : Str} {id : String} {r : List V → Hp → VK → Prop} {g : Sto → List D → Option D} {p : Pos} (hc : CallR X (.builtin id) r) (hr : ∀ vs H Q, rPB X.K g vs H Q → r vs H Q) (hg : Gl X x) (hm : X.mg x = none) (hv : bootBuiltins x = some (.builtin id)) (ha : ADT X W (e :: es) ms)
    (hn : x ≠ "__name__" := by decide) (hdb : (x == ("__debug__" : Str)) = false := by decide) (he : starEach (e :: es) X.env = (false, eval e X.env) :: starEach es X.env := by rfl) (hpl : (backTo pos (starEach es X.env)).any (·.1) = false := by rfl) :
    EDT X W (.Call (.Name x p) (e :: es) [] pos) (mB g ms) := by
  intro pins s σ H Q h0 I h
  obtain ⟨ρ, S, E, re, er, p⟩ := h
  have h := b_read (W := W) (ms := ms) hr σ H Q ρ S E re er p
  refine wpAny_Call_Name_kw (ld_blt I hg hm hv ?_ hn hdb)
  exact PyProof.Rows.callWith_builtin1 (thn (ha pos pins s σ H _ h0 I h) fun us s1 ⟨vs, H1, I1, r1, q1⟩ => hc pins s1 σ H1 vs us Q I1 r1 q1) he hpl
variable {a b : Expr} {ma mb : ME} {g : Sto → D → D → Option D} {rest : List Expr} {ta tb : MT}
theorem tdt_cmp {op : CmpOp} {r : R2} (ho : OpR X (compareOp op) r) (hr : ∀ x y H Q, rP X.K g x y H Q → r x y H Q) (ha : EDT X W a ma) (hb : ED X W b mb) (hm : behindInMarks op b = false) : TDT X W (.Compare a [op] [b] pos) (asB (mBin g ma mb)) := by
  intro pins s σ H Q h0 I h
  obtain ⟨ρ, S, E, re, er, p⟩ := h
  have h := asB_read (W := W) (m := mBin g ma mb) (t := tOp r (tE X.K W ma) (tE X.K W mb)) (fun σ H Q ⟨ρ, S, E, r, er, p⟩ => bin_read hr σ H Q ρ S E r er p) σ H Q ρ S E re er p
  refine wpAny_isTrue_Compare1 (thn (ha pins s σ H _ h0 I h) fun v s1 ⟨x, H1, I1, r1, q1⟩ => thn (PE.run hb pins s1 σ H1 _ I1 q1) fun u s2 ⟨y, H2, I2, r2, q2⟩ =>
    thn (ho pins s2 σ H2 x y v u _ I2 r1 r2 q2) fun c s3 ⟨z, H3, I3, r3, k, e, q3⟩ => ?_) hm
  subst e
  cases r3
  exact wpAny_truthy_bool ⟨H3, I3, q3⟩
theorem wdt_and (ha : TDT X W a ta) (hb : WD X W (.BoolOp .And (b :: rest) pos) tb) : WDT X W (.BoolOp .And (a :: b :: rest) pos) (mAnd ta tb) := by
  intro wh pins s σ H Q h0 I h
  obtain ⟨ρ, S, E, re, er, p⟩ := h
  have h := and_read (W := W) (ta := ta) (tb := tb) σ H Q ρ S E re er p
  refine isTrue_and (thn (ha pins s σ H _ h0 I h) fun c s1 ⟨H1, I1, q1⟩ => ?_)
  cases c with
  | true => exact PW.run hb wh pins s1 σ H1 Q I1 q1
  | false => exact ⟨H1, I1, q1⟩
theorem tdt_w (h : WDT X W a ta) : TDT X W a ta := h _
theorem sdt_if {c : Expr} {a b : List Stmt} {mc : MT} {ma mb : MS} (hc : TDT X W c mc) (ha : BD X W a ma) (hb : BD X W b mb) : SDT X W (.If c a b pos) (mIf mc ma mb) := by
  intro pins s σ H D h0 I h
  obtain ⟨ρ, S, E, r, er, p⟩ := h
  have h : tIfS (tT X.K W mc) (tS X.K W ma) (tS X.K W mb) D σ H := by
    refine ⟨ρ, S, E, r, er, (SPost.bind (R := fun _ _ (b c : Bool) => b = c) er p).imp fun x H1 ⟨ρ1, S1, d, r1, e1, d1, p1⟩ => ?_⟩
    subst d1
    cases d with
    | true => rw [if_pos rfl] at p1 ⊢; exact ⟨ρ1, S1, E, r1, er.mono e1, p1⟩
    | false => rw [if_neg (by simp)] at p1 ⊢; exact ⟨ρ1, S1, E, r1, er.mono e1, p1⟩
  refine wpAny_If (thn (hc pins s σ H _ h0 I h) fun d s1 ⟨H1, I1, q1⟩ => ?_)
  cases d with
  | true => exact PSs.run ha pins s1 σ H1 D I1 q1
  | false => exact PSs.run hb pins s1 σ H1 D I1 q1
theorem seq_read {a b : MS} : ∀ D σ H, tS X.K W (mSeq a b) D σ H → tSeq (tS X.K W a) (tS X.K W b) D σ H := by
  rintro D σ H ⟨ρ, S, E, r, er, p⟩
  refine ⟨ρ, S, E, r, er, ?_⟩
  unfold mSeq at p
  cases q : a E S with
  | nx E' S' =>
    rw [q] at p
    exact fun ρ' H' σ' r' e' er' => ⟨ρ', S', E', r', er', p.start e'⟩
  | rt d S' => rw [q] at p; exact p
  | bk E' S' => rw [q] at p; exact p
  | ct E' S' => rw [q] at p; exact p
  | ex e E' S' => rw [q] at p; exact p
  | bad => rw [q] at p; exact p
theorem bdt_cons {st : Stmt} {rest : List Stmt} {a b : MS} (h1 : SDT X W st a) (h2 : BDT X W rest b) : BDT X W (st :: rest) (mSeq a b) := PSsT.imp (psst_cons h1 h2) seq_read
theorem bdt_one {st : Stmt} {a : MS} (h1 : SDT X W st a) : BDT X W [st] a := by
  refine PSsT.imp (CwR.psst_one h1) fun D σ H ⟨ρ, S, E, r, er, p⟩ => ⟨ρ, S, E, r, er, ?_⟩
  cases q : a E S with
  | nx E' S' => rw [q] at p; exact fun ρ' H' σ' r' e' er' => p ρ' H' σ' r' e' er'
  | rt d S' => rw [q] at p; exact p
  | bk E' S' => rw [q] at p; exact p
  | ct E' S' => rw [q] at p; exact p
  | ex e E' S' => rw [q] at p; exact p
  | bad => rw [q] at p; exact p
theorem for_read {mi : MI} {g : MG} {mb : MS} : ∀ D σ H, tS X.K W (mFor mi g mb) D σ H → tFor (tI X.K W mi) (tG X.K W g) (tS X.K W mb) D σ H := by
  rintro D σ H ⟨ρ, S, E, r, er, p⟩
  refine ⟨ρ, S, E, r, er, (SPost.bind (R := Walks X.K) er p).imp fun J H1 ⟨ρ1, S1, i, r1, e1, w1, p1⟩ => ?_⟩
  refine ⟨fun n m σ2 H2 => m = i.items.length - n ∧ n ≤ i.items.length ∧ ∃ ρ2 S2 E2, Rel X.K ρ2 S2 H2 ∧ Ext X.K ρ1 H1 ρ2 H2 ∧ ER X.K W ρ2 H2 E2 σ2 ∧ SPost X.K W ρ2 H2 D (forD i.chk g mb (i.items.drop n) E2 S2),
    ⟨_, rfl, Nat.zero_le _, ρ1, S1, E, r1, Ext.refl, er.mono e1, by simpa using p1⟩, ?_⟩
  rintro n m σ2 H2 ⟨rfl, hn, ρ2, S2, E2, r2, e2, er2, p2⟩
  have hck : chkOk i.chk S2 := Classical.byContradiction fun z => by
    cases q : i.items.drop n with
    | nil => rw [q, forD, if_neg z] at p2; exact p2
    | cons x rr => rw [q, forD, if_neg z] at p2; exact p2
  obtain ⟨w2, w3⟩ := w1 ρ2 S2 H2 r2 e2 hck
  by_cases hlt : n < i.items.length
  · right
    have hd : i.items[n]? = some i.items[n] := List.getElem?_eq_getElem hlt
    obtain ⟨go, yl⟩ := w2 n _ hd
    refine ⟨go, fun σ' H' => n + 1 ≤ i.items.length ∧ ∃ ρ3 S3 E3, Rel X.K ρ3 S3 H' ∧ Ext X.K ρ1 H1 ρ3 H' ∧ ER X.K W ρ3 H' E3 σ' ∧ SPost X.K W ρ3 H' D (forD i.chk g mb (i.items.drop (n + 1)) E3 S3), fun σ' H' ⟨h1, h2⟩ => ⟨i.items.length - (n + 1), by omega, rfl, h1, h2⟩, fun x H3 hy => ?_⟩
    obtain ⟨r3, e3, d3⟩ := yl x H3 hy
    rw [drop_cons_of hd, forD, if_pos hck] at p2
    refine ⟨ρ2, S2, E2, _, r3, er2.mono e3, d3, (SPost.bind (R := ER X.K W) (er2.mono e3) (p2.start e3)).imp fun σ4 H4 ⟨ρ4, S4, E4, r4, e4, er4, p4⟩ => ?_⟩
    refine ⟨ρ4, S4, E4, r4, er4, ?_⟩
    have ee := (e2.trans e3).trans e4
    cases q : mb E4 S4 with
    | nx E5 S5 => rw [q] at p4; exact fun ρ' H' σ' r' e' er' => ⟨hlt, ρ', S5, E5, r', ee.trans e', er', p4.start e'⟩
    | ct E5 S5 => rw [q] at p4; exact fun ρ' H' σ' r' e' er' => ⟨hlt, ρ', S5, E5, r', ee.trans e', er', p4.start e'⟩
    | bk E5 S5 => rw [q] at p4; exact p4
    | rt d S5 => rw [q] at p4; exact p4
    | ex e E5 S5 => rw [q] at p4; exact p4
    | bad => rw [q] at p4; exact p4
  · left
    have hn2 : n = i.items.length := by omega
    subst hn2
    rw [List.drop_length, forD, if_pos hck] at p2
    exact ⟨w3, p2 ρ2 H2 σ2 r2 Ext.refl er2⟩
theorem pst_for {tg iter : Expr} {body : List Stmt} {wi : TI} {g : TG} {tb : TS} (hp : PassesOwn (model X.prog X.w) X.A X.env X.xe) (hc : X.calm = true) (hi : PI X tg iter wi) (hg : PG X tg g) (hb : PSsT X body tb)
    (hs : ∀ x, foldedSetIterable iter X.env x = pure x := by intro _; rfl) : PST X (.For tg iter body [] pos) (tFor wi g tb) := by
  intro pins s σ H D h0 I h
  refine wpAny_For (wpAny_mono (PySem.wpAny_toks_of h0 (hi.run pins s σ H _ I h)) (fun v s1 ⟨k1, h1⟩ => wpAny_mono (PySem.wpAny_toks_of k1 h1) (fun itv s2 ⟨k2, h2⟩ => ?_) fun _ _ z => z.2) fun _ _ z => z.2) hs
  obtain ⟨it, fp, tn, J, H2, e, I2, T, st2, f2, W, ⟨m0, w0⟩, turn⟩ := h2
  subst e
  have stat : ∀ {H' : Hp}, (∀ b ∈ fp, H' b = none) → ∀ b ∈ fp, FpOk X pins H' b := fun hn b hb => ⟨hn b hb, (f2 b hb).2⟩
  refine codeAny_forLoop_any (fun n s' => 1 ≤ s'.toks ∧ ∃ i σ' H', Inv X pins σ' H' s' ∧ tn i s'.heap ∧ (∀ b ∈ fp, H' b = none) ∧ W i n σ' H') ?_ m0 ⟨k2, 0, σ, H2, I2, st2, fun b hb => (f2 b hb).1, w0⟩
  rintro n s3 ⟨k3, i, σ3, H3, I3, st3, fr3, w3⟩
  rcases turn i n σ3 H3 w3 with ⟨stop, qn⟩ | ⟨go, N, hN, step⟩
  · refine wpAny_passesOwn hp (thn (T.done X rfl rfl rfl hc i pins s3 σ3 H3 X.xe I3 (stat fr3) st3 stop) fun r s4 ⟨hr, I4⟩ => ?_)
    subst hr
    exact wpAny_execs_nil ⟨σ3, H3, I4, qn⟩
  · refine wpAny_passesOwn hp (wpAny_mono (PySem.wpAny_toks_of k3 (T.item X rfl rfl rfl hc i pins s3 σ3 H3 X.xe I3 (stat fr3) st3 go)) (fun r s4 ⟨k4, u, hr, h4⟩ => ?_) fun _ _ z => z.2)
    subst hr
    refine wpAny_passesOwn hp (wpAny_mono (PySem.wpAny_toks_of k4 h4) (fun _ s5 ⟨k5, x, H5, I5, r5, y5, st5, fr5⟩ => ?_) fun _ _ z => z.2)
    have I5' := I5.pinned (stat fr5) (T.obj _ _ st5)
    refine wpAny_passesOwn hp (wpAny_mono (PySem.wpAny_toks_of k5 (hg.run _ s5 σ3 H5 x u _ I5' r5 (step x H5 y5))) (fun _ s6 ⟨k6, σ6, H6, I6, q6⟩ => ?_) fun _ _ z => z.2)
    refine wpAny_passesOwn hp (wpAny_mono (PySem.wpAny_toks_of k6 (hb _ s6 σ6 H6 _ k6 I6 q6)) (fun f s7 ⟨k7, q7⟩ => ?_) fun _ _ z => z.2)
    have again : ∀ {σ7 : L2.St} {H7 : Hp}, Inv X (pins ++ pinsAt fp s5.heap) σ7 H7 s7 → N σ7 H7 → ∃ m, m < n ∧ 1 ≤ s7.toks ∧ ∃ i σ' H', Inv X pins σ' H' s7 ∧ tn i s7.heap ∧ (∀ b ∈ fp, H' b = none) ∧ W i m σ' H' := fun {σ7 H7} I7 n7 => by
      obtain ⟨m', hm, w7⟩ := hN σ7 H7 n7
      refine ⟨m', hm, k7, i + 1, σ7, H7, I7.unpinned, T.keep _ _ _ st5 fun b hb o e => (I7.pin (b, o) (List.mem_append_right _ (List.mem_append_right _ (mem_pinsAt hb e)))).1, fun b hb => ?_, w7⟩
      obtain ⟨o, e, d⟩ := T.obj _ _ st5 b hb
      exact (I7.pin (b, o) (List.mem_append_right _ (List.mem_append_right _ (mem_pinsAt hb e)))).2.1
    cases f with
    | next => obtain ⟨σ7, H7, I7, n7⟩ := q7; exact again I7 n7
    | cont => obtain ⟨σ7, H7, I7, n7⟩ := q7; exact again I7 n7
    | brk => obtain ⟨σ7, H7, I7, q7⟩ := q7; exact ⟨σ7, H7, I7.unpinned, q7⟩
    | ret v => obtain ⟨x7, σ7, H7, I7, r7, q7⟩ := q7; exact ⟨x7, σ7, H7, I7.unpinned, r7, q7⟩
theorem sdt_for {tg it : Expr} {body : List Stmt} {mi : MI} {g : MG} {mb : MS} (hp : PassesOwn (model X.prog X.w) X.A X.env X.xe) (hc : X.calm = true) (hi : ID X W tg it mi) (hg : GD X W tg g) (hb : BDT X W body mb)
    (hs : ∀ x, foldedSetIterable it X.env x = pure x := by intro _; rfl) : SDT X W (.For tg it body [] pos) (mFor mi g mb) := PST.imp (pst_for hp hc hi hg hb hs) for_read
/-! what gives out a token -/
def EK (X : Cx) (e : Expr) (t : TE) : Prop :=
  ∀ (pins : List (Addr × Obj)) (s : Shared) (σ : L2.St) (H : Hp) (Q : VK), Inv X pins σ H s → t σ H Q → wpAny (model X.prog X.w) X.A (eval e X.env) (fun v s1 => 1 ≤ s1.toks ∧ EP X pins σ Q v s1) X.xe s
structure EKD (X : Cx) (W : WW X.K) (e : Expr) (m : ME) : Prop where
  run : EK X e (tE X.K W m)
theorem ekd_str {x : Str} {j : Nat} {c : Tx} (hc : x = ⟨c.toArray⟩) : EKD X W (.Constant (.str x) j pos) (mC (.str c)) := by
  refine ⟨?_⟩
  rintro pins s σ H Q I ⟨ρ, S, E, r, er, p⟩
  refine Calls.Constant_str ⟨by show 1 ≤ s.toks + 1; omega, .str x, H, I.tok _, ⟨_, rfl⟩, p ρ H _ r Ext.refl (by simp [DV, sv, hc])⟩
/-- a statement whose value gives out a token -/
theorem bd_tok {i : Nat} {x : Str} {e : Expr} {m : ME} {rest : List Stmt} {b : MS} {pos' : Pos} (hN : X.N.Nodup) (hi : X.N[i]? = some x) (hx : Loc X.env.scope x) (he : EKD X W e m) (h2 : BDT X W rest b) (hw : W.fix = none)
    (hs : swapsWith e (some (.Name x pos')) pos.line X.env = pure false := by rfl) (hf : X.fn x = true ∨ X.env.scope.names.lookup x = some .local := by first | exact .inl rfl | exact .inr rfl | assumption) :
    BD X W (.Assign [.Name x pos'] e pos :: rest) (mSeq (mSet i m) b) := by
  refine ⟨fun pins s σ H D I h => ?_⟩
  have h := seq_read D σ H h
  have h : tAsg (tE X.K W m) (gName i) { D with nx := tS X.K W b D } σ H := by
    obtain ⟨ρ, S, E, r, er, p⟩ := h
    refine ⟨ρ, S, E, r, er, (SPost.bind (R := DV X.K) er p).imp fun x H1 ⟨ρ1, S1, d, r1, e1, d1, p1⟩ => ?_⟩
    exact p1 ρ1 H1 _ r1 Ext.refl ((er.mono e1).set hw i d1)
  refine wpAny_execs_cons (wpAny_Assign_Name (thn (he.run pins s σ H _ I h) fun v s1 ⟨k1, y, H1, I1, r1, q1⟩ => ?_) hs)
  refine wpAny_mono (PySem.wpAny_toks_of k1 (store_ok (v := y) (u := v) (Q := fun _ s2 => Inv X pins (σ.set i (some y)) H1 s2) I1 hN hi hx r1 (fun _ I2 => I2) hf)) (fun _ s2 q => ?_) fun _ _ z => z.2
  exact h2 pins s2 _ H1 D q.1 q.2 q1
/-- a row whose first gives out a token -/
theorem ekd_lst {e : Expr} {es : List Expr} {m : ME} {ms : MA} (h : EKD X W e m) (hr : AD X W es ms) (hs : starEach (e :: es) X.env = (false, eval e X.env) :: starEach es X.env := by rfl) : EKD X W (.List (e :: es) pos) (mLst (mCons m ms)) := by
  refine ⟨?_⟩
  rintro pins s σ H Q I ⟨ρ, S, E, r0, er, p⟩
  have hq : tE X.K W m σ H fun x H1 => tA X.K W ms σ H1 fun xs H2 => (x :: xs).length ≤ sizeLine ∧ ∀ q, H2 q = none → Q (.ref q) (upd H2 q (.lst (x :: xs))) := by
    have p2 := Post.bind (R := DVs X.K) p
    refine ⟨ρ, S, E, r0, er, (Post.bind (R := DV X.K) p2).imp fun x H1 ⟨ρ1, S1, d, r1, e1, d1, p3⟩ => ?_⟩
    refine ⟨ρ1, S1, E, r1, er.mono e1, (Post.bind (R := DVs X.K) p3).imp fun xs H2 ⟨ρ2, S2, ds, r2, e2, d2, p4⟩ => ?_⟩
    obtain ⟨ρ3, S3, dd, r3, e3, d3, p5⟩ := p4 ρ2 H2 (x :: xs) r2 Ext.refl (by simp only [DVs]; exact ⟨x, xs, rfl, DV.mono e2 _ _ d1, d2⟩)
    by_cases hl : PD.sizeOk dd.length
    · rw [if_pos hl] at p5
      exact ⟨by rw [← d3.length]; exact hl, fun q hq => p5 ρ3 _ _ (r3.new hq) (Ext.new hq) (dv_lst hq (r3.notin hq) d3)⟩
    · rw [if_neg hl] at p5; exact p5.elim
  refine wpAny_List_spliced ?_
  rw [hs]
  show wpAny _ _ (spliced ((false, eval e X.env) :: backTo pos (starEach es X.env))) _ _ s
  refine Calls.spliced_cons (thn (h.run pins s σ H _ I hq) fun v s1 ⟨k1, x, H1, I1, r1, q1⟩ => ?_)
  refine wpAny_mono (PySem.wpAny_toks_of k1 (PA.run hr pos pins s1 σ H1 _ I1 q1)) (fun us s2 ⟨k2, xs, H2, I2, r2, z, q2⟩ => ?_) fun _ _ z => z.2
  have hl : (v :: us).length = (x :: xs).length := by simp [r2.length]
  refine ⟨by rw [hl]; exact z, k2, ?_⟩
  have hf : H2 s2.heap.objs.size = none := I2.hok.fresh (Nat.le_refl _)
  refine ⟨.ref s2.heap.objs.size, upd H2 s2.heap.objs.size (.lst (x :: xs)), I2.laid (t' := s2.toks) (fun b u e => Heap.get?_push_of_some _ e) (Nat.le_refl _) ?_, rfl, q2 _ hf⟩
  exact ⟨z, v :: us, 0, .cons r1 r2, Heap.get?_push_size _ rfl⟩
end
end PD

/-! PyF0: weakest preconditions of the meanings, by rewriting; what is left are conditions, loops, calls. -/
namespace PD
open PySem PySem.Spec PyProof PyProof.Rows L2
abbrev EC := Evn → Sto → Prop
/-- a mark: what it names is left alone by simp -/
inductive Tg {α : Type} {β : Type} (Q : α) (X : β) : Type where
  | mk
def OkO {α : Type} (o : Out α) (Q : α → Sto → Prop) (X : Exn → Sto → Prop) (_u : Tg Q X := .mk) : Prop := match o with
  | .ok a S => Q a S
  | .ex e S => X e S
  | .bad => False
def OkP {α : Type} (o : Option α) (Q : α → Prop) (_u : Tg Q Q := .mk) : Prop := match o with
  | some d => Q d
  | none => False
def OkV (o : Option (Option D)) (Q : D → Prop) (_u : Tg Q Q := .mk) : Prop := match o with
  | some (some d) => Q d
  | _ => False
def OkI (b : Bool) (P P' : Prop) : Prop := (b = true → P) ∧ (b = false → P')
def OkB (d : D) (Q : Bool → Prop) (_u : Tg Q Q := .mk) : Prop := match d with
  | .bl b => Q b
  | _ => False
def OkT (o : Option Ob) (Q : List D → Prop) (_u : Tg Q Q := .mk) : Prop := match o with
  | some (.lst l) => Q l
  | _ => False
def OkLoc (d : D) (Q : Nat → Prop) (_u : Tg Q Q := .mk) : Prop := match d with
  | .loc n => Q n
  | _ => False
def OkStr (d : D) (Q : Tx → Prop) (_u : Tg Q Q := .mk) : Prop := match d with
  | .str n => Q n
  | _ => False
def OkInt (d : D) (Q : Int → Prop) (_u : Tg Q Q := .mk) : Prop := match d with
  | .int n => Q n
  | _ => False
def OkTup (d : D) (Q : List D → Prop) (_u : Tg Q Q := .mk) : Prop := match d with
  | .tup n => Q n
  | _ => False
/-- a thing that simp leaves alone -/
def Hid (P : Prop) (_u : Tg P P := .mk) : Prop := P
theorem hid {P : Prop} (h : P) : Hid P := h
def OkN {β : Type} (x : β) (f : β → Prop) (_u : Tg f f := .mk) : Prop := f x
def OkS (o : SO) (N : EC) (R : D → Sto → Prop) (X : Exn → EC) (B C : EC) (_u : Tg N R := .mk) (_v : Tg X B := .mk) (_w : Tg C C := .mk) : Prop := match o with
  | .nx E S => N E S
  | .rt d S => R d S
  | .bk E S => B E S
  | .ct E S => C E S
  | .ex e E S => X e E S
  | .bad => False
section
variable {α : Type} {Q : α → Sto → Prop} {P P' : Prop} {N B C : EC} {R : D → Sto → Prop} {X : Exn → Sto → Prop} {XE : Exn → EC} {E : Evn} {S : Sto}
theorem w_n {β : Type} {x : β} {f : β → Prop} : OkN x f = f x := rfl
theorem w_ok {a : α} : OkO (.ok a S) Q X = Q a S := rfl
theorem w_ex {e : Exn} : OkO (.ex e S : Out α) Q X = X e S := rfl
theorem w_bad : OkO (.bad : Out α) Q X = False := rfl
theorem w_ite {c : Prop} {inst : Decidable c} {a b : Out α} : OkO (if c then a else b) Q X = ((c → OkO a Q X) ∧ (¬ c → OkO b Q X)) := by
  by_cases h : c <;> simp [h]
theorem w_iteoe {c : Prop} {inst : Decidable c} {a : α} {e : Exn} {S' : Sto} : OkO (if c then (.ok a S) else .ex e S') Q X = ((c → Q a S) ∧ (¬ c → X e S')) := w_ite
theorem w_iteoo {c : Prop} {inst : Decidable c} {a b : α} {S' : Sto} : OkO (if c then (.ok a S) else .ok b S') Q X = ((c → Q a S) ∧ (¬ c → Q b S')) := w_ite
theorem w_itebad {c : Prop} {inst : Decidable c} {a : Out α} : OkO (if c then a else .bad) Q X = (c ∧ OkO a Q X) := by
  by_cases h : c <;> simp [h, OkO]
theorem w_some {d : α} {Q : α → Prop} : OkP (some d) Q = Q d := rfl
theorem w_none {Q : α → Prop} : OkP none Q = False := rfl
theorem w_pite {c : Prop} {inst : Decidable c} {a b : Option α} {Q : α → Prop} : OkP (if c then a else b) Q = ((c → OkP a Q) ∧ (¬ c → OkP b Q)) := by
  by_cases h : c <;> simp [h]
theorem w_pitess {c : Prop} {inst : Decidable c} {a b : α} {Q : α → Prop} : OkP (if c then some a else some b) Q = ((c → Q a) ∧ (¬ c → Q b)) := w_pite
theorem w_pitebad {c : Prop} {inst : Decidable c} {a : Option α} {Q : α → Prop} : OkP (if c then a else none) Q = (c ∧ OkP a Q) := by
  by_cases h : c <;> simp [h, OkP]
theorem w_vsome {d : D} {Q : D → Prop} : OkV (some (some d)) Q = Q d := rfl
theorem w_itrue : OkI true P P' = P := by simp [OkI]
theorem w_ifalse : OkI false P P' = P' := by simp [OkI]
theorem dec_true {inst : Decidable True} : @decide True inst = true := by cases inst with
  | isTrue _ => rfl
  | isFalse h => exact absurd trivial h
theorem dec_false {inst : Decidable False} : @decide False inst = false := by cases inst with
  | isTrue h => exact h.elim
  | isFalse _ => rfl
theorem w_inot {b : Bool} : OkI (!b) P P' = OkI b P' P := by cases b <;> simp [OkI]
theorem w_idec {p : Prop} {inst : Decidable p} : OkI (@decide p inst) P P' = ((p → P) ∧ (¬ p → P')) := by simp [OkI]
theorem w_iall {b : Bool} : OkI b P P' = ((b = true → P) ∧ (b = false → P')) := rfl
theorem w_b {b : Bool} {Q : Bool → Prop} : OkB (.bl b) Q = Q b := rfl
theorem w_t {l : List D} {Q : List D → Prop} : OkT (some (.lst l)) Q = Q l := rfl
theorem w_loc {n : Nat} {Q : Nat → Prop} : OkLoc (.loc n) Q = Q n := rfl
theorem w_istr {n : Tx} {Q : Tx → Prop} : OkStr (.str n) Q = Q n := rfl
theorem w_iint {n : Int} {Q : Int → Prop} : OkInt (.int n) Q = Q n := rfl
theorem w_itup {n : List D} {Q : List D → Prop} : OkTup (.tup n) Q = Q n := rfl
theorem w_nx : OkS (.nx E S) N R XE B C = N E S := rfl
theorem w_rt {d : D} : OkS (.rt d S) N R XE B C = R d S := rfl
theorem w_bk : OkS (.bk E S) N R XE B C = B E S := rfl
theorem w_ct : OkS (.ct E S) N R XE B C = C E S := rfl
theorem w_sex {e : Exn} : OkS (.ex e E S) N R XE B C = XE e E S := rfl
theorem w_bind {β : Type} {o : Out α} {f : α → Sto → Out β} {Q : β → Sto → Prop} : OkO (o.bind f) Q X = OkO o (fun a S1 => OkO (f a S1) Q X) X := by
  cases o <;> rfl
theorem w_toS {o : Out α} {f : α → Sto → SO} : OkS (o.toS E f) N R XE B C = OkO o (fun a S1 => OkS (f a S1) N R XE B C) (fun e S1 => XE e E S1) := by
  cases o <;> rfl
end
section
variable {Q : D → Sto → Prop} {QB : Bool → Sto → Prop} {QL : List D → Sto → Prop} {QO : Option Int → Sto → Prop} {QE : Evn → Sto → Prop} {QI : ItD → Sto → Prop} {P P' : Prop} {N B C : EC} {R : D → Sto → Prop} {X : Exn → Sto → Prop} {XE : Exn → EC} {E : Evn} {S : Sto}
variable {a b : ME} {ma : MA} {ta tb : MT} {sa sb : MS}
theorem w_var {i : Nat} : OkO (mVar i E S) Q X = OkV E[i]? fun d => Q d S := by
  unfold mVar OkV OkO
  cases E[i]? with
  | none => rfl
  | some o => cases o <;> rfl
theorem w_c {d : D} : OkO (mC d E S) Q X = Q d S := rfl
theorem opt_ok {o : Option D} {S2 : Sto} : OkO (match o with | some d => Out.ok d S2 | none => Out.bad) Q X = OkP o fun d => Q d S2 := by cases o <;> rfl
theorem OkO_fun {α : Type} {o : Out α} {Q Q' : α → Sto → Prop} (h : ∀ a S, Q a S = Q' a S) : OkO o Q X = OkO o Q' X := by
  cases o <;> first | rfl | exact h _ _
theorem w_bin {g : Sto → D → D → Option D} : OkO (mBin g a b E S) Q X = OkO (a E S) (fun x S1 => OkO (b E S1) (fun y S2 => OkP (g S2 x y) fun d => Q d S2) X) X := by
  unfold mBin; exact w_bind.trans (OkO_fun fun _ _ => w_bind.trans (OkO_fun fun _ _ => opt_ok))
theorem w_un {g : Sto → D → Option D} : OkO (mUn g a E S) Q X = OkO (a E S) (fun x S1 => OkP (g S1 x) fun d => Q d S1) X := by
  unfold mUn; simp only [w_bind]; exact OkO_fun fun _ _ => opt_ok
theorem w_bi {g : Sto → List D → Option D} : OkO (mB g ma E S) Q X = OkO (ma E S) (fun x S1 => OkP (g S1 x) fun d => Q d S1) X := by
  unfold mB; simp only [w_bind]; exact OkO_fun fun _ _ => opt_ok
theorem w_nil : OkO (mNil E S) QL X = QL [] S := rfl
theorem w_cons : OkO (mCons a ma E S) QL X = OkO (a E S) (fun x S1 => OkO (ma E S1) (fun xs S2 => QL (x :: xs) S2) X) X := by
  unfold mCons; exact w_bind.trans (OkO_fun fun _ _ => w_bind.trans rfl)
theorem w_tup : OkO (mTup ma E S) Q X = OkO (ma E S) (fun xs S1 => sizeOk xs.length ∧ OkN (.tup xs) fun d => Q d S1) X := by
  unfold mTup; exact w_bind.trans (OkO_fun fun _ _ => w_itebad (inst := Classical.propDecidable _))
theorem w_lst : OkO (mLst ma E S) Q X = OkO (ma E S) (fun xs S1 => sizeOk xs.length ∧ OkN (.lst xs) fun d => Q d S1) X := by
  unfold mLst; exact w_bind.trans (OkO_fun fun _ _ => w_itebad (inst := Classical.propDecidable _))
theorem w_lloc : OkO (mLoc ma E S) Q X = OkO (ma E S) (fun xs S1 => sizeOk xs.length ∧ OkN (S1 ++ [.lst xs]) fun S2 => Q (.loc S1.length) S2) X := by
  unfold mLoc; exact w_bind.trans (OkO_fun fun _ _ => w_itebad (inst := Classical.propDecidable _))
theorem w_call {f : MF} : OkO (mCall f ma E S) Q X = OkO (ma E S) (fun ds S1 => OkO (f ds S1) Q X) X := by
  unfold mCall; exact w_bind
theorem w_asB : OkO (asB a E S) QB X = OkO (a E S) (fun d S1 => OkB d fun b => QB b S1) X := by
  unfold asB; simp only [w_bind]; refine OkO_fun fun d S1 => ?_; cases d <;> rfl
theorem w_and : OkO (mAnd ta tb E S) QB X = OkO (ta E S) (fun x S1 => OkI x (OkO (tb E S1) QB X) (QB false S1)) X := by
  unfold mAnd; simp only [w_bind]; refine OkO_fun fun x S1 => ?_; cases x <;> simp [OkI, w_ok]
theorem w_or : OkO (mOr ta tb E S) QB X = OkO (ta E S) (fun x S1 => OkI x (QB true S1) (OkO (tb E S1) QB X)) X := by
  unfold mOr; simp only [w_bind]; refine OkO_fun fun x S1 => ?_; cases x <;> simp [OkI, w_ok]
theorem w_not : OkO (mNot ta E S) QB X = OkO (ta E S) (fun x S1 => QB (!x) S1) X := by
  unfold mNot; exact w_bind
theorem w_andV : OkO (mAndV a b E S) Q X = OkO (a E S) (fun x S1 => OkB x fun k => OkI k (OkO (b E S1) Q X) (Q (.bl false) S1)) X := by
  unfold mAndV; simp only [w_bind]; refine OkO_fun fun x S1 => ?_
  cases x with
  | bl k => cases k <;> simp [OkB, OkI, w_ok]
  | _ => rfl
theorem w_orV : OkO (mOrV a b E S) Q X = OkO (a E S) (fun x S1 => OkB x fun k => OkI k (Q (.bl true) S1) (OkO (b E S1) Q X)) X := by
  unfold mOrV; simp only [w_bind]; refine OkO_fun fun x S1 => ?_
  cases x with
  | bl k => cases k <;> simp [OkB, OkI, w_ok]
  | _ => rfl
theorem w_notV : OkO (mNotV a E S) Q X = OkO (a E S) (fun x S1 => OkB x fun k => Q (.bl (!k)) S1) X := by
  unfold mNotV; simp only [w_bind]; refine OkO_fun fun x S1 => ?_
  cases x with
  | bl k => rfl
  | _ => rfl
theorem w_ifE : OkO (mIfE ta a b E S) Q X = OkO (ta E S) (fun x S1 => OkI x (OkO (a E S1) Q X) (OkO (b E S1) Q X)) X := by
  unfold mIfE; simp only [w_bind]; refine OkO_fun fun x S1 => ?_; cases x <;> simp [OkI]
theorem w_sl {g : Sto → D → Option Int → Option Int → Option D} {lo hi : MO} : OkO (mSl g a lo hi E S) Q X = OkO (a E S) (fun x S1 => OkO (lo E S1) (fun l S2 => OkO (hi E S2) (fun u S3 => OkP (g S3 x l u) fun d => Q d S3) X) X) X := by
  unfold mSl; exact w_bind.trans (OkO_fun fun _ _ => w_bind.trans (OkO_fun fun _ _ => w_bind.trans (OkO_fun fun _ _ => opt_ok)))
theorem w_nopart : OkO (mNoPart E S) QO X = QO none S := rfl
theorem w_part : OkO (mPart a E S) QO X = OkO (a E S) (fun d S1 => OkInt d fun i => QO (some i) S1) X := by
  unfold mPart; simp only [w_bind]; refine OkO_fun fun x S1 => ?_; cases x <;> rfl
theorem w_gN {i : Nat} {d : D} : OkO (gN i d E S) QE X = OkN (E.set i (some d)) fun E' => QE E' S := rfl
theorem w_gT {n : Nat} {g : MGs} {d : D} : OkO (gT n g d E S) QE X = OkTup d fun xs => xs.length = n ∧ OkO (g xs E S) QE X := by
  cases d <;> first | rfl | (unfold gT OkTup; simp only [w_itebad])
theorem w_gsNil : OkO (gsNil [] E S) QE X = QE E S := rfl
theorem noex_imp {β : Type} {o : Out β} {Q : β → Sto → Prop} : OkO o.noex Q X = OkO o Q (fun _ _ => False) := by cases o <;> rfl
theorem w_gsCons {g : MG} {r : MGs} {d : D} {ds : List D} : OkO (gsCons g r (d :: ds) E S) QE X = OkO (g d E S) (fun E' S' => OkO (r ds E' S') QE fun _ _ => False) X := by
  show OkO ((g d E S).bind fun E' S' => (r ds E' S').noex) QE X = _
  exact w_bind.trans (OkO_fun fun _ _ => noex_imp)
theorem w_gI {o i : ME} {d : D} : OkO (gI o i d E S) QE X = OkO (o E S) (fun x S1 => OkO (i E S1) (fun k S2 => OkLoc x fun n => OkInt k fun k => OkT S2[n]? fun l => OkP (ixD l.length k) fun j => OkN (S2.set n (.lst (l.set j d))) fun S3 => QE E S3) X) X := by
  unfold gI; simp only [w_bind]; refine OkO_fun fun x S1 => ?_; refine w_bind.trans (OkO_fun fun k S2 => ?_)
  cases x <;> first | rfl | skip
  cases k <;> first | rfl | skip
  simp only [OkLoc, OkInt]
  rename_i n k
  cases S2[n]? with
  | none => rfl
  | some o =>
    cases o <;> first | rfl | skip
    simp only [OkT]
    rename_i l
    cases ixD l.length k <;> rfl
theorem w_sm {g : Sto → Tx → List D → Option D} {o : ME} : OkO (mSM g o ma E S) Q X = OkO (o E S) (fun x S1 => OkStr x fun z => OkO (ma E S1) (fun xs S2 => OkP (g S2 z xs) fun d => Q d S2) X) X := by
  rw [a_sm]; simp only [w_bind]; refine OkO_fun fun x S1 => ?_
  cases x <;> first | rfl | (simp only [w_bind]; exact OkO_fun fun _ _ => opt_ok)
theorem w_lm {g : GL} {o : ME} : OkO (mLM g o ma E S) Q X = OkO (o E S) (fun x S1 => OkLoc x fun n => OkT S1[n]? fun _ => OkO (ma E S1) (fun xs S2 => OkT S2[n]? fun l => OkP (g S2 l xs) fun p => OkN (S2.set n (.lst p.2)) fun S3 => Q p.1 S3) X) X := by
  rw [a_lm]; simp only [w_bind]; refine OkO_fun fun x S1 => ?_
  cases x <;> first | rfl | skip
  simp only [OkLoc]
  rename_i n
  cases S1[n]? with
  | none => rfl
  | some o =>
    cases o <;> first | rfl | skip
    simp only [OkT, w_bind]
    refine OkO_fun fun xs S2 => ?_
    cases S2[n]? with
    | none => rfl
    | some o =>
      cases o <;> first | rfl | skip
      simp only
      rename_i l
      cases g S2 l xs with
      | none => rfl
      | some p => rfl
theorem w_yes : OkO (mYes E S) QB X = QB true S := rfl
/-! statements -/
theorem w_seq : OkS (mSeq sa sb E S) N R XE B C = OkS (sa E S) (fun E' S' => OkS (sb E' S') N R XE B C) R XE B C := by
  unfold mSeq; cases sa E S <;> rfl
theorem w_skip : OkS (mSkip E S) N R XE B C = N E S := rfl
theorem w_break : OkS (mBreak E S) N R XE B C = B E S := rfl
theorem w_cont : OkS (mCont E S) N R XE B C = C E S := rfl
theorem w_if : OkS (mIf ta sa sb E S) N R XE B C = OkO (ta E S) (fun x S1 => OkI x (OkS (sa E S1) N R XE B C) (OkS (sb E S1) N R XE B C)) (fun e S1 => XE e E S1) := by
  unfold mIf; simp only [w_toS]; refine OkO_fun fun x S1 => ?_; cases x <;> simp [OkI]
theorem w_ret : OkS (mRet a E S) N R XE B C = OkO (a E S) (fun d S1 => R d S1) (fun e S1 => XE e E S1) := by
  unfold mRet; exact w_toS.trans rfl
theorem w_retN : OkS (mRetN E S) N R XE B C = R .non S := rfl
theorem w_drop : OkS (mDrop a E S) N R XE B C = OkO (a E S) (fun d S1 => N E S1) (fun e S1 => XE e E S1) := by
  unfold mDrop; exact w_toS.trans rfl
theorem w_set {i : Nat} : OkS (mSet i a E S) N R XE B C = OkO (a E S) (fun d S1 => OkN (E.set i (some d)) fun E' => N E' S1) (fun e S1 => XE e E S1) := by
  unfold mSet; exact w_toS.trans rfl
theorem w_asg {g : MG} : OkS (mAsg a g E S) N R XE B C = OkO (a E S) (fun d S1 => OkO (g d E S1) (fun E' S2 => N E' S2) (fun e S1 => XE e E S1)) (fun e S1 => XE e E S1) := by
  unfold mAsg; exact w_toS.trans (OkO_fun fun _ _ => w_toS.trans rfl)
theorem w_aug {i : Nat} {g : Sto → D → D → Option D} : OkS (mAug i g a E S) N R XE B C = OkV E[i]? fun x => OkO (a E S) (fun y S1 => OkP (g S1 x y) fun d => OkN (E.set i (some d)) fun E' => N E' S1) (fun e S1 => XE e E S1) := by
  rw [a_aug]
  cases E[i]? with
  | none => rfl
  | some o =>
    cases o with
    | none => rfl
    | some x =>
      simp only [OkV, w_toS]
      refine OkO_fun fun y S1 => ?_
      cases g S1 x y <;> rfl
theorem w_raise {e : Exn} : OkS (mRaise e E S) N R XE B C = XE e E S := rfl
theorem w_for {it : MI} {g : MG} : OkS (mFor it g sa E S) N R XE B C = OkO (it E S) (fun i S1 => OkS (forD i.chk g sa i.items E S1) N R XE B C) (fun e S1 => XE e E S1) := by
  unfold mFor; exact w_toS
/-! iterables -/
open Classical in
theorem w_range1 : OkO (iRange1 ma E S) QI X = OkO (ma E S) (fun ds S1 => OkP (int1 ds) fun j => small62 j ∧ QI ⟨rngD 0 j.toNat, none⟩ S1) X := by
  rw [a_range1]; simp only [w_bind]; refine OkO_fun fun ds S1 => ?_
  cases int1 ds with
  | none => rfl
  | some j => simp only [w_itebad, w_ok, w_some]
open Classical in
theorem w_range2 : OkO (iRange2 ma E S) QI X = OkO (ma E S) (fun ds S1 => OkP (int2 ds) fun p => (small62 p.1 ∧ small62 p.2) ∧ QI ⟨rngD p.1 (p.2 - p.1).toNat, none⟩ S1) X := by
  rw [a_range2]; simp only [w_bind]; refine OkO_fun fun ds S1 => ?_
  cases int2 ds with
  | none => rfl
  | some j => simp only [w_itebad, w_ok, w_some]
open Classical in
theorem w_range3 : OkO (iRange3 ma E S) QI X = OkO (ma E S) (fun ds S1 => OkP (int3 ds) fun p => rgOk p.1 p.2.1 p.2.2 ∧ QI ⟨rngC p.1 p.2.2 (rgN p.1 p.2.1 p.2.2), none⟩ S1) X := by
  rw [a_range3]; simp only [w_bind]; refine OkO_fun fun ds S1 => ?_
  cases int3 ds with
  | none => rfl
  | some j => simp only [w_itebad, w_ok, w_some]
/-- what a loop walks -/
def itS (S : Sto) : D → Option ItD
  | .str z => some ⟨z.map fun c => .str [c], none⟩
  | .tup xs => some ⟨xs, none⟩
  | .lst xs => some ⟨xs, none⟩
  | .fz xs => some ⟨xs, none⟩
  | .loc n => match S[n]? with
    | some (.lst xs) => some ⟨xs, some (n, xs)⟩
    | _ => none
  | _ => none
theorem w_iany : OkO (iAny a E S) QI X = OkO (a E S) (fun d S1 => OkP (itS S1 d) fun i => QI i S1) X := by
  rw [a_iany]; simp only [w_bind]; refine OkO_fun fun d S1 => ?_
  cases d <;> first | rfl | skip
  simp only [a_iseq, a_c, bind_ok, itS]
  rename_i n
  cases S1[n]? with
  | none => rfl
  | some o => cases o <;> rfl
theorem w_itstr {z : Tx} : itS S (.str z) = some ⟨z.map fun c => .str [c], none⟩ := rfl
theorem w_ittup {z : List D} : itS S (.tup z) = some ⟨z, none⟩ := rfl
theorem w_itlst {z : List D} : itS S (.lst z) = some ⟨z, none⟩ := rfl
theorem w_itfz {z : List D} : itS S (.fz z) = some ⟨z, none⟩ := rfl
theorem w_itloc {n : Nat} {z : List D} (h : S[n]? = some (.lst z)) : itS S (.loc n) = some ⟨z, some (n, z)⟩ := by simp only [itS, h]
theorem w_comp {it : MI} {one : Bool} {is vs : List Nat} : OkO (mComp it one is vs ta a E S) Q X = OkO (it E S) (fun i S1 => OkO (compD i.chk one is ta a (wipeE E vs) S1 i.items []) (fun xs S2 => Q (.lst xs) S2) X) X := by
  rw [a_comp]; exact w_bind.trans (OkO_fun fun _ _ => w_bind.trans rfl)
theorem w_repl {y z : Tx} : OkO (mRepl y z a E S) Q X = OkO (a E S) (fun x S1 => OkStr x fun t => replOk t z ∧ OkN (.str (StrLaws.replL y z t)) fun d => Q d S1) X := by
  unfold mRepl; simp only [w_bind]; refine OkO_fun fun x S1 => ?_
  cases x <;> first | rfl | (simp only [w_itebad, w_ok, w_istr, w_n])
theorem w_tryAs {tbl : List (String × Bool)} {i : Nat} {su : Exn → MS} : OkS (mTryAs sa tbl i su E S) N R XE B C =
    OkS (sa E S) N R (fun e E1 S1 => OkP (takesE tbl e) fun k => OkI k (i < E1.length ∧ OkN (E1.set i (some .exo)) fun E3 => OkS (su e E3 S1) (fun E2 S2 => OkN (E2.set i none) fun E4 => N E4 S2) R (fun _ _ _ => False) (fun E2 S2 => B (E2.set i none) S2) (fun E2 S2 => C (E2.set i none) S2)) (XE e E1 S1)) B C := by
  unfold mTryAs
  cases sa E S with
  | ex e E1 S1 =>
    simp only [OkS]
    cases takesE tbl e with
    | none => rfl
    | some k =>
      cases k with
      | false => simp [OkP, OkI]
      | true =>
        simp only [w_some, w_itrue]
        by_cases hi : i < E1.length
        · simp only [if_pos hi, hi, true_and, w_n, if_true]
          cases su e (E1.set i (some .exo)) S1 <;> rfl
        · simp only [hi, false_and, if_false]
  | _ => rfl
theorem w_tryOnly {tbl : List (String × Bool)} {su : Exn → MS} : OkS (mTryOnly sa tbl su E S) N R XE B C =
    OkS (sa E S) N R (fun e E1 S1 => OkP (takesE tbl e) fun k => OkI k (OkS (su e E1 S1) N R (fun _ _ _ => False) B C) (XE e E1 S1)) B C := by
  unfold mTryOnly
  cases sa E S with
  | ex e E1 S1 =>
    simp only [OkS]
    cases takesE tbl e with
    | none => rfl
    | some k =>
      cases k with
      | false => simp [OkP, OkI]
      | true =>
        simp only [w_some, w_itrue]
        cases su e E1 S1 <;> rfl
  | _ => rfl
theorem w_exis {e : Exn} {tbl : List (String × Bool)} : OkO (mExIs e tbl E S) Q X = (e.fs = none ∧ OkP (takesE tbl e) fun b => Q (.bl b) S) := by
  unfold mExIs
  cases e.fs with
  | some fs => simp [OkO]
  | none =>
    simp only [true_and]
    cases takesE tbl e <;> rfl
/-! a def -/
theorem w_run {n : Nat} {ds : List D} : OkO (runB n sa ds S) Q X = OkN (ds.map some ++ List.replicate (n - ds.length) none) fun E => OkS (sa E S) (fun _ S' => Q .non S') (fun d S' => Q d S') (fun e _ S' => X e S') (fun _ _ => False) (fun _ _ => False) := by
  rw [a_run, w_n]
  cases sa (ds.map some ++ List.replicate (n - ds.length) none) S <;> rfl
theorem w_trim {o : Out D} (h : OkO o (fun d S' => ∃ T, S' = S ++ T ∧ lb S.length d = true ∧ Q d S) (fun e S' => e.fs = none ∧ ∃ T, S' = S ++ T ∧ X e S)) : OkO (trim S o) Q X := by
  cases o with
  | ok d S' =>
    obtain ⟨T, rfl, h1, h2⟩ := h
    rw [trim_ok h1]
    exact h2
  | ex e S' =>
    obtain ⟨h0, T, rfl, h2⟩ := h
    obtain ⟨c, fs⟩ := e
    simp only at h0
    subst h0
    rw [trim_exN]
    exact h2
  | bad => exact h
theorem ok_imp {α : Type} {o : Out α} {Q Q' : α → Sto → Prop} {X X' : Exn → Sto → Prop} (h : OkO o Q X) (q : ∀ a S, Q a S → Q' a S) (x : ∀ e S, X e S → X' e S) : OkO o Q' X' := by
  cases o with
  | ok a S => exact q _ _ h
  | ex e S => exact x _ _ h
  | bad => exact h
theorem oks_imp {o : SO} {N' B' C' : EC} {R' : D → Sto → Prop} {XE' : Exn → EC} (h : OkS o N R XE B C) (hn : ∀ E S, N E S → N' E S) (hr : ∀ d S, R d S → R' d S) (hx : ∀ e E S, XE e E S → XE' e E S) (hb : ∀ E S, B E S → B' E S) (hc : ∀ E S, C E S → C' E S) : OkS o N' R' XE' B' C' := by
  cases o with
  | nx E S => exact hn _ _ h
  | rt d S => exact hr _ _ h
  | bk E S => exact hb _ _ h
  | ct E S => exact hc _ _ h
  | ex e E S => exact hx _ _ _ h
  | bad => exact h
/-- from what is wanted to the outcome itself -/
theorem ok_out {α : Type} {o r : Out α} (h : OkO o (fun d S' => Out.ok d S' = r) (fun e S' => Out.ex e S' = r)) : o = r := by
  cases o with
  | ok a S => exact h
  | ex e S => exact h
  | bad => exact h.elim
theorem ok_of {α : Type} {o : Out α} {d : α} {S' : Sto} {Q : α → Sto → Prop} (h : o = .ok d S') (q : Q d S') : OkO o Q X := by rw [h]; exact q
theorem ok_get {α : Type} {o : Out α} {Q : α → Sto → Prop} (h : OkO o Q (fun _ _ => False)) : ∃ d S', o = .ok d S' ∧ Q d S' := by
  cases o with
  | ok a S => exact ⟨a, S, rfl, h⟩
  | ex e S => exact h.elim
  | bad => exact h.elim
/-! loops -/
theorem ok_forC {c : Option (Nat × List D)} {g : MG} {b : MS} : ∀ (l : List D) (P : Nat → EC) (n : Nat) (E : Evn) (S : Sto) (_ : P n E S)
    (_ : ∀ i E S, P i E S → chkOk c S)
    (_ : ∀ i x E S, l[i]? = some x → P (n + i) E S → OkO (g x E S) (fun E1 S1 => OkS (b E1 S1) (P (n + i + 1)) R XE N (P (n + i + 1))) (fun e S' => XE e E S'))
    (_ : ∀ E S, P (n + l.length) E S → N E S), OkS (forD c g b l E S) N R XE B C
  | [], P, n, E, S, h0, hc, hs, he => by
    rw [forD, if_pos (hc _ _ _ h0)]
    exact he E S h0
  | x :: l, P, n, E, S, h0, hc, hs, he => by
    rw [forD, if_pos (hc _ _ _ h0), w_toS]
    refine ok_imp (hs 0 x E S rfl h0) (fun E1 S1 h1 => ?_) (fun e S' h => h)
    have ih := fun E2 S2 (p : P (n + 1) E2 S2) => ok_forC (c := c) (g := g) (b := b) l P (n + 1) E2 S2 p hc (fun i y E S e p => by
      have := hs (i + 1) y E S (by simpa using e) (by rw [show n + (i + 1) = n + 1 + i by omega]; exact p)
      rw [show n + (i + 1) + 1 = n + 1 + i + 1 by omega] at this
      exact this) (fun E S p => he E S (by rw [List.length_cons, show n + (l.length + 1) = n + 1 + l.length by omega]; exact p))
    cases hb : b E1 S1 with
    | nx E2 S2 => rw [hb] at h1; exact ih E2 S2 h1
    | ct E2 S2 => rw [hb] at h1; exact ih E2 S2 h1
    | bk E2 S2 => rw [hb] at h1; exact h1
    | rt d S2 => rw [hb] at h1; exact h1
    | ex e E2 S2 => rw [hb] at h1; exact h1
    | bad => rw [hb] at h1; exact h1
theorem ok_for {g : MG} {b : MS} {l : List D} (P : Nat → EC) (h0 : P 0 E S)
    (hs : ∀ i x E S, l[i]? = some x → P i E S → OkO (g x E S) (fun E1 S1 => OkS (b E1 S1) (P (i + 1)) R XE N (P (i + 1))) (fun e S' => XE e E S'))
    (he : ∀ E S, P l.length E S → N E S) : OkS (forD none g b l E S) N R XE B C :=
  ok_forC l P 0 E S h0 (fun _ _ _ _ => trivial) (fun i x E S e p => by rw [Nat.zero_add] at p ⊢; exact hs i x E S e p) (fun E S p => he E S (by simpa using p))
theorem ok_forL {g : MG} {b : MS} {l : List D} {m : Nat} {xs : List D} (P : Nat → EC) (h0 : P 0 E S) (hc : ∀ i E S, P i E S → S[m]? = some (.lst xs))
    (hs : ∀ i x E S, l[i]? = some x → P i E S → OkO (g x E S) (fun E1 S1 => OkS (b E1 S1) (P (i + 1)) R XE N (P (i + 1))) (fun e S' => XE e E S'))
    (he : ∀ E S, P l.length E S → N E S) : OkS (forD (some (m, xs)) g b l E S) N R XE B C :=
  ok_forC l P 0 E S h0 (fun i E S p => hc i E S p) (fun i x E S e p => by rw [Nat.zero_add] at p ⊢; exact hs i x E S e p) (fun E S p => he E S (by simpa using p))
theorem ok_forR {g : MG} {b : MS} {lo : Int} {n : Nat} (P : Nat → EC) (h0 : P 0 E S)
    (hs : ∀ i E S, i < n → P i E S → OkO (g (.int (lo + (i : Int))) E S) (fun E1 S1 => OkS (b E1 S1) (P (i + 1)) R XE N (P (i + 1))) (fun e S' => XE e E S'))
    (he : ∀ E S, P n E S → N E S) : OkS (forD none g b (rngD lo n) E S) N R XE B C :=
  ok_for P h0 (fun i x E S e p => by
    obtain ⟨h1, rfl⟩ := rng_get e
    exact hs i E S h1 p) (fun E S p => he E S (by rwa [rng_len] at p))
/-- over the signs of a text -/
theorem ok_forT {g : MG} {b : MS} {z : Tx} (P : Nat → EC) (h0 : P 0 E S)
    (hs : ∀ i c E S, z[i]? = some c → P i E S → OkO (g (.str [c]) E S) (fun E1 S1 => OkS (b E1 S1) (P (i + 1)) R XE N (P (i + 1))) (fun e S' => XE e E S'))
    (he : ∀ E S, P z.length E S → N E S) : OkS (forD none g b (z.map fun c => .str [c]) E S) N R XE B C :=
  ok_for P h0 (fun i x E S e p => by
    rw [List.getElem?_map, Option.map_eq_some_iff] at e
    obtain ⟨c, h1, rfl⟩ := e
    exact hs i c E S h1 p) (fun E S p => he E S (by simpa using p))
/-- a row of anything, told by a function -/
theorem ok_forM {α : Type} {g : MG} {b : MS} {f : α → D} {l : List α} (P : Nat → EC) (h0 : P 0 E S)
    (hs : ∀ i x E S, l[i]? = some x → P i E S → OkO (g (f x) E S) (fun E1 S1 => OkS (b E1 S1) (P (i + 1)) R XE N (P (i + 1))) (fun e S' => XE e E S'))
    (he : ∀ E S, P l.length E S → N E S) : OkS (forD none g b (l.map f) E S) N R XE B C :=
  ok_for P h0 (fun i x E S e p => by
    rw [List.getElem?_map, Option.map_eq_some_iff] at e
    obtain ⟨c, h1, rfl⟩ := e
    exact hs i c E S h1 p) (fun E S p => he E S (by simpa using p))
theorem ok_while {c : MT} {b : MS} (P : Nat → EC)
    (hs : ∀ n E S, P n E S → OkO (c E S) (fun x S1 => OkI x (OkS (b E S1) (fun E2 S2 => ∃ m, m < n ∧ P m E2 S2) R XE N (fun E2 S2 => ∃ m, m < n ∧ P m E2 S2)) (N E S1)) (fun _ _ => False)) :
    ∀ (n : Nat) (E : Evn) (S : Sto), P n E S → OkS (mWhile c b E S) N R XE B C := by
  intro n
  induction n using Nat.strongRecOn with
  | ind n ih =>
    intro E S p
    have h := hs n E S p
    cases hc : c E S with
    | bad => rw [hc] at h; exact h.elim
    | ex e S1 => rw [hc] at h; exact h.elim
    | ok x S1 =>
      rw [hc, w_ok] at h
      cases x with
      | false =>
        rw [w_ifalse] at h
        rw [mWhile_done hc]
        exact h
      | true =>
        rw [w_itrue] at h
        cases hb : b E S1 with
        | bad => rw [hb] at h; exact h.elim
        | nx E2 S2 =>
          rw [hb] at h
          obtain ⟨m, hm, p2⟩ := h
          rw [mWhile_step hc hb]
          exact ih m hm E2 S2 p2
        | ct E2 S2 =>
          rw [hb] at h
          obtain ⟨m, hm, p2⟩ := h
          rw [mWhile_stepC hc hb]
          exact ih m hm E2 S2 p2
        | bk E2 S2 => rw [hb] at h; rw [mWhile_brk hc hb]; exact h
        | rt d S2 => rw [hb] at h; rw [mWhile_ret hc hb]; exact h
        | ex e E2 S2 => rw [hb] at h; rw [mWhile_exc hc hb]; exact h
/-- a comprehension whose turns leave the store as it is -/
theorem ok_compC {α : Type} {one : Bool} {is : List Nat} {t : MT} {e : ME} {E0 : Evn} {S0 : Sto} (g : α → D) (p : α → Bool) (f : α → D) : ∀ (xs : List α) (acc : List D) (_ : sizeOk (acc.length + xs.length))
    (_ : ∀ x ∈ xs, ∀ acc, OkP (stN one is (g x) E0) fun E1 => OkO (t E1 (S0 ++ [.lst acc])) (fun b S' => S' = S0 ++ [.lst acc] ∧ b = p x ∧ (b = true → OkO (e E1 (S0 ++ [.lst acc])) (fun y S' => S' = S0 ++ [.lst acc] ∧ lb S0.length y = true ∧ y = f x) (fun _ _ => False))) (fun _ _ => False)),
    compD none one is t e E0 S0 (xs.map g) acc = .ok (acc ++ (xs.filter p).map f) S0
  | [], acc, _, _ => by rw [List.map_nil, compD, if_pos (show chkOk none _ from trivial)]; simp
  | x :: l, acc, hz, h => by
    have h0 := h x List.mem_cons_self acc
    have hz1 : sizeOk (acc.length + l.length) := by unfold sizeOk at *; simp only [List.length_cons] at hz; omega
    rw [List.map_cons, compD, if_pos (show chkOk none _ from trivial)]
    cases h1 : stN one is (g x) E0 with
    | none => rw [h1] at h0; exact h0.elim
    | some E1 =>
      rw [h1, w_some] at h0
      simp only
      cases h2 : t E1 (S0 ++ [.lst acc]) with
      | bad => rw [h2] at h0; exact h0.elim
      | ex _ _ => rw [h2] at h0; exact h0.elim
      | ok b S1 =>
        rw [h2, w_ok] at h0
        obtain ⟨rfl, rfl, h3⟩ := h0
        simp only
        rw [if_pos trivial]
        cases hp : p x with
        | false =>
          rw [if_neg (by simp), ok_compC g p f l acc hz1 fun y hy => h y (List.mem_cons_of_mem _ hy)]
          simp [List.filter_cons, hp]
        | true =>
          have h4 := h3 hp
          rw [if_pos rfl]
          cases h5 : e E1 (S0 ++ [.lst acc]) with
          | bad => rw [h5] at h4; exact h4.elim
          | ex _ _ => rw [h5] at h4; exact h4.elim
          | ok y S2 =>
            rw [h5, w_ok] at h4
            obtain ⟨rfl, h6, rfl⟩ := h4
            simp only
            rw [if_pos ⟨rfl, h6, by unfold sizeOk at *; simp only [List.length_cons] at hz; omega⟩, ok_compC g p f l _ (by unfold sizeOk at *; simp only [List.length_cons, List.length_append, List.length_nil] at hz ⊢; omega) fun y hy => h y (List.mem_cons_of_mem _ hy)]
            simp [List.filter_cons, hp]
theorem ok_comp {α : Type} {one : Bool} {is : List Nat} {t : MT} {e : ME} {E0 : Evn} {S0 : Sto} {QL : List D → Sto → Prop} {xs : List α} {g : α → D} (p : α → Bool) (f : α → D) (hz : xs.length ≤ 16777216)
    (h : ∀ x ∈ xs, ∀ acc, OkP (stN one is (g x) E0) fun E1 => OkO (t E1 (S0 ++ [.lst acc])) (fun b S' => S' = S0 ++ [.lst acc] ∧ b = p x ∧ (b = true → OkO (e E1 (S0 ++ [.lst acc])) (fun y S' => S' = S0 ++ [.lst acc] ∧ lb S0.length y = true ∧ y = f x) (fun _ _ => False))) (fun _ _ => False))
    (q : QL ((xs.filter p).map f) S0) : OkO (compD none one is t e E0 S0 (xs.map g) []) QL X := by
  rw [ok_compC g p f xs [] (sizeOk_of (by simpa using hz)) h]
  exact q
theorem w_stN1 {i : Nat} {x : D} {E : Evn} : stN true [i] x E = some (E.set i (some x)) := rfl
theorem w_stN2 {i j : Nat} {a b : D} {E : Evn} : stN false [i, j] (.tup [a, b]) E = some ((E.set i (some a)).set j (some b)) := rfl
theorem w_stN3 {i j k : Nat} {a b c : D} {E : Evn} : stN false [i, j, k] (.tup [a, b, c]) E = some (((E.set i (some a)).set j (some b)).set k (some c)) := rfl
theorem w_wipe0 {E : Evn} : wipeE E [] = E := rfl
theorem w_wipe1 {E : Evn} {v : Nat} {vs : List Nat} : wipeE E (v :: vs) = (wipeE E vs).set v none := rfl
/-- a cut between two statements -/
theorem ok_cut (M : EC) (h1 : OkS (sa E S) M R XE B C) (h2 : ∀ E' S', M E' S' → OkS (sb E' S') N R XE B C) : OkS (mSeq sa sb E S) N R XE B C := by
  rw [w_seq]
  exact oks_imp h1 (fun E S p => h2 E S p) (fun _ _ h => h) (fun _ _ _ h => h) (fun _ _ h => h) (fun _ _ h => h)
/-- the store's new things -/
theorem sto_at {T : Sto} {i : Nat} : (S ++ T)[S.length + i]? = T[i]? := by
  rw [List.getElem?_append_right (by omega)]
  congr 1; omega
theorem sto_at0 {T : Sto} : (S ++ T)[S.length]? = T[0]? := by
  rw [List.getElem?_append_right (by omega), Nat.sub_self]
theorem sto_put {T : Sto} {i : Nat} {x : Ob} : (S ++ T).set (S.length + i) x = S ++ T.set i x := by
  rw [List.set_append_right _ _ (by omega)]
  congr 2; omega
theorem sto_put0 {T : Sto} {x : Ob} : (S ++ T).set S.length x = S ++ T.set 0 x := by
  rw [List.set_append_right _ _ (by omega), Nat.sub_self]
end
end PD
namespace PD
open PySem PySem.Spec PyProof PyProof.Rows L2
/-! operators under OkP -/
theorem sIx_lo {n : Nat} {d : Nat} {i : Int} (h : 0 ≤ i) : HT.sIx n d (some i) = min i.toNat n := by
  show (if i < 0 then (i + (n : Int)).toNat else min i.toNat n) = _
  rw [if_neg (by omega)]
theorem sIx_neg {n : Nat} {d : Nat} {i : Int} (h : i < 0) : HT.sIx n d (some i) = (i + (n : Int)).toNat := by
  show (if i < 0 then (i + (n : Int)).toNat else min i.toNat n) = _
  rw [if_pos h]
theorem cut_to {α : Type} {z : List α} {i : Int} (h0 : 0 ≤ i) : cutL z none (some i) = z.take i.toNat := by
  unfold cutL
  rw [HT.sIx_none, List.drop_zero, sIx_lo h0, Nat.sub_zero]
  by_cases h : i.toNat ≤ z.length
  · rw [Nat.min_eq_left h]
  · rw [Nat.min_eq_right (by omega), List.take_of_length_le (by omega), List.take_of_length_le (by omega)]
theorem cut_from {α : Type} {z : List α} {i : Int} (h0 : 0 ≤ i) : cutL z (some i) none = z.drop i.toNat := by
  unfold cutL
  rw [sIx_lo h0, HT.sIx_none]
  by_cases h : i.toNat ≤ z.length
  · rw [Nat.min_eq_left h]
    exact List.take_of_length_le (by rw [List.length_drop]; exact Nat.le_refl _)
  · rw [Nat.min_eq_right (by omega), List.drop_eq_nil_of_le (show z.length ≤ i.toNat by omega), Nat.sub_self, List.take_zero]
theorem cut_mid {α : Type} {z : List α} {i j : Int} (h0 : 0 ≤ i) (h1 : 0 ≤ j) : cutL z (some i) (some j) = (z.drop i.toNat).take (j.toNat - i.toNat) := by
  unfold cutL
  rw [sIx_lo h0, sIx_lo h1]
  by_cases h : i.toNat ≤ z.length
  · rw [Nat.min_eq_left h]
    by_cases g : j.toNat ≤ z.length
    · rw [Nat.min_eq_left g]
    · rw [Nat.min_eq_right (by omega), List.take_of_length_le (by rw [List.length_drop]; exact Nat.le_refl _), List.take_of_length_le (by rw [List.length_drop]; omega)]
  · rw [Nat.min_eq_right (by omega : z.length ≤ i.toNat), List.drop_eq_nil_of_le (show z.length ≤ i.toNat by omega), List.drop_eq_nil_of_le (Nat.le_refl _)]
    simp
theorem cut_toN {α : Type} {z : List α} {i : Int} (h0 : i < 0) : cutL z none (some i) = z.take (z.length - (-i).toNat) := by
  unfold cutL
  rw [HT.sIx_none, List.drop_zero, sIx_neg h0, Nat.sub_zero]
  congr 1; omega
theorem cut_fromN {α : Type} {z : List α} {i : Int} (h0 : i < 0) : cutL z (some i) none = z.drop (z.length - (-i).toNat) := by
  unfold cutL
  rw [sIx_neg h0, HT.sIx_none, show (i + (z.length : Int)).toNat = z.length - (-i).toNat by omega]
  exact List.take_of_length_le (by rw [List.length_drop]; omega)
theorem cut_midN {α : Type} {z : List α} {i j : Int} (h0 : 0 ≤ i) (h1 : j < 0) : cutL z (some i) (some j) = (z.drop i.toNat).take (z.length - (-j).toNat - i.toNat) := by
  unfold cutL
  rw [sIx_lo h0, sIx_neg h1, show (j + (z.length : Int)).toNat = z.length - (-j).toNat by omega]
  by_cases h : i.toNat ≤ z.length
  · rw [Nat.min_eq_left h]
  · rw [Nat.min_eq_right (by omega : z.length ≤ i.toNat), List.drop_eq_nil_of_le (show z.length ≤ i.toNat by omega), List.drop_eq_nil_of_le (Nat.le_refl _)]
    simp
theorem cut_all {α : Type} {z : List α} : cutL z none none = z := by
  unfold cutL
  rw [HT.sIx_none, HT.sIx_none, List.drop_zero, Nat.sub_zero, List.take_length]
def ixT (z : Tx) (i : Int) : Option Nat := if 0 ≤ i then z[i.toNat]? else if -(z.length : Int) ≤ i then z[(i + z.length).toNat]? else none
theorem ixT_nat {z : Tx} {n : Nat} : ixT z (n : Int) = z[n]? := by unfold ixT; rw [if_pos (Int.natCast_nonneg n), Int.toNat_natCast]
theorem ixT_nn {z : Tx} {i : Int} (h : 0 ≤ i) : ixT z i = z[i.toNat]? := by unfold ixT; rw [if_pos h]
theorem ixT_ng {z : Tx} {i : Int} (h : i < 0) (h2 : i.natAbs ≤ z.length) : ixT z i = z[z.length - (-i).toNat]? := by
  unfold ixT
  rw [if_neg (by omega), if_pos (by omega)]
  congr 1; omega
theorem atD_nn {z : List D} {i : Int} (h : 0 ≤ i) : atD z i = z[i.toNat]? := by unfold atD; rw [if_pos h]
theorem atD_ng {z : List D} {i : Int} (h : i < 0) (h2 : i.natAbs ≤ z.length) : atD z i = z[z.length - (-i).toNat]? := by
  unfold atD
  rw [if_neg (by omega), if_pos (by omega)]
  congr 1; omega
theorem cN0 : ((0 : Nat) : Int) = 0 := rfl
theorem cN1 : ((1 : Nat) : Int) = 1 := rfl
theorem cN2 : ((2 : Nat) : Int) = 2 := rfl
theorem cN3 : ((3 : Nat) : Int) = 3 := rfl
theorem cN4 : ((4 : Nat) : Int) = 4 := rfl
theorem cN5 : ((5 : Nat) : Int) = 5 := rfl
theorem len_rep1 {α : Type} (n : Nat) (m : α) : ((List.replicate n [m]).flatten).length = n := by
  induction n with
  | zero => rfl
  | succ n ih => rw [List.replicate_succ, List.flatten_cons, List.length_append, ih]; simp; omega
theorem dwrap {p : Prop} (h : p) : p := h
/-- the texts of a row -/
def allStr : List D → Bool
  | [] => true
  | .str _ :: r => allStr r
  | _ :: _ => false
def strsOf : List D → List Tx
  | [] => []
  | .str x :: r => x :: strsOf r
  | _ :: r => strsOf r
theorem allStr_map (ys : List Tx) : allStr (ys.map D.str) = true := by induction ys with
  | nil => rfl
  | cons y r ih => exact ih
theorem strsOf_map (ys : List Tx) : strsOf (ys.map D.str) = ys := by induction ys with
  | nil => rfl
  | cons y r ih => rw [List.map_cons, strsOf, ih]
theorem allStr_nil : allStr [] = true := rfl
theorem allStr_cons {x : Tx} {r : List D} : allStr (.str x :: r) = allStr r := rfl
theorem strsOf_nil : strsOf [] = [] := rfl
theorem strsOf_cons {x : Tx} {r : List D} : strsOf (.str x :: r) = x :: strsOf r := rfl
theorem strL_of {xs : List D} (h : allStr xs = true) : strL xs = some (strsOf xs) := by
  induction xs with
  | nil => rfl
  | cons x r ih =>
    cases x with
    | str x => rw [strL, ih h, strsOf]; rfl
    | _ => exact absurd h (by simp [allStr])
/-- is a text among texts -/
def memB (x : Tx) (ys : List Tx) : Bool := decide (x ∈ ys)
theorem memB_iff {x : Tx} {ys : List Tx} : memB x ys = true ↔ x ∈ ys := by unfold memB; simp
theorem w_imem {x : Tx} {ys : List Tx} {P P' : Prop} : OkI (memB x ys) P P' = ((x ∈ ys → P) ∧ (¬ x ∈ ys → P')) := w_idec
theorem flD_all {xs : List D} (h : allStr xs = true) : xs.all flD = true := by
  induction xs with
  | nil => rfl
  | cons x r ih =>
    cases x with
    | str x => rw [List.all_cons, ih h]; rfl
    | _ => exact absurd h (by simp [allStr])
theorem teq_any {xs : List D} (h : allStr xs = true) (x : Tx) : (xs.any fun y => teq y (.str x)) = decide (x ∈ strsOf xs) := by
  induction xs with
  | nil => rfl
  | cons y r ih =>
    cases y with
    | str y =>
      rw [List.any_cons, ih h, strsOf, Bool.eq_iff_iff]
      simp only [teq, Bool.or_eq_true, decide_eq_true_eq, List.mem_cons]
      exact ⟨fun h => h.imp (fun h => h.symm) id, fun h => h.imp (fun h => h.symm) id⟩
    | _ => exact absurd h (by simp [allStr])
section
variable {Q : D → Prop} {S : Sto}
theorem p_ixS {z : Tx} {i : Int} : OkP (gIx S (.str z) (.int i)) Q = (sizeOk z.length ∧ OkP (ixT z i) fun c => Q (.str [c])) := by
  simp only [gIx, w_pitebad]
  unfold ixT
  congr 1
  generalize (if 0 ≤ i then z[i.toNat]? else if -(z.length : Int) ≤ i then z[(i + z.length).toNat]? else none) = o
  cases o <;> rfl
theorem p_slS {z : Tx} {lo hi : Option Int} : OkP (gSl S (.str z) lo hi) Q = (sizeOk z.length ∧ OkN (.str (cutL z lo hi)) Q) := by
  simp only [gSl, w_pitebad, w_some, w_n]
theorem p_split {z p : Tx} : OkP (gSplit S z [.str p]) Q = ((p ≠ [] ∧ p.all (· < 256) = true ∧ sizeOk (z.length + 2)) ∧ OkN (.lst ((TL.spl p 0 [] z).map D.str)) Q) := by
  simp only [gSplit, w_pitebad, w_some, w_n]
theorem p_joinL {z : Tx} {xs : List D} (h : allStr xs = true) : OkP (gJoin S z [.lst xs]) Q = (joinOk z (strsOf xs) ∧ OkN (.str (TL.joinL z (strsOf xs))) Q) := by
  simp only [gJoin, rowF, seqF, Option.bind_some, strL_of h, w_pitebad, w_some, w_n]
theorem p_joinT {z : Tx} {xs : List D} (h : allStr xs = true) : OkP (gJoin S z [.tup xs]) Q = (joinOk z (strsOf xs) ∧ OkN (.str (TL.joinL z (strsOf xs))) Q) := by
  simp only [gJoin, rowF, seqF, Option.bind_some, strL_of h, w_pitebad, w_some, w_n]
theorem p_joinC {z : Tx} {xs : List D} {n : Nat} (hs : S[n]? = some (.lst xs)) (h : allStr xs = true) : OkP (gJoin S z [.loc n]) Q = (joinOk z (strsOf xs) ∧ OkN (.str (TL.joinL z (strsOf xs))) Q) := by
  simp only [gJoin, rowF, seqF, hs, Option.bind_some, strL_of h, w_pitebad, w_some, w_n]
theorem p_zfill {z : Tx} {i : Int} : OkP (gZfill S z [.int i]) Q = (padOk i ∧ OkN (.str (zfillD z i)) Q) := by
  simp only [gZfill, w_pitebad, w_some, w_n]
theorem p_str {i : Int} : OkP (gStr S [.int i]) Q = (strOkI i ∧ OkN (.str (numT i)) Q) := by
  simp only [gStr, w_pitebad, w_some, w_n]
theorem p_intS {z : Tx} : OkP (gIntA S [.str z]) Q = (digT z ∧ OkN (.int (NumText.digitsVal z : Nat)) Q) := by
  simp only [gIntA, w_pitebad, w_some, w_n]
theorem p_mulS {z : Tx} {k : Int} : OkP (gMulA S (.str z) (.int k)) Q = (repOk z.length k ∧ OkN (.str (List.replicate k.toNat z).flatten) Q) := by
  simp only [gMulA, w_pitebad, w_some, w_n]
theorem p_mulL {z : List D} {k : Int} : OkP (gMulA S (.lst z) (.int k)) Q = (repOk z.length k ∧ OkN (.lst (List.replicate k.toNat z).flatten) Q) := by
  simp only [gMulA, seqL, w_pitebad, w_some, w_n]
theorem p_chr {i : Int} : OkP (gChr S [.int i]) Q = ((0 ≤ i ∧ i ≤ 1114111) ∧ OkN (.str [i.toNat]) Q) := by
  simp only [gChr, w_pitebad, w_some, w_n]
theorem p_append {l : List D} {d : D} {Q : D × List D → Prop} : OkP (gAppend S l [d]) Q = (sizeOk (l.length + 1) ∧ OkN (.non, l ++ [d]) Q) := by
  simp only [gAppend, w_pitebad, w_some, w_n]
theorem g_inL {x : Tx} {xs : List D} (h : allStr xs = true) : gIn S (.str x) (.lst xs) = some (.bl (memB x (strsOf xs))) := by
  rw [g_in (in_seq (ys := xs) rfl rfl (flD_all h)), teq_any h]; rfl
theorem g_inTs {x : Tx} {xs : List D} (h : allStr xs = true) : gIn S (.str x) (.tup xs) = some (.bl (memB x (strsOf xs))) := by
  rw [g_inT rfl (flD_all h), teq_any h]; rfl
theorem g_inF {x : Tx} {xs : List D} (h : allStr xs = true) : gIn S (.str x) (.fz xs) = some (.bl (memB x (strsOf xs))) := by
  rw [g_in (in_seq (ys := xs) rfl rfl (flD_all h)), teq_any h]; rfl
theorem g_ninL {x : Tx} {xs : List D} (h : allStr xs = true) : gNotIn S (.str x) (.lst xs) = some (.bl (!memB x (strsOf xs))) := by
  rw [g_notIn (in_seq (ys := xs) rfl rfl (flD_all h)), teq_any h]; rfl
theorem g_ninTs {x : Tx} {xs : List D} (h : allStr xs = true) : gNotIn S (.str x) (.tup xs) = some (.bl (!memB x (strsOf xs))) := by
  rw [g_notInT rfl (flD_all h), teq_any h]; rfl
theorem g_ninF {x : Tx} {xs : List D} (h : allStr xs = true) : gNotIn S (.str x) (.fz xs) = some (.bl (!memB x (strsOf xs))) := by
  rw [g_notIn (in_seq (ys := xs) rfl rfl (flD_all h)), teq_any h]; rfl
theorem w_iand {a b : Bool} {P P' : Prop} : OkI (a && b) P P' = OkI a (OkI b P P') P' := by cases a <;> simp [OkI]
theorem w_ior {a b : Bool} {P P' : Prop} : OkI (a || b) P P' = OkI a P (OkI b P P') := by cases a <;> simp [OkI]
theorem gStarts' {z p : Tx} : gStarts S z [.str p] = some (.bl (decide (z.take p.length = p))) := rfl
theorem g_startsT1 {z p : Tx} {xs : List D} (h : allStr xs = true) : True := trivial
end
theorem so_le {n : Nat} (h : n ≤ 16777216) : sizeOk n := sizeOk_of h
theorem divOk_small {j : Int} (h : 0 < j) (h2 : j < 18446744073709551616) : divOk j := divOk_of h h2
theorem modOk_pos {j : Int} (h : 0 < j) : modOk j := h
theorem small62_of {i : Int} (h : -(4611686018427387904 : Int) ≤ i ∧ i < 4611686018427387904) : small62 i := by unfold small62; omega
theorem mulOk_R {i j : Int} (h : -(18446744073709551616 : Int) < j ∧ j < 18446744073709551616) : mulOk i j := mulOk_small (by omega)
theorem mulOk_L {i j : Int} (h : -(18446744073709551616 : Int) < i ∧ i < 18446744073709551616) : mulOk i j := mulOk_smallL (by omega)
theorem powOk_of {i j : Int} (h : 0 ≤ j ∧ j ≤ 1000000 ∧ (-(18446744073709551616 : Int) < i ∧ i < 18446744073709551616)) : powOk i j := by
  refine ⟨h.1, h.2.1, ?_⟩
  omega
theorem repOk_of {n : Nat} {k : Int} (h1 : -(4611686018427387904 : Int) ≤ k ∧ k < 4611686018427387904) (h : n * k.toNat ≤ 16777216) : repOk n k := by
  refine ⟨by omega, by omega, h⟩
/-- sizes: the closers -/
theorem joinOk_le {z : Tx} {ys : List Tx} (h : (ys.map (·.length)).sum + ys.length * z.length ≤ 16777216) : joinOk z ys := h
end PD

/-! PyF1: more methods of texts: find from a place, lstrip of signs, upper, ljust; f-strings. -/
namespace PD
open PySem PySem.Spec PyProof PyProof.Rows L2
/-- the first place of a sign, from i on -/
def findT (z : Tx) (c i : Nat) : Option Nat := ((z.drop i).findIdx? fun d => decide (d = c)).map (· + i)
def findI (z : Tx) (c i : Nat) : Int := match findT z c i with
  | some k => (k : Int)
  | none => -1
theorem findT_none {z : Tx} {c i : Nat} (h : findT z c i = none) : ∀ k, i ≤ k → z[k]? ≠ some c := by
  intro k hk e
  unfold findT at h
  rw [Option.map_eq_none_iff, List.findIdx?_eq_none_iff] at h
  have : z[k]? = (z.drop i)[k - i]? := by rw [List.getElem?_drop]; congr 1; omega
  rw [this] at e
  have := h c (List.mem_of_getElem? e)
  simp at this
theorem findT_some {z : Tx} {c i k : Nat} (h : findT z c i = some k) : i ≤ k ∧ z[k]? = some c ∧ ∀ j, i ≤ j → j < k → z[j]? ≠ some c := by
  unfold findT at h
  rw [Option.map_eq_some_iff] at h
  obtain ⟨m, h1, rfl⟩ := h
  rw [List.findIdx?_eq_some_iff_getElem] at h1
  obtain ⟨hm, h2, h3⟩ := h1
  rw [List.length_drop] at hm
  refine ⟨by omega, ?_, fun j h4 h5 e => ?_⟩
  · rw [List.getElem_drop] at h2
    rw [List.getElem?_eq_getElem (by omega)]
    have h2 := of_decide_eq_true h2
    have e3 : z[m + i]? = z[i + m]? := by congr 1; omega
    rw [← List.getElem?_eq_getElem (by omega), e3, List.getElem?_eq_getElem (by omega), h2]
  · have h6 := h3 (j - i) (by omega)
    rw [List.getElem_drop] at h6
    have hj : j < z.length := by omega
    rw [List.getElem?_eq_getElem hj] at e
    cases e
    simp [show i + (j - i) = j by omega] at h6
theorem find_D (z : Tx) (c i : Nat) : Txt.find3 ⟨z.toArray⟩ ⟨#[c]⟩ (i : Int) = findI z c i := by
  have hl : (⟨z.toArray⟩ : Str).length = z.length := by simp [Str.length]
  have gd : ∀ v, v < z.length → ((⟨z.toArray⟩ : Str).cps.getD v 0 = c ↔ z[v]? = some c) := fun v hv => by
    simp [hv, List.getElem?_eq_getElem hv, Array.getD]
  have hf : ∀ v : Nat, v < z.length → (fromIndex z.length (i : Int) ≤ v ↔ i ≤ v) := fun v hv => by
    unfold fromIndex
    simp
    omega
  unfold findI
  rcases StrLaws.find3_spec ⟨z.toArray⟩ c (i : Int) with ⟨h, hn⟩ | ⟨k, h, h1, h2, h3, h4⟩
  · rw [h]
    cases e : findT z c i with
    | none => rfl
    | some k =>
      obtain ⟨a1, a2, a3⟩ := findT_some e
      have hk : k < z.length := (List.getElem?_eq_some_iff.mp a2).1
      rw [hl] at hn
      exact absurd ((gd k hk).mpr a2) (hn k ((hf k hk).mpr a1) hk)
  · rw [h]
    rw [hl] at h1 h2 h4
    have h5 := (gd k h2).mp h3
    have h6 := (hf k h2).mp h1
    cases e : findT z c i with
    | none => exact absurd h5 (findT_none e k h6)
    | some m =>
      obtain ⟨a1, a2, a3⟩ := findT_some e
      have hm : m < z.length := (List.getElem?_eq_some_iff.mp a2).1
      simp only
      have : k = m := by
        rcases Nat.lt_trichotomy k m with q | q | q
        · exact absurd h5 (a3 k h6 q)
        · exact q
        · exact absurd ((gd m hm).mpr a2) (h4 m ((hf m hm).mpr a1) q)
      rw [this]
def gFind (_ : Sto) (z : Tx) (ds : List D) : Option D := match ds with
  | [.str [c], .int i] => if 0 ≤ i then some (.int (findI z c i.toNat)) else none
  | _ => none
section
variable {X : Cx} {W : WW X.K} {pos apos : Pos}
theorem rp_find : ∀ x vs H Q, rPM X.K gFind x vs H Q → (∃ (a b : Str) (i : Int), x = .str a ∧ vs = [.str b, .int i] ∧ Q (.int (Txt.find3 a b i)) H) := by
  rintro v vs H Q ⟨ρ, S, z, ds, d, rfl, r, dv, hg, q⟩
  unfold gFind at hg
  split at hg
  · rename_i c i
    split at hg
    · rename_i hi
      cases hg
      simp only [DVs] at dv
      obtain ⟨u1, r1, rfl, h1, u2, r2, rfl, h2, rfl⟩ := dv
      rw [dv_str] at h1; subst h1
      rw [dv_int] at h2; subst h2
      have e := find_D z c i.toNat
      rw [show ((i.toNat : Nat) : Int) = i by omega] at e
      exact ⟨_, _, _, rfl, rfl, by rw [e]; exact q ρ H _ r Ext.refl (by simp [DV])⟩
    · cases hg
  · cases hg
/-! lstrip of signs -/
theorem lstrip_D (z p : Tx) : Txt.lstripChars ⟨z.toArray⟩ ⟨p.toArray⟩ = ⟨(z.dropWhile fun c => decide (c ∈ p)).toArray⟩ := by
  have hp : (fun c => (⟨p.toArray⟩ : Str).cps.contains c) = fun c => decide (c ∈ p) := by
    funext c
    simp
  have hl : (⟨z.toArray⟩ : Str).length = z.length := by simp [Str.length]
  have hd : ∀ (f : Nat → Bool) (l : Tx), l.drop (l.takeWhile f).length = l.dropWhile f := fun f l => by
    induction l with
    | nil => rfl
    | cons c r ih =>
      by_cases h : f c = true
      · simp [List.takeWhile_cons, List.dropWhile_cons, h, ih]
      · simp [List.takeWhile_cons, List.dropWhile_cons, h]
  unfold Txt.lstripChars Txt.stripBy
  rw [show ((⟨p.toArray⟩ : Str).cps.contains) = fun c => decide (c ∈ p) from hp]
  refine TL.ext_tl ?_
  have e0 : stripLo (fun c => decide (c ∈ p)) true ⟨z.toArray⟩ = (z.takeWhile fun c => decide (c ∈ p)).length := by simp [stripLo]
  have e1 : ∀ lo, stripHi (fun c => decide (c ∈ p)) false ⟨z.toArray⟩ lo = z.length := fun lo => by simp [stripHi, Str.length]
  have e2 : TL.tl (⟨(z.dropWhile fun c => decide (c ∈ p)).toArray⟩ : Str) = z.dropWhile fun c => decide (c ∈ p) := rfl
  rw [e2]
  by_cases h : stripSame (fun c => decide (c ∈ p)) true false ⟨z.toArray⟩ = true
  · rw [if_pos h]
    unfold stripSame at h
    rw [e0, e1] at h
    have h0 : (z.takeWhile fun c => decide (c ∈ p)).length = 0 := by
      simp only [Bool.and_eq_true, beq_iff_eq] at h
      exact h.1
    have := hd (fun c => decide (c ∈ p)) z
    rw [h0] at this
    rw [← this]
    rfl
  · rw [if_neg h]
    unfold stripped
    rw [e0, e1, ← hl, TL.tl_strSub_end]
    exact hd _ z
open Classical in
noncomputable def gLstrip (_ : Sto) (z : Tx) (ds : List D) : Option D := match ds with
  | [.str p] => if sizeOk z.length then some (.str (z.dropWhile fun c => decide (c ∈ p))) else none
  | _ => none
theorem rp_lstrip : ∀ x vs H Q, rPM X.K gLstrip x vs H Q → (∃ a b, x = .str a ∧ vs = [.str b] ∧ a.length ≤ sizeLine ∧ Q (.str (Txt.lstripChars a b)) H) := by
  rintro v vs H Q ⟨ρ, S, z, ds, d, rfl, r, dv, hg, q⟩
  unfold gLstrip at hg
  split at hg
  · rename_i p
    split at hg
    · rename_i hz
      cases hg
      obtain ⟨u, rfl, h1⟩ := dvs1 dv
      rw [dv_str] at h1; subst h1
      exact ⟨_, _, rfl, rfl, by rw [sv_len]; exact hz, by rw [lstrip_D]; exact q ρ H _ r Ext.refl (by simp [DV, sv])⟩
    · cases hg
  · cases hg
/-! upper of ASCII -/
def upT (c : Nat) : Nat := if 97 ≤ c ∧ c ≤ 122 then c - 32 else c
def upOk (z : Tx) : Prop := z.length ≤ 100000 ∧ ∀ c ∈ z, c < 128
open Classical in
noncomputable def gUpper (_ : Sto) (z : Tx) (ds : List D) : Option D := match ds with
  | [] => if upOk z then some (.str (z.map upT)) else none
  | _ => none
theorem upper_D {z : Tx} (h : upOk z) : Txt.upper ⟨z.toArray⟩ = ⟨(z.map upT).toArray⟩ := by
  rw [upper_ascii (by simpa using h.2)]
  congr 1
  simp
  intro a _
  rfl
theorem rp_upper : ∀ x vs H Q, rPM X.K gUpper x vs H Q → (∃ a, x = .str a ∧ vs = [] ∧ a.length ≤ 5592405 ∧ Q (.str (Txt.upper a)) H) := by
  rintro v vs H Q ⟨ρ, S, z, ds, d, rfl, r, dv, hg, q⟩
  unfold gUpper at hg
  split at hg
  · split at hg
    · rename_i hz
      cases hg
      simp only [DVs] at dv
      subst dv
      exact ⟨_, rfl, rfl, by rw [sv_len]; have := hz.1; omega, by rw [upper_D hz]; exact q ρ H _ r Ext.refl (by simp [DV, sv])⟩
    · cases hg
  · cases hg
/-! ljust -/
def ljustT (z : Tx) (n : Int) : Tx := z ++ List.replicate (n.toNat - z.length) 32
theorem ljust_D (z : Tx) (n : Int) : Txt.ljust ⟨z.toArray⟩ n = ⟨(ljustT z n).toArray⟩ := by
  refine TL.ext_tl ?_
  unfold Txt.ljust ljustT
  rw [sv_len]
  by_cases h : n ≤ (z.length : Int)
  · rw [if_pos h, show n.toNat - z.length = 0 by omega]
    simp [TL.tl]
  · rw [if_neg h]
    have := PyProof.Rows.padded_list (⟨z.toArray⟩ : Str) 0 (n.toNat - z.length) 32
    exact this.trans (by simp)
open Classical in
noncomputable def gLjust (_ : Sto) (z : Tx) (ds : List D) : Option D := match ds with
  | [.int i] => if padOk i then some (.str (ljustT z i)) else none
  | _ => none
theorem rp_ljust : ∀ x vs H Q, rPM X.K gLjust x vs H Q → (∃ (a : Str) (i : Int), x = .str a ∧ vs = [.int i] ∧ PadOk i = true ∧ Q (.str (Txt.ljust a i)) H) := by
  rintro v vs H Q ⟨ρ, S, z, ds, d, rfl, r, dv, hg, q⟩
  unfold gLjust at hg
  split at hg
  · rename_i i
    by_cases hl : padOk i
    · rw [if_pos hl] at hg
      cases hg
      obtain ⟨u, rfl, h1⟩ := dvs1 dv
      rw [dv_int] at h1; subst h1
      exact ⟨_, _, rfl, rfl, hl, by rw [ljust_D]; exact q ρ H _ r Ext.refl (by simp [DV, sv])⟩
    · rw [if_neg hl] at hg; cases hg
  · cases hg
/-! f-strings: texts and numbers -/
open Classical in
noncomputable def gFmt (_ : Sto) (d : D) : Option D := match d with
  | .str z => if sizeOk z.length then some (.str z) else none
  | .int i => if strOkI i then some (.str (numT i)) else none
  | _ => none
theorem ed_fmt {e : Expr} {m : ME} (h : ED X W e m) : ED X W (.FormattedValue e (-1) none pos) (mUn gFmt m) := by
  refine ed_of (pe_fmt h) fun σ H Q ρ S E r er p => ?_
  refine ⟨ρ, S, E, r, er, (Post.bind (R := DV X.K) p).imp fun x H1 ⟨ρ1, S1, d, r1, e1, d1, p1⟩ => ?_⟩
  obtain ⟨u, hu, q⟩ := post_opt p1
  unfold gFmt at hu
  split at hu
  · rename_i z
    split at hu
    · rename_i hz
      cases hu
      rw [dv_str] at d1; subst d1
      exact .inl ⟨_, rfl, by rw [sv_len]; exact hz, q ρ1 H1 _ r1 Ext.refl (by simp [DV, sv])⟩
    · cases hu
  · rename_i i
    split at hu
    · rename_i hz
      cases hu
      rw [dv_int] at d1; subst d1
      exact .inr ⟨i, rfl, hz, q ρ1 H1 _ r1 Ext.refl (by simp only [DV, sv]; rw [← num_D i])⟩
    · cases hu
  · cases hu
open Classical in
/-- the parts one behind the other -/
noncomputable def mJs : List ME → Tx → ME
  | [], acc => fun _ S => .ok (.str acc) S
  | m :: r, acc => fun E S => (m E S).bind fun x S1 => match x with
    | .str y => if sizeOk (acc.length + y.length) then mJs r (acc ++ y) E S1 else .bad
    | _ => .bad
inductive JD (X : Cx) (W : WW X.K) : List Expr → List ME → Prop where
  | nil : JD X W [] []
  | cons {e : Expr} {m : ME} {es : List Expr} {ms : List ME} (h : ED X W e m) (r : JD X W es ms) : JD X W (e :: es) (m :: ms)
theorem JD.pj {es : List Expr} {ms : List ME} (h : JD X W es ms) : PJ X es (ms.map (tE X.K W)) := by
  induction h with
  | nil => exact .nil
  | cons h r ih => exact .cons h ih
theorem js_read : ∀ (ms : List ME) (acc : Tx) (σ : L2.St) (H : Hp) (Q : VK) (ρ : List Addr) (S : Sto) (E : Evn), Rel X.K ρ S H → ER X.K W ρ H E σ → Post X.K (DV X.K) ρ H Q (fun c dx H' => W.w c dx σ H') (mJs ms acc E S) →
    tJs (ms.map (tE X.K W)) ⟨acc.toArray⟩ σ H fun out H1 => Q (.str out) H1
  | [], acc, σ, H, Q, ρ, S, E, r, er, p => by
    exact p ρ H _ r Ext.refl (by simp [DV, sv])
  | m :: ms, acc, σ, H, Q, ρ, S, E, r, er, p => by
    refine ⟨ρ, S, E, r, er, (Post.bind (R := DV X.K) p).imp fun x H1 ⟨ρ1, S1, d, r1, e1, d1, p1⟩ => ?_⟩
    cases d with
    | str y =>
      rw [dv_str] at d1; subst d1
      simp only at p1
      by_cases hz : sizeOk (acc.length + y.length)
      · rw [if_pos hz] at p1
        have ea : (⟨acc.toArray⟩ : Str) ++ (⟨y.toArray⟩ : Str) = ⟨(acc ++ y).toArray⟩ := by
          refine TL.ext_tl ?_
          rw [TL.tl_append]
        refine ⟨⟨y.toArray⟩, rfl, ?_, ?_⟩
        · rw [ea, sv_len, List.length_append]; exact hz
        · rw [ea]
          exact js_read ms (acc ++ y) σ H1 Q ρ1 S1 E r1 (er.mono e1) p1
      · rw [if_neg hz] at p1; exact p1.elim
    | _ => exact p1.elim
theorem ed_joined {v1 v2 : Expr} {rest : List Expr} {ms : List ME} (h : JD X W (v1 :: v2 :: rest) ms) : ED X W (.JoinedStr (v1 :: v2 :: rest) pos) (mJs ms []) := by
  refine ed_of (pe_joined h.pj) fun σ H Q ρ S E r er p => ?_
  exact js_read ms [] σ H Q ρ S E r er p
theorem ed_joined1 {e : Expr} {m : ME} (h : ED X W e m) : ED X W (.JoinedStr [e] pos) m := ed_of (pe_joined1 h) fun σ H Q ρ S E r er p => ⟨ρ, S, E, r, er, p⟩
end
/-! to reckon with -/
section
variable {Q : D → Prop} {QD : D → Sto → Prop} {S : Sto} {E : Evn} {X : Exn → Sto → Prop}
theorem p_find {z : Tx} {c : Nat} {i : Int} : OkP (gFind S z [.str [c], .int i]) Q = (0 ≤ i ∧ OkN (.int (findI z c i.toNat)) Q) := by
  simp only [gFind, w_pitebad, w_some, w_n]
theorem p_lstrip {z p : Tx} : OkP (gLstrip S z [.str p]) Q = (sizeOk z.length ∧ OkN (.str (z.dropWhile fun c => decide (c ∈ p))) Q) := by
  simp only [gLstrip, w_pitebad, w_some, w_n]
theorem p_upper {z : Tx} : OkP (gUpper S z []) Q = (upOk z ∧ OkN (.str (z.map upT)) Q) := by
  simp only [gUpper, w_pitebad, w_some, w_n]
theorem p_ljust {z : Tx} {i : Int} : OkP (gLjust S z [.int i]) Q = (padOk i ∧ OkN (.str (ljustT z i)) Q) := by
  simp only [gLjust, w_pitebad, w_some, w_n]
theorem p_fmtS {z : Tx} : OkP (gFmt S (.str z)) Q = (sizeOk z.length ∧ Q (.str z)) := by
  simp only [gFmt, w_pitebad, w_some]
theorem p_fmtI {i : Int} : OkP (gFmt S (.int i)) Q = (strOkI i ∧ OkN (.str (numT i)) Q) := by
  simp only [gFmt, w_pitebad, w_some, w_n]
theorem w_js0 {acc : Tx} : OkO (mJs [] acc E S) QD X = QD (.str acc) S := rfl
theorem w_js1 {m : ME} {r : List ME} {acc : Tx} : OkO (mJs (m :: r) acc E S) QD X = OkO (m E S) (fun x S1 => OkStr x fun y => sizeOk (acc.length + y.length) ∧ OkN (acc ++ y) fun a => OkO (mJs r a E S1) QD X) X := by
  rw [mJs]
  refine w_bind.trans (OkO_fun fun x S1 => ?_)
  cases x <;> first | rfl | skip
  exact w_itebad (inst := Classical.propDecidable _)
end
theorem allStr_sing (l : Tx) : allStr (l.map fun c => D.str [c]) = true := by
  induction l with
  | nil => rfl
  | cons c r ih => exact ih
theorem strsOf_sing (l : Tx) : strsOf (l.map fun c => D.str [c]) = l.map fun c => [c] := by
  induction l with
  | nil => rfl
  | cons c r ih => rw [List.map_cons, strsOf, ih]; rfl
theorem joinL_sing (l : Tx) : TL.joinL [] (l.map fun c => [c]) = l := by
  induction l with
  | nil => rfl
  | cons c r ih =>
    cases r with
    | nil => rfl
    | cons d t =>
      have : TL.joinL [] (([c] : Tx) :: (d :: t).map fun c => [c]) = [c] ++ [] ++ TL.joinL [] ((d :: t).map fun c => [c]) := rfl
      rw [List.map_cons, this, ih]
      rfl
theorem joinOk_sing {l : Tx} (h : l.length ≤ 10000000) : joinOk [] (l.map fun c => [c]) := by
  apply joinOk_le
  have : ((l.map fun c => ([c] : Tx)).map (·.length)).sum = l.length := by
    induction l with
    | nil => rfl
    | cons c r ih =>
      simp only [List.map_cons, List.sum_cons, List.length_cons, List.length_nil]
      have h2 : r.length ≤ 10000000 := by simp at h; omega
      have := ih h2
      simp only [List.map_cons, List.map_map] at this ⊢
      omega
  rw [this]
  simp
  omega
section
variable {S : Sto}
theorem isN_non : gIsN S .non .non = some (.bl true) := rfl
theorem isN_bl {b : Bool} : gIsN S (.bl b) .non = some (.bl false) := rfl
theorem isN_int {b : Int} : gIsN S (.int b) .non = some (.bl false) := rfl
theorem isN_str {b : Tx} : gIsN S (.str b) .non = some (.bl false) := rfl
theorem isN_tup {b : List D} : gIsN S (.tup b) .non = some (.bl false) := rfl
theorem isN_lst {b : List D} : gIsN S (.lst b) .non = some (.bl false) := rfl
theorem notN_non : gNotN S .non .non = some (.bl false) := rfl
theorem notN_bl {b : Bool} : gNotN S (.bl b) .non = some (.bl true) := rfl
theorem notN_int {b : Int} : gNotN S (.int b) .non = some (.bl true) := rfl
theorem notN_str {b : Tx} : gNotN S (.str b) .non = some (.bl true) := rfl
theorem notN_tup {b : List D} : gNotN S (.tup b) .non = some (.bl true) := rfl
theorem notN_lst {b : List D} : gNotN S (.lst b) .non = some (.bl true) := rfl
end
section
variable {S : Sto} {Q : D → Prop}
/-- what is read of a list of the store -/
theorem p_joinLoc {z : Tx} {n : Nat} : OkP (gJoin S z [.loc n]) Q = OkT S[n]? fun xs => OkP (gJoin S z [.lst xs]) Q := by
  unfold gJoin
  simp only [rowF, seqF]
  cases S[n]? with
  | none => rfl
  | some o => cases o <;> rfl
theorem p_revLoc {n : Nat} : OkP (gRev S (.loc n)) Q = OkT S[n]? fun xs => OkN (.lst xs.reverse) Q := by
  unfold gRev
  simp only [seqF]
  cases S[n]? with
  | none => rfl
  | some o => cases o <;> rfl
theorem p_tupLoc {n : Nat} : OkP (gTuple S [.loc n]) Q = OkT S[n]? fun xs => OkN (.tup xs) Q := by
  unfold gTuple
  simp only [rowF, seqF]
  cases S[n]? with
  | none => rfl
  | some o => cases o <;> rfl
theorem p_listLoc {n : Nat} : OkP (gList S [.loc n]) Q = OkT S[n]? fun xs => OkN (.lst xs) Q := by
  unfold gList
  simp only [rowF, seqF]
  cases S[n]? with
  | none => rfl
  | some o => cases o <;> rfl
end
end PD

/-! PyF2: dicts with keys of ints and texts; written dicts of texts. -/
namespace PD
open PySem PySem.Spec PyProof PyProof.Rows L2
def keyD : D → Option Key
  | .int i => some (.inl i)
  | .str x => some (.inr ⟨x.toArray⟩)
  | _ => none
theorem keyD_V {K : PySem.W.Frag} {ρ : List Addr} {H : Hp} {d : D} {v : V} {k : Key} (h : keyD d = some k) (dv : DV K ρ H d v) : v = kV k := by
  cases d with
  | int i => cases h; rw [dv_int] at dv; exact dv
  | str x => cases h; rw [dv_str] at dv; exact dv
  | _ => cases h
def valD (kvs : List (Key × D)) (k : Key) : Option D := (kvs.find? fun p => decide (p.1 = k)).map (·.2)
def hasD (kvs : List (Key × D)) (k : Key) : Bool := kvs.any fun p => decide (p.1 = k)
def putD (kvs : List (Key × D)) (k : Key) (d : D) : List (Key × D) := if hasD kvs k = true then kvs.map (fun p => if p.1 = k then (p.1, d) else p) else kvs ++ [(k, d)]
def mergeD (kvs more : List (Key × D)) : List (Key × D) := more.foldl (fun acc p => putD acc p.1 p.2) kvs
section
variable {K : PySem.W.Frag} {ρ : List Addr} {H : Hp}
theorem KVR.val {k : Key} : ∀ {kvs : List (Key × D)} {us : List (Key × V)}, KVR K ρ H kvs us → (∀ d, valD kvs k = some d → ∃ v, valV us k = some v ∧ DV K ρ H d v) ∧ (valD kvs k = none → valV us k = none)
  | [], us, h => by cases h; exact ⟨fun d e => (by cases e), fun _ => rfl⟩
  | (j, d) :: r, us, ⟨v, t, e, h1, h2⟩ => by
    subst e
    obtain ⟨a, b⟩ := KVR.val (k := k) h2
    by_cases hj : j = k
    · have e1 : valD ((j, d) :: r) k = some d := by simp [valD, List.find?_cons, hj]
      rw [e1, valV_pos (p := (j, v)) hj]
      exact ⟨fun x e => (by cases e; exact ⟨v, rfl, h1⟩), fun e => (by cases e)⟩
    · have e1 : valD ((j, d) :: r) k = valD r k := by simp [valD, List.find?_cons, hj]
      rw [e1, valV_neg (p := (j, v)) hj]
      exact ⟨a, b⟩
theorem KVR.has {k : Key} : ∀ {kvs : List (Key × D)} {us : List (Key × V)}, KVR K ρ H kvs us → (us.any fun p => decide (p.1 = k)) = hasD kvs k
  | [], us, h => by cases h; rfl
  | (j, d) :: r, us, ⟨v, t, e, h1, h2⟩ => by
    subst e
    unfold hasD
    rw [List.any_cons, List.any_cons, KVR.has h2]
    rfl
theorem has_val {kvs : List (Key × D)} {k : Key} : hasD kvs k = (valD kvs k).isSome := by
  unfold hasD valD
  rw [Option.isSome_map, Bool.eq_iff_iff, List.find?_isSome, List.any_eq_true]
theorem KVR.length : ∀ {kvs : List (Key × D)} {us : List (Key × V)}, KVR K ρ H kvs us → kvs.length = us.length
  | [], us, h => by cases h; rfl
  | (j, d) :: r, us, ⟨v, t, e, h1, h2⟩ => by subst e; simp [KVR.length h2]
theorem KVR.app : ∀ {kvs more : List (Key × D)} {us ws : List (Key × V)}, KVR K ρ H kvs us → KVR K ρ H more ws → KVR K ρ H (kvs ++ more) (us ++ ws)
  | [], _, us, _, h, g => by cases h; exact g
  | (j, d) :: r, _, us, _, ⟨v, t, e, h1, h2⟩, g => by subst e; exact ⟨v, _, rfl, h1, KVR.app h2 g⟩
theorem KVR.upd {k : Key} {d : D} {v : V} (q : DV K ρ H d v) : ∀ {kvs : List (Key × D)} {us : List (Key × V)}, KVR K ρ H kvs us → KVR K ρ H (kvs.map fun p => if p.1 = k then (p.1, d) else p) (us.map fun p => if p.1 = k then (p.1, v) else p)
  | [], us, h => by cases h; rfl
  | (j, x) :: r, us, ⟨u, t, e, h1, h2⟩ => by
    subst e
    by_cases hj : j = k
    · simpa [hj, List.map_cons] using (show KVR K ρ H ((j, d) :: r.map fun p => if p.1 = k then (p.1, d) else p) ((j, v) :: t.map fun p => if p.1 = k then (p.1, v) else p) from ⟨v, _, rfl, q, KVR.upd q h2⟩)
    · simpa [hj, List.map_cons] using (show KVR K ρ H ((j, x) :: r.map fun p => if p.1 = k then (p.1, d) else p) ((j, u) :: t.map fun p => if p.1 = k then (p.1, v) else p) from ⟨u, _, rfl, h1, KVR.upd q h2⟩)
theorem KVR.put {kvs : List (Key × D)} {us : List (Key × V)} {k : Key} {d : D} {v : V} (h : KVR K ρ H kvs us) (q : DV K ρ H d v) : KVR K ρ H (putD kvs k d) (putK us k v) := by
  unfold putD putK
  rw [KVR.has h]
  by_cases hk : hasD kvs k = true
  · rw [if_pos hk, if_pos hk]; exact KVR.upd q h
  · rw [if_neg hk, if_neg hk]; exact KVR.app h ⟨v, [], rfl, q, rfl⟩
theorem KVR.merge : ∀ {more kvs : List (Key × D)} {ws us : List (Key × V)}, KVR K ρ H more ws → KVR K ρ H kvs us → KVR K ρ H (mergeD kvs more) (mergeK us ws)
  | [], kvs, ws, us, h, g => by cases h; exact g
  | (j, d) :: r, kvs, ws, us, ⟨v, t, e, h1, h2⟩, g => by
    subst e
    exact KVR.merge (more := r) (ws := t) h2 (g.put h1)
end
section
variable {X : Cx} {W : WW X.K} {pos apos : Pos}
/-! a new dict -/
def mDnew : ME := fun _ S => .ok (.loc S.length) (S ++ [.dic []])
theorem ed_dnew : ED X W (.Dict [] [] pos) mDnew := by
  refine ed_of pe_dnewK fun σ H Q ρ S E r er p => ?_
  intro a ha
  exact p (ρ ++ [a]) _ _ (r.alloc ha ⟨[], upd_same, rfl⟩) (Ext.alloc ha) (dv_loc r)
def mPairs : List (ME × ME) → Evn → Sto → Out (List (D × D))
  | [], _, S => .ok [] S
  | (k, v) :: r, E, S => (k E S).bind fun x S1 => (v E S1).bind fun y S2 => (mPairs r E S2).bind fun ps S3 => .ok ((x, y) :: ps) S3
def keysD : List (D × D) → Option (List (Key × D))
  | [] => some []
  | (x, y) :: r => match keyD x, keysD r with
    | some k, some t => some ((k, y) :: t)
    | _, _ => none
def mDisp (ps : List (ME × ME)) : ME := fun E S => (mPairs ps E S).bind fun xs S1 => match keysD xs with
  | some kvs => .ok (.loc S1.length) (S1 ++ [.dic (mergeD [] kvs)])
  | none => .bad
inductive PDs (X : Cx) (W : WW X.K) : List (Option Expr) → List Expr → List (ME × ME) → Prop where
  | nil : PDs X W [] [] []
  | cons {k v : Expr} {mk mv : ME} {ks : List (Option Expr)} {vs : List Expr} {ms : List (ME × ME)} (hk : ED X W k mk) (hv : ED X W v mv) (r : PDs X W ks vs ms) : PDs X W (some k :: ks) (v :: vs) ((mk, mv) :: ms)
theorem PDs.pps {ks : List (Option Expr)} {vs : List Expr} {ms : List (ME × ME)} (h : PDs X W ks vs ms) : PPs X pos ks vs (ms.map fun p => (tE X.K W p.1, tE X.K W p.2)) := by
  induction h with
  | nil => exact pps_nil
  | cons hk hv r ih => exact pps_cons hk hv ih
/-- pairs as they lie -/
def PR (K : PySem.W.Frag) (ρ : List Addr) (H : Hp) : List (D × D) → List (V × V) → Prop
  | [], vs => vs = []
  | (x, y) :: r, vs => ∃ u v t, vs = (u, v) :: t ∧ DV K ρ H x u ∧ DV K ρ H y v ∧ PR K ρ H r t
theorem pairs_read : ∀ (ms : List (ME × ME)) (σ : L2.St) (H : Hp) (Q : List (V × V) → Hp → Prop) (ρ : List Addr) (S : Sto) (E : Evn), Rel X.K ρ S H → ER X.K W ρ H E σ → Post X.K (PR X.K) ρ H Q (fun c dx H' => W.w c dx σ H') (mPairs ms E S) →
    tPairs (ms.map fun p => (tE X.K W p.1, tE X.K W p.2)) σ H Q
  | [], σ, H, Q, ρ, S, E, r, er, p => p ρ H [] r Ext.refl rfl
  | (k, v) :: ms, σ, H, Q, ρ, S, E, r, er, p => by
    refine ⟨ρ, S, E, r, er, (Post.bind (R := DV X.K) p).imp fun x H1 ⟨ρ1, S1, dx, r1, e1, d1, p1⟩ => ?_⟩
    refine ⟨ρ1, S1, E, r1, er.mono e1, (Post.bind (R := DV X.K) p1).imp fun y H2 ⟨ρ2, S2, dy, r2, e2, d2, p2⟩ => ?_⟩
    refine pairs_read ms σ H2 _ ρ2 S2 E r2 ((er.mono e1).mono e2) ?_
    refine (Post.bind (R := PR X.K) p2).imp fun ps H3 ⟨ρ3, S3, ds, r3, e3, d3, p3⟩ => ?_
    exact p3 ρ3 H3 _ r3 Ext.refl ⟨x, y, ps, rfl, DV.mono e3 _ _ (DV.mono e2 _ _ d1), DV.mono e3 _ _ d2, d3⟩
theorem PR.keys {K : PySem.W.Frag} {ρ : List Addr} {H : Hp} : ∀ {xs : List (D × D)} {vs : List (V × V)} {kvs : List (Key × D)}, PR K ρ H xs vs → keysD xs = some kvs → ∃ us : List (Key × V), vs = us.map (fun p => (kV p.1, p.2)) ∧ KVR K ρ H kvs us ∧ kvs.length = xs.length
  | [], vs, kvs, h, e => by cases e; cases h; exact ⟨[], rfl, rfl, rfl⟩
  | (x, y) :: r, vs, kvs, ⟨u, v, t, h1, h2, h3, h4⟩, e => by
    simp only [keysD] at e
    split at e
    · rename_i k s e1 e2
      cases e
      obtain ⟨us, a, b, c⟩ := PR.keys h4 e2
      subst h1 a
      refine ⟨(k, v) :: us, by rw [keyD_V e1 h2]; rfl, ⟨v, us, rfl, h3, b⟩, by simp [c]⟩
    · cases e
theorem mPairs_len : ∀ {ms : List (ME × ME)} {E : Evn} {S S' : Sto} {xs : List (D × D)}, mPairs ms E S = .ok xs S' → xs.length = ms.length
  | [], E, S, S', xs, h => by cases h; rfl
  | (k, v) :: ms, E, S, S', xs, h => by
    simp only [mPairs] at h
    cases e1 : k E S with
    | bad => rw [e1] at h; cases h
    | ex _ _ => rw [e1] at h; cases h
    | ok x S1 =>
      rw [e1, bind_ok] at h
      cases e2 : v E S1 with
      | bad => rw [e2] at h; cases h
      | ex _ _ => rw [e2] at h; cases h
      | ok y S2 =>
        rw [e2, bind_ok] at h
        cases e3 : mPairs ms E S2 with
        | bad => rw [e3] at h; cases h
        | ex _ _ => rw [e3] at h; cases h
        | ok ps S3 =>
          rw [e3, bind_ok] at h
          cases h
          simp [mPairs_len e3]
/-- a dict that was laid empty is filled -/
theorem Ext.fill {K : PySem.W.Frag} {ρ ρ2 : List Addr} {H H2 : Hp} {p : Addr} {o o' : HO} (hp : H p = none) (e : Ext K ρ (upd H p o) ρ2 H2) (hn : p ∉ ρ2) : Ext K ρ H (ρ2 ++ [p]) (upd H2 p o') := by
  obtain ⟨t, ht⟩ := e.pre
  have e0 : Ext K ρ H ρ (upd H p o) := Ext.new hp
  have et := e0.trans e
  refine ⟨⟨t ++ [p], by rw [ht, List.append_assoc]⟩, fun a vs h => ?_, fun a u h g => ?_, fun a u vs h => ?_, fun a fs h => ?_⟩
  · have h2 := et.tup a vs h
    rcases h with h | h
    · have ha : a ≠ p := rd_none hp h
      exact h2.imp (fun h => Rd.upd ha h) id
    · exact .inr h
  · have ha := ne_of_none g hp
    obtain ⟨h1, h2⟩ := et.oth a u h g
    exact ⟨by simp [h1, ha], by rw [upd_ne ha]; exact h2⟩
  · rw [upd_ne (ne_of_none h hp)]; exact et.fz a u vs h
  · rw [upd_ne (ne_of_none h hp)]; exact et.xd a fs h
/-- what data ask, when a dict is filled -/
theorem Ex0.fill {K : PySem.W.Frag} {ρ : List Addr} {H : Hp} {p : Addr} {kvs : List (Key × V)} {o : HO} (h : H p = some (.dK kvs)) (hn : p ∉ ρ) : Ex0 K ρ H (ρ ++ [p]) (upd H p o) := by
  refine ⟨⟨[p], rfl⟩, fun a vs g => ?_, fun a vs g1 g2 => ?_, fun a o vs g => ?_⟩
  · refine g.imp (fun g => Rd.upd (fun z => ?_) g) id
    subst z
    rcases g with g | ⟨_, g⟩ <;> rw [h] at g <;> cases g
  · have ha : a ≠ p := fun z => by subst z; rw [h] at g2; cases g2
    exact ⟨by simp [g1, ha], by rw [upd_ne ha]; exact g2⟩
  · have ha : a ≠ p := fun z => by subst z; rw [h] at g; cases g
    rw [upd_ne ha]; exact g
theorem OR.mono0 {K : PySem.W.Frag} {ρ ρ' : List Addr} {H H' : Hp} (e : Ex0 K ρ H ρ' H') {a : Addr} {o : Ob} (h : OR K ρ H a o) (k : ∀ u, H a = Option.some u → H' a = Option.some u) : OR K ρ' H' a o := by
  cases o with
  | lst xs => obtain ⟨vs, h1, h2⟩ := h; exact ⟨vs, k _ h1, DVs.mono0 e _ _ h2⟩
  | dic xs => obtain ⟨vs, h1, h2⟩ := h; exact ⟨vs, k _ h1, KVR.mono0 e _ _ h2⟩
  | set S n => exact k _ h
  | ins c N fs => obtain ⟨dx, vs, h1, h2⟩ := h; exact ⟨dx, vs, k _ h1, DVs.mono0 e _ _ h2⟩
theorem Rel.fill {K : PySem.W.Frag} {ρ : List Addr} {S : Sto} {H : Hp} (r : Rel K ρ S H) {p : Addr} {kvs : List (Key × V)} {o : HO} {u : Ob} (h : H p = some (.dK kvs)) (hn : p ∉ ρ) (q : OR K (ρ ++ [p]) (upd H p o) p u) : Rel K (ρ ++ [p]) (S ++ [u]) (upd H p o) := by
  refine ⟨by simp [r.len], ?_, fun n w a h1 h2 => ?_⟩
  · rw [List.nodup_append]
    refine ⟨r.nd, by simp, fun x hx y hy z => ?_⟩
    simp only [List.mem_singleton] at hy
    subst hy z
    exact hn hx
  · by_cases hl : n < S.length
    · rw [List.getElem?_append_left hl] at h1
      rw [List.getElem?_append_left (by rw [r.len]; exact hl)] at h2
      have ha : a ≠ p := fun z => by subst z; exact hn (List.mem_of_getElem? h2)
      exact OR.mono0 (Ex0.fill h hn) (r.at_ n w a h1 h2) fun q hq => by rw [upd_ne ha]; exact hq
    · have hn2 : n = S.length := by
        have := (List.getElem?_eq_some_iff.mp h1).1
        simp only [List.length_append, List.length_singleton] at this
        omega
      subst hn2
      rw [List.getElem?_append_right (Nat.le_refl _), Nat.sub_self] at h1
      rw [List.getElem?_append_right (by rw [r.len]; exact Nat.le_refl _), r.len, Nat.sub_self] at h2
      simp only [List.getElem?_cons_zero, Option.some.injEq] at h1 h2
      subst h1 h2
      exact q
theorem ed_disp {ks : List (Option Expr)} {vs : List Expr} {ms : List (ME × ME)} (h : PDs X W ks vs ms) (hall : ks.all (·.isSome) = true) (hl : ks.length = vs.length) (h0 : ks ≠ []) (h15 : ks.length ≤ 15) (hm : ms.length = ks.length) :
    ED X W (.Dict ks vs pos) (mDisp ms) := by
  refine ed_of (pe_disp (h.pps (pos := pos)) hall hl h0 h15) fun σ H Q ρ S E r er p => ?_
  intro a ha
  have hna := r.notin ha
  refine pairs_read ms σ _ _ ρ S E (r.new ha) (er.mono (Ext.new ha)) ?_
  unfold mDisp at p
  cases q : mPairs ms E S with
  | bad => rw [q] at p; exact p.elim
  | ex e S' => rw [q] at p; exact fun ρ' H' c dx x1 x2 x3 => p ρ' H' c dx x1 ((Ext.new ha).trans x2) x3
  | ok xs S1 =>
    rw [q, bind_ok] at p
    intro ρ2 H2 ws r2 e2 pr
    obtain ⟨hn2, hd⟩ := e2.oth a (.dK []) hna upd_same
    refine ⟨hd, ?_⟩
    cases hk : keysD xs with
    | none => rw [hk] at p; exact p.elim
    | some kvs =>
      rw [hk] at p
      obtain ⟨us, b1, b2, b3⟩ := PR.keys pr hk
      refine ⟨us, b1, by rw [← b2.length, b3, mPairs_len q, hm]; exact h15, ?_⟩
      exact p (ρ2 ++ [a]) _ _ (r2.fill hd hn2 ⟨_, upd_same, KVR.mono0 (Ex0.fill hd hn2) _ _ (KVR.merge b2 (kvs := []) (us := []) rfl)⟩) (Ext.fill ha e2 hn2) (by simp only [DV]; exact ⟨a, rfl, by rw [List.getElem?_append_right (by rw [r2.len]; exact Nat.le_refl _), r2.len, Nat.sub_self]; rfl⟩)
end
end PD

/-! PyF3: to read and write dicts; written dicts of texts. -/
namespace PD
open PySem PySem.Spec PyProof PyProof.Rows L2
theorem room1 {k : Nat} {A : Around} (r : Room k A) : A.units + 1 < cLine := by have := room65 r; omega
/-- the dict at a place of the store -/
def dicAt (S : Sto) (d : D) : Option (List (Key × D)) := match d with
  | .loc n => (match S[n]? with
    | some (.dic kvs) => some kvs
    | _ => none)
  | _ => none
theorem dicAt_ok {K : PySem.W.Frag} {ρ : List Addr} {S : Sto} {H : Hp} (r : Rel K ρ S H) {d : D} {v : V} {kvs : List (Key × D)} (dv : DV K ρ H d v) (h : dicAt S d = some kvs) : ∃ n a us, d = .loc n ∧ S[n]? = some (.dic kvs) ∧ ρ[n]? = some a ∧ v = .ref a ∧ H a = some (.dK us) ∧ KVR K ρ H kvs us := by
  unfold dicAt at h
  cases d with
  | loc n =>
    simp only at h
    split at h
    · rename_i k e
      cases h
      simp only [DV] at dv
      obtain ⟨a, rfl, ha⟩ := dv
      obtain ⟨us, h1, h2⟩ := r.at_ n _ a e ha
      exact ⟨n, a, us, rfl, e, ha, rfl, h1, h2⟩
    · cases h
  | _ => cases h
def gDget (S : Sto) (x y : D) : Option D := match dicAt S x, keyD y with
  | some kvs, some k => valD kvs k
  | _, _ => none
def gDin (S : Sto) (y x : D) : Option D := match dicAt S x, keyD y with
  | some kvs, some k => some (.bl (valD kvs k).isSome)
  | _, _ => none
def gDnin (S : Sto) (y x : D) : Option D := match dicAt S x, keyD y with
  | some kvs, some k => some (.bl (!(valD kvs k).isSome))
  | _, _ => none
section
variable {X : Cx} {W : WW X.K} {pos apos : Pos} {a b o i e f : Expr} {ma mb mo mi me mf : ME}
theorem rp_dget : ∀ x y H Q, rP X.K gDget x y H Q → ∃ a v, x = .ref a ∧ DGet H a y (some v) ∧ Q v H := by
  rintro v u H Q ⟨ρ, S, x, y, d, r, dx, dy, hg, q⟩
  unfold gDget at hg
  split at hg
  · rename_i kvs k e1 e2
    obtain ⟨n, a, us, rfl, _, _, rfl, h1, h2⟩ := dicAt_ok r dx e1
    obtain ⟨w, h3, h4⟩ := (KVR.val (k := k) h2).1 d hg
    rw [keyD_V e2 dy]
    exact ⟨a, w, rfl, by rw [← h3]; exact DGet.k h1, q ρ H w r Ext.refl h4⟩
  · cases hg
theorem some_val {K : PySem.W.Frag} {ρ : List Addr} {H : Hp} {kvs : List (Key × D)} {us : List (Key × V)} {k : Key} (h : KVR K ρ H kvs us) : (valV us k).isSome = (valD kvs k).isSome := by
  obtain ⟨a, b⟩ := KVR.val (k := k) h
  cases e : valD kvs k with
  | none => rw [b e]; rfl
  | some d => obtain ⟨v, h1, _⟩ := a d e; rw [h1]; rfl
theorem rp_din : ∀ y x H Q, rP X.K gDin y x H Q → ∃ a o, x = .ref a ∧ DGet H a y o ∧ Q (.bl o.isSome) H := by
  rintro u v H Q ⟨ρ, S, y, x, d, r, dy, dx, hg, q⟩
  unfold gDin at hg
  split at hg
  · rename_i kvs k e1 e2
    cases hg
    obtain ⟨n, a, us, rfl, _, _, rfl, h1, h2⟩ := dicAt_ok r dx e1
    rw [keyD_V e2 dy]
    exact ⟨a, _, rfl, DGet.k h1, by rw [some_val h2]; exact q ρ H _ r Ext.refl (by simp [DV])⟩
  · cases hg
theorem rp_dnin : ∀ y x H Q, rP X.K gDnin y x H Q → ∃ a o, x = .ref a ∧ DGet H a y o ∧ Q (.bl (!o.isSome)) H := by
  rintro u v H Q ⟨ρ, S, y, x, d, r, dy, dx, hg, q⟩
  unfold gDnin at hg
  split at hg
  · rename_i kvs k e1 e2
    cases hg
    obtain ⟨n, a, us, rfl, _, _, rfl, h1, h2⟩ := dicAt_ok r dx e1
    rw [keyD_V e2 dy]
    exact ⟨a, _, rfl, DGet.k h1, by rw [some_val h2]; exact q ρ H _ r Ext.refl (by simp [DV])⟩
  · cases hg
theorem ed_dget (hu : X.A.units + 1 < cLine) (ho : ED X W o mo) (hi : ED X W i mi) (hs : NoSl i) : ED X W (.Subscript o i pos) (mBin gDget mo mi) := ed_of (pe_dget hu ho hi hs) (bin_read rp_dget)
theorem ed_din (hu : X.A.units + 1 < cLine) (hi : ED X W i mi) (ho : ED X W o mo) (hb : behindInMarks .In o = false := by rfl) : ED X W (.Compare i [.In] [o] pos) (mBin gDin mi mo) := ed_of (pe_cmp (pc_din hu hi ho) hb) (bin_read rp_din)
theorem ed_dnin (hu : X.A.units + 1 < cLine) (hi : ED X W i mi) (ho : ED X W o mo) (hb : behindInMarks .NotIn o = false := by rfl) : ED X W (.Compare i [.NotIn] [o] pos) (mBin gDnin mi mo) := ed_of (pe_cmp (pc_dnotin hu hi ho) hb) (bin_read rp_dnin)
theorem td_din (hu : X.A.units + 1 < cLine) (hi : ED X W i mi) (ho : ED X W o mo) (hb : behindInMarks .In o = false := by rfl) : TD X W (.Compare i [.In] [o] pos) (asB (mBin gDin mi mo)) :=
  td_of (pt_cmp (pc_din hu hi ho) hb) (asB_read fun σ H Q ⟨ρ, S, E, r, er, p⟩ => bin_read rp_din σ H Q ρ S E r er p)
theorem td_dnin (hu : X.A.units + 1 < cLine) (hi : ED X W i mi) (ho : ED X W o mo) (hb : behindInMarks .NotIn o = false := by rfl) : TD X W (.Compare i [.NotIn] [o] pos) (asB (mBin gDnin mi mo)) :=
  td_of (pt_cmp (pc_dnotin hu hi ho) hb) (asB_read fun σ H Q ⟨ρ, S, E, r, er, p⟩ => bin_read rp_dnin σ H Q ρ S E r er p)
/-- d.get(e, f) -/
def mDget2 (o e f : ME) : ME := fun E S => (o E S).bind fun x S1 => match dicAt S1 x with
  | some _ => (e E S1).bind fun y S2 => (f E S2).bind fun z S3 => (match dicAt S3 x, keyD y with
    | some kvs, some k => .ok ((valD kvs k).getD z) S3
    | _, _ => .bad)
  | none => .bad
theorem ed_dget2 (hu : X.A.units + 1 < cLine) (ho : ED X W o mo) (he : ED X W e me) (hf : ED X W f mf) (m : M2 X o "get" apos e f pos) : ED X W (.Call (.Attribute o "get" apos) [e, f] [] pos) (mDget2 mo me mf) := by
  refine ed_of (pe_dget2 hu ho he hf m) fun σ H Q ρ S E r er p => ?_
  refine ⟨ρ, S, E, r, er, (Post.bind (R := DV X.K) p).imp fun x H1 ⟨ρ1, S1, dx, r1, e1, d1, p1⟩ => ?_⟩
  cases q1 : dicAt S1 dx with
  | none => rw [q1] at p1; exact p1.elim
  | some kv1 =>
    rw [q1] at p1
    obtain ⟨n, a, us, rfl, _, _, rfl, h1, _⟩ := dicAt_ok r1 d1 q1
    refine ⟨a, rfl, .inl ⟨us, Rd.of h1⟩, ρ1, S1, E, r1, er.mono e1, (Post.bind (R := DV X.K) p1).imp fun y H2 ⟨ρ2, S2, dy, r2, e2, d2, p2⟩ => ?_⟩
    refine ⟨ρ2, S2, E, r2, (er.mono e1).mono e2, (Post.bind (R := DV X.K) p2).imp fun z H3 ⟨ρ3, S3, dz, r3, e3, d3, p3⟩ => ?_⟩
    have d1' := DV.mono e3 _ _ (DV.mono e2 _ _ d1)
    cases q3 : dicAt S3 (.loc n) with
    | none => rw [q3] at p3; exact p3.elim
    | some kvs =>
      cases qk : keyD dy with
      | none => rw [q3, qk] at p3; exact p3.elim
      | some k =>
        rw [q3, qk] at p3
        obtain ⟨n', a', us', en, _, _, ea, h4, h5⟩ := dicAt_ok r3 d1' q3
        cases ea
        rw [keyD_V qk (DV.mono e3 _ _ d2)]
        refine ⟨_, DGet.k h4, ?_⟩
        obtain ⟨va, vb⟩ := KVR.val (k := k) h5
        cases ev : valD kvs k with
        | none => rw [vb ev]; simp only [ev] at p3; exact p3 ρ3 H3 z r3 Ext.refl d3
        | some d =>
          obtain ⟨w, h6, h7⟩ := va d ev
          rw [h6]; simp only [ev] at p3
          exact p3 ρ3 H3 w r3 Ext.refl h7
/-! d[k] = v -/
theorem Ext.writeD {K : PySem.W.Frag} {ρ : List Addr} {H : Hp} {a : Addr} {us : List (Key × V)} {o : HO} (ha : a ∈ ρ) (h : H a = some (.dK us)) : Ext K ρ H ρ (upd H a o) := by
  refine ⟨⟨[], by simp⟩, fun b ws hb => ?_, fun b w hb hw => ⟨hb, ?_⟩, fun b o ws hb => ?_, fun b fs hb => ?_⟩
  · refine hb.imp (fun hb => Rd.upd (fun z => ?_) hb) id
    subst z
    rcases hb with hb | ⟨o, hb⟩ <;> rw [h] at hb <;> cases hb
  · rw [upd_ne (fun z => by subst z; exact hb ha)]; exact hw
  · rw [upd_ne (fun z => by subst z; rw [h] at hb; cases hb)]; exact hb
  · rw [upd_ne (fun z => by subst z; rw [h] at hb; cases hb)]; exact hb
theorem Rel.writeD {K : PySem.W.Frag} {ρ : List Addr} {S : Sto} {H : Hp} (r : Rel K ρ S H) {n : Nat} {a : Addr} {kvs kvs2 : List (Key × D)} {us us2 : List (Key × V)} (ha : ρ[n]? = some a) (hs : S[n]? = some (.dic kvs)) (h : H a = some (.dK us)) (d : KVR K ρ H kvs2 us2) :
    Rel K ρ (S.set n (.dic kvs2)) (upd H a (.dK us2)) := by
  have e := Ext.writeD (K := K) (o := .dK us2) (List.mem_of_getElem? ha) h
  refine ⟨by simpa using r.len, r.nd, fun m o b h1 h2 => ?_⟩
  by_cases hm : n = m
  · subst hm
    rw [ha] at h2; cases h2
    have hl := (List.getElem?_eq_some_iff.mp hs).1
    rw [List.getElem?_set_self hl] at h1
    cases h1
    exact ⟨us2, upd_same, KVR.mono e _ _ d⟩
  · rw [List.getElem?_set_ne hm] at h1
    have hb : b ≠ a := fun z => by subst z; exact hm (nodup_at r.nd ha h2)
    exact (r.at_ m o b h1 h2).mono e fun u hu => by rw [upd_ne hb]; exact hu
open Classical in
noncomputable def mDput (v o i : ME) : MS := fun E S => (v E S).toS E fun w S1 => (o E S1).toS E fun x S2 => (i E S2).toS E fun y S3 => match x, dicAt S3 x, keyD y with
  | .loc n, some kvs, some k => if sizeOk (kvs.length + 1) then .nx E (S3.set n (.dic (putD kvs k w))) else .bad
  | _, _, _ => .bad
theorem sd_dput {v : Expr} {mv : ME} {pos' : Pos} (hu : X.A.units + 1 < cLine) (hv : ED X W v mv) (ho : ED X W o mo) (hi : ED X W i mi) (hs : swapsWith v (some (.Subscript o i pos')) pos.line X.env = pure false := by rfl) :
    SD X W (.Assign [.Subscript o i pos'] v pos) (mDput mv mo mi) := by
  refine sd_of (ps_dput hu ho hi hv hs) fun D σ H ρ S E r er p => ?_
  refine ⟨ρ, S, E, r, er, (SPost.bind (R := DV X.K) er p).imp fun w H1 ⟨ρ1, S1, dw, r1, e1, d1, p1⟩ => ?_⟩
  have er1 := er.mono e1
  refine ⟨ρ1, S1, E, r1, er1, (SPost.bind (R := DV X.K) er1 p1).imp fun x H2 ⟨ρ2, S2, dx, r2, e2, d2, p2⟩ => ?_⟩
  have er2 := er1.mono e2
  refine ⟨ρ2, S2, E, r2, er2, (SPost.bind (R := DV X.K) er2 p2).imp fun y H3 ⟨ρ3, S3, dy, r3, e3, d3, p3⟩ => ?_⟩
  have d2' := DV.mono e3 _ _ d2
  cases q : dicAt S3 dx with
  | none => rw [q] at p3; cases dx <;> exact p3.elim
  | some kvs =>
    cases qk : keyD dy with
    | none => rw [q, qk] at p3; cases dx <;> exact p3.elim
    | some k =>
      obtain ⟨n, a, us, rfl, h1, h2, rfl, h3, h4⟩ := dicAt_ok r3 d2' q
      rw [q, qk] at p3
      simp only at p3
      by_cases hz : sizeOk (kvs.length + 1)
      · rw [if_pos hz] at p3
        rw [keyD_V qk d3]
        have hl : us.length < sizeLine := by rw [← h4.length]; exact hz
        refine ⟨a, _, rfl, DPut.k h3 hl, ?_⟩
        have e4 := Ext.writeD (K := X.K) (o := .dK (putK us k w)) (List.mem_of_getElem? h2) h3
        exact p3 ρ3 _ σ (r3.writeD h2 h1 h3 (h4.put (DV.mono e3 _ _ (DV.mono e2 _ _ d1)))) e4 ((er2.mono e3).mono e4)
      · rw [if_neg hz] at p3; exact p3.elim
/-! written dicts of texts, by their names -/
def lookT : List (Tx × D) → Tx → Option D
  | [], _ => none
  | (k, d) :: r, z => if k = z then some d else lookT r z
structure TabOk (K : PySem.W.Frag) (w : World) (x : String) (kvs : List (Tx × D)) : Prop where
  kd : ∃ es n, KDict K w (He.ga K x) es n
  vs : ∀ z : Tx, ∃ r, PySem.W.nsIn K (He.ga K x) ⟨z.toArray⟩ = some r ∧ (match lookT kvs z with
    | some d => ∃ u v, r = some u ∧ RelV v u ∧ ∀ ρ H, DV K ρ H d v
    | none => r = none)
def gTin (x : String) (kvs : List (Tx × D)) (_ : Sto) (y d : D) : Option D := match y, d with
  | .str z, .glo n => if n = x then some (.bl (lookT kvs z).isSome) else none
  | _, _ => none
def gTget (x : String) (kvs : List (Tx × D)) (_ : Sto) (d y : D) : Option D := match d, y with
  | .glo n, .str z => if n = x then lookT kvs z else none
  | _, _ => none
theorem tin_ok {x : String} {kvs : List (Tx × D)} (t : TabOk X.K X.w x kvs) : ∃ es n, ∃ kd : KDict X.K X.w (He.ga X.K x) es n, ∀ y d H Q, rP X.K (gTin x kvs) y d H Q →
    ∃ (z : Str) (r : Option Value), y = .str z ∧ d = .ref (He.ga X.K x) ∧ PySem.W.nsIn X.K (He.ga X.K x) z = some r ∧ Q (.bl r.isSome) H := by
  obtain ⟨es, n, kd⟩ := t.kd
  refine ⟨es, n, kd, ?_⟩
  rintro u v H Q ⟨ρ, S, y, d, res, r, dy, dd, hg, q⟩
  unfold gTin at hg
  split at hg
  · rename_i z nm
    split at hg
    · rename_i hn
      cases hg
      subst hn
      rw [dv_str] at dy; subst dy
      simp only [DV] at dd; subst dd
      obtain ⟨o, h1, h2⟩ := t.vs z
      refine ⟨_, o, rfl, rfl, h1, ?_⟩
      have : o.isSome = (lookT kvs z).isSome := by
        cases e : lookT kvs z with
        | none => rw [e] at h2; rw [h2]; rfl
        | some d => rw [e] at h2; obtain ⟨u, v, h3, _⟩ := h2; rw [h3]; rfl
      rw [this]
      exact q ρ H _ r Ext.refl (by simp [DV])
    · cases hg
  · cases hg
theorem td_tin {x : String} {kvs : List (Tx × D)} (t : TabOk X.K X.w x kvs) (ha : ED X W a ma) (hb : ED X W b mb) (hm : behindInMarks .In b = false) : TD X W (.Compare a [.In] [b] pos) (asB (mBin (gTin x kvs) ma mb)) := by
  obtain ⟨es, n, kd, h⟩ := tin_ok t
  exact td_cmp (op_in_kd kd) h ha hb hm
theorem ed_tin {x : String} {kvs : List (Tx × D)} (t : TabOk X.K X.w x kvs) (ha : ED X W a ma) (hb : ED X W b mb) (hm : behindInMarks .In b = false) : ED X W (.Compare a [.In] [b] pos) (mBin (gTin x kvs) ma mb) := by
  obtain ⟨es, n, kd, h⟩ := tin_ok t
  exact ed_cmp (op_in_kd kd) h ha hb hm
theorem rp_tget {x : String} {kvs : List (Tx × D)} (t : TabOk X.K X.w x kvs) : ∀ d y H Q, rP X.K (gTget x kvs) d y H Q → rIxD X.K X.w d y H Q := by
  obtain ⟨es, n, kd⟩ := t.kd
  rintro u v H Q ⟨ρ, S, d, y, res, r, dd, dy, hg, q⟩
  unfold gTget at hg
  split at hg
  · rename_i nm z
    split at hg
    · rename_i hn
      subst hn
      rw [dv_str] at dy; subst dy
      simp only [DV] at dd; subst dd
      obtain ⟨o, h1, h2⟩ := t.vs z
      rw [hg] at h2
      obtain ⟨u, w, rfl, h3, h4⟩ := h2
      exact ⟨_, _, w, rfl, rfl, ⟨es, n, u, kd.at_, kd.lit, h1, h3⟩, q ρ H w r Ext.refl (h4 ρ H)⟩
    · cases hg
  · cases hg
theorem ed_tget {x : String} {kvs : List (Tx × D)} (t : TabOk X.K X.w x kvs) (ha : ED X W a ma) (hb : ED X W b mb) (hs : PlainIx b) : ED X W (.Subscript a b pos) (mBin (gTget x kvs) ma mb) := ed_ix ix_kdict (rp_tget t) ha hb hs
end
/-! what the look at the written part must say -/
def tabEs (K : PySem.W.Frag) : List (Tx × D) → List DictEntry → Bool
  | [], es => es.isEmpty
  | (k, d) :: r, es => match es with
    | e :: t => (match e.key with
      | .str x _ => decide (x = ⟨k.toArray⟩)
      | _ => false) && (datC K d e.val && tabEs K r t)
    | [] => false
def tabC (K : PySem.W.Frag) (x : String) (kvs : List (Tx × D)) : Bool := match K.lookup (He.ga K x) with
  | some ⟨_, _, .dict es _, _⟩ => tabEs K kvs es.toList
  | _ => false
theorem tx_eq {a b : Tx} : ((⟨a.toArray⟩ : Str) == ⟨b.toArray⟩) = decide (a = b) := tx_str
theorem tabEs_ok {K : PySem.W.Frag} : ∀ (kvs : List (Tx × D)) (es : List DictEntry), tabEs K kvs es = true → (∀ z : Tx, match lookT kvs z with
    | some d => ∃ e, es.find? (fun e => e.key.isStr ⟨z.toArray⟩) = some e ∧ ∃ v, RelV v e.val ∧ ∀ ρ H, DV K ρ H d v
    | none => es.find? (fun e => e.key.isStr ⟨z.toArray⟩) = none) ∧ es.any (·.refKey) = false
  | [], es, h => by
    have : es = [] := by simpa [tabEs] using h
    subst this
    exact ⟨fun z => rfl, rfl⟩
  | (k, d) :: r, es, h => by
    cases es with
    | nil => simp [tabEs] at h
    | cons e t =>
      simp only [tabEs, Bool.and_eq_true] at h
      obtain ⟨h1, h2, h3⟩ := h
      split at h1
      · rename_i x tk he
        have hx : x = ⟨k.toArray⟩ := of_decide_eq_true h1
        subst hx
        obtain ⟨a, b⟩ := tabEs_ok r t h3
        obtain ⟨w, g1, g2⟩ := datC_ok d e.val h2
        refine ⟨fun z => ?_, ?_⟩
        · have hk : e.key.isStr ⟨z.toArray⟩ = decide (k = z) := by rw [he]; exact tx_eq
          by_cases hz : k = z
          · have e1 : lookT ((k, d) :: r) z = some d := by simp [lookT, hz]
            rw [e1]
            exact ⟨e, by rw [List.find?_cons, hk, decide_eq_true hz], w, g1, g2⟩
          · have e1 : lookT ((k, d) :: r) z = lookT r z := by simp [lookT, hz]
            have e2 : (e :: t).find? (fun e => e.key.isStr ⟨z.toArray⟩) = t.find? (fun e => e.key.isStr ⟨z.toArray⟩) := by rw [List.find?_cons, hk, decide_eq_false hz]
            rw [e1, e2]
            exact a z
        · rw [List.any_cons, b, Bool.or_false]
          unfold DictEntry.refKey
          rw [he]
      · cases h1
theorem tab_of {K : PySem.W.Frag} {w : World} {x : String} {kvs : List (Tx × D)} (h : tabC K x kvs = true) (hk : ∃ es n, KDict K w (He.ga K x) es n) : TabOk K w x kvs := by
  refine ⟨hk, fun z => ?_⟩
  unfold tabC at h
  split at h
  · rename_i c dd es n sl q
    obtain ⟨a, b⟩ := tabEs_ok kvs _ h
    have hz := a z
    unfold PySem.W.nsIn
    rw [q]
    simp only
    cases e : lookT kvs z with
    | some d =>
      rw [e] at hz
      obtain ⟨en, h1, v, h2, h3⟩ := hz
      rw [h1]
      exact ⟨_, rfl, en.val, v, rfl, h2, h3⟩
    | none =>
      rw [e] at hz
      simp only at hz
      rw [hz, b]
      exact ⟨none, rfl, rfl⟩
  · cases h
/-! ### the look with tables -/
def keysT (kvs : List (Tx × D)) : List Str := kvs.map fun p => ⟨p.1.toArray⟩
abbrev TabN : Type := String × List Str
def obsBT (n : Nat) (fa : List He.Fa) (fn : List He.DefD) (ex : PySem.W.Frag → Bool) (ts : List TabN) (g : Addr → Option Obj) : (He.AlD × Bool) × List (Option (List (Option (Str × Int)))) :=
  (obsB n fa fn ex g, ts.map fun t => He.dicW (He.frG g (He.asD g n)) (He.ga (He.frG g (He.asD g n)) t.1))
def hookBT (n : Nat) (fa : List He.Fa) (fn : List He.DefD) (ex : PySem.W.Frag → Bool) (ts : List TabN) : PySem.W.Hook where
  α := (He.AlD × Bool) × List (Option (List (Option (Str × Int))))
  obs := fun s => obsBT n fa fn ex ts s.heap.get?
  val := fun w => ((He.valD fn, true), ts.map fun (t : TabN) => some (He.keysIn w.params t.2))
  says := fun w h => ∃ K : PySem.W.Frag, K.In h ∧ He.SaysD fa fn K ∧ ex K = true ∧ ts.map (fun (t : TabN) => He.dicW K (He.ga K t.1)) = ts.map fun (t : TabN) => some (He.keysIn w.params t.2)
  of := fun _ _ e => ⟨_, He.frG_in, congrArg (fun z : (He.AlD × Bool) × List (Option (List (Option (Str × Int)))) => z.1.1) e, congrArg (fun z : (He.AlD × Bool) × List (Option (List (Option (Str × Int)))) => z.1.2) e, congrArg (fun z : (He.AlD × Bool) × List (Option (List (Option (Str × Int)))) => z.2) e⟩
  keeps := fun _ _ _ ⟨K, hK, c⟩ k => ⟨K, PySem.W.Frag.In.keeps hK k, c⟩
theorem obsBT_eq {n : Nat} {fa : List He.Fa} {fn : List He.DefD} {ex : PySem.W.Frag → Bool} {ts : List TabN} {g : Addr → Option Obj} {s : Shared} (h : ∀ a, g a = s.heap.get? a) : obsBT n fa fn ex ts g = (hookBT n fa fn ex ts).obs s := by
  have e : g = s.heap.get? := funext h
  rw [e] <;> rfl
theorem tab_at {K : PySem.W.Frag} {w : World} {ts : List TabN} (c : ts.map (fun (t : TabN) => He.dicW K (He.ga K t.1)) = ts.map fun (t : TabN) => some (He.keysIn w.params t.2)) (i : Nat) {t : TabN} (h : ts[i]? = some t := by rfl) : ∃ es n, KDict K w (He.ga K t.1) es n := by
  have e2 : (ts.map fun t => He.dicW K (He.ga K t.1))[i]? = (ts.map fun (t : TabN) => some (He.keysIn w.params t.2))[i]? := by rw [c]
  rw [List.getElem?_map, List.getElem?_map, h] at e2
  exact He.dicW_ok (Option.some.inj e2)
/-! ### to reckon with -/
section
variable {Q : D → Sto → Prop} {QP : List (D × D) → Sto → Prop} {QD : D → Prop} {N B C : EC} {R : D → Sto → Prop} {XE : Exn → EC} {X : Exn → Sto → Prop} {E : Evn} {S : Sto} {P P' : Prop}
def OkDic (o : Option (List (Key × D))) (Q : List (Key × D) → Prop) (_u : Tg Q Q := .mk) : Prop := match o with
  | some k => Q k
  | none => False
def OkKey (o : Option Key) (Q : Key → Prop) (_u : Tg Q Q := .mk) : Prop := match o with
  | some k => Q k
  | none => False
theorem w_dnew : OkO (mDnew E S) Q X = OkN (S ++ [.dic []]) fun S1 => Q (.loc S.length) S1 := rfl
theorem w_pairs0 : OkO (mPairs [] E S) QP X = QP [] S := rfl
theorem w_pairs1 {k v : ME} {r : List (ME × ME)} : OkO (mPairs ((k, v) :: r) E S) QP X = OkO (k E S) (fun x S1 => OkO (v E S1) (fun y S2 => OkO (mPairs r E S2) (fun ps S3 => QP ((x, y) :: ps) S3) X) X) X := by
  rw [mPairs]
  exact w_bind.trans (OkO_fun fun _ _ => w_bind.trans (OkO_fun fun _ _ => w_bind.trans (OkO_fun fun _ _ => rfl)))
theorem w_disp {ms : List (ME × ME)} : OkO (mDisp ms E S) Q X = OkO (mPairs ms E S) (fun xs S1 => OkDic (keysD xs) fun kvs => OkN (S1 ++ [.dic (mergeD [] kvs)]) fun S2 => Q (.loc S1.length) S2) X := by
  unfold mDisp
  refine w_bind.trans (OkO_fun fun xs S1 => ?_)
  cases keysD xs <;> rfl
theorem w_dics {k : List (Key × D)} {Q : List (Key × D) → Prop} : OkDic (some k) Q = Q k := rfl
theorem w_keys {k : Key} {Q : Key → Prop} : OkKey (some k) Q = Q k := rfl
theorem keysD_nil : keysD [] = some [] := rfl
theorem keysD_str {x : Tx} {d : D} {r : List (D × D)} : keysD ((.str x, d) :: r) = (keysD r).map fun t => (Sum.inr ⟨x.toArray⟩, d) :: t := by
  simp only [keysD, keyD]
  cases keysD r <;> rfl
theorem keysD_int {x : Int} {d : D} {r : List (D × D)} : keysD ((.int x, d) :: r) = (keysD r).map fun t => (Sum.inl x, d) :: t := by
  simp only [keysD, keyD]
  cases keysD r <;> rfl
theorem p_dget {x y : D} : OkP (gDget S x y) QD = OkDic (dicAt S x) fun kvs => OkKey (keyD y) fun k => OkP (valD kvs k) QD := by
  unfold gDget
  cases dicAt S x with
  | none => rfl
  | some kvs => cases keyD y <;> rfl
theorem p_din {x y : D} : OkP (gDin S y x) QD = OkDic (dicAt S x) fun kvs => OkKey (keyD y) fun k => QD (.bl (hasD kvs k)) := by
  unfold gDin
  cases dicAt S x with
  | none => rfl
  | some kvs =>
    cases keyD y with
    | none => rfl
    | some k =>
      show QD (.bl (valD kvs k).isSome) = QD (.bl (hasD kvs k))
      rw [has_val]
theorem p_dnin {x y : D} : OkP (gDnin S y x) QD = OkDic (dicAt S x) fun kvs => OkKey (keyD y) fun k => QD (.bl (!hasD kvs k)) := by
  unfold gDnin
  cases dicAt S x with
  | none => rfl
  | some kvs =>
    cases keyD y with
    | none => rfl
    | some k =>
      show QD (.bl (!(valD kvs k).isSome)) = QD (.bl (!hasD kvs k))
      rw [has_val]
theorem w_dget2 {o e f : ME} : OkO (mDget2 o e f E S) Q X = OkO (o E S) (fun x S1 => OkDic (dicAt S1 x) fun _ => OkO (e E S1) (fun y S2 => OkO (f E S2) (fun z S3 => OkDic (dicAt S3 x) fun kvs => OkKey (keyD y) fun k => OkN ((valD kvs k).getD z) fun d => Q d S3) X) X) X := by
  unfold mDget2
  refine w_bind.trans (OkO_fun fun x S1 => ?_)
  cases dicAt S1 x with
  | none => rfl
  | some k1 =>
    refine w_bind.trans (OkO_fun fun y S2 => w_bind.trans (OkO_fun fun z S3 => ?_))
    cases dicAt S3 x with
    | none => rfl
    | some kvs => cases keyD y <;> rfl
theorem w_dput {v o i : ME} : OkS (mDput v o i E S) N R XE B C = OkO (v E S) (fun w S1 => OkO (o E S1) (fun x S2 => OkO (i E S2) (fun y S3 => OkLoc x fun n => OkDic (dicAt S3 x) fun kvs => OkKey (keyD y) fun k => sizeOk (kvs.length + 1) ∧ OkN (S3.set n (.dic (putD kvs k w))) fun S4 => N E S4) (fun e S1 => XE e E S1)) (fun e S1 => XE e E S1)) (fun e S1 => XE e E S1) := by
  unfold mDput
  refine w_toS.trans (OkO_fun fun w S1 => w_toS.trans (OkO_fun fun x S2 => w_toS.trans (OkO_fun fun y S3 => ?_)))
  cases x <;> first | rfl | skip
  rename_i n
  cases dicAt S3 (.loc n) with
  | none => rfl
  | some kvs =>
    cases keyD y with
    | none => rfl
    | some k =>
      simp only [OkLoc, OkDic, OkKey]
      by_cases h : sizeOk (kvs.length + 1)
      · simp only [if_pos h, h, true_and]; rfl
      · simp only [if_neg h, h, false_and]; rfl
theorem dicAt_loc {n : Nat} {kvs : List (Key × D)} (h : S[n]? = some (.dic kvs)) : dicAt S (.loc n) = some kvs := by simp only [dicAt, h]
theorem dicAt_locM {n : Nat} : dicAt S (.loc n) = (match S[n]? with
    | some (.dic kvs) => some kvs
    | _ => none) := rfl
theorem keyD_str {x : Tx} : keyD (.str x) = some (Sum.inr ⟨x.toArray⟩) := rfl
theorem keyD_int {x : Int} : keyD (.int x) = some (Sum.inl x) := rfl
theorem merge_nil {kvs : List (Key × D)} : mergeD kvs [] = kvs := rfl
theorem merge_cons {kvs r : List (Key × D)} {p : Key × D} : mergeD kvs (p :: r) = mergeD (putD kvs p.1 p.2) r := rfl
theorem p_tin {x : String} {kvs : List (Tx × D)} {z : Tx} : gTin x kvs S (.str z) (.glo x) = some (.bl (lookT kvs z).isSome) := by simp [gTin]
theorem p_tget {x : String} {kvs : List (Tx × D)} {z : Tx} : gTget x kvs S (.glo x) (.str z) = lookT kvs z := by simp [gTget]
end
end PD

/-! PyF4: chains of comparisons, replace behind what gives out a token. -/
namespace PD
open PySem PySem.Spec PyProof PyProof.Rows L2
/-! ### a op b op c -/
def mChain (g g' : Sto → D → D → Option D) (a b c : ME) : ME := fun E S => (a E S).bind fun x S1 => (b E S1).bind fun y S2 => match g S2 x y with
  | some (.bl true) => (c E S2).bind fun z S3 => (match g' S3 y z with
    | some d => .ok d S3
    | none => .bad)
  | some (.bl false) => .ok (.bl false) S2
  | _ => .bad
section
variable {X : Cx} {W : WW X.K} {pos : Pos} {a b c : Expr} {ma mb mc : ME} {g g' : Sto → D → D → Option D}
theorem chain_read {r r' : R2} (hr : ∀ x y H Q, rP X.K g x y H Q → r x y H Q) (hr' : ∀ x y H Q, rP X.K g' x y H Q → r' x y H Q) : ∀ σ H Q ρ S E, Rel X.K ρ S H → ER X.K W ρ H E σ → Post X.K (DV X.K) ρ H Q (fun c dx H' => W.w c dx σ H') (mChain g g' ma mb mc E S) →
    tChain r r' (tE X.K W ma) (tE X.K W mb) (tE X.K W mc) σ H Q := by
  intro σ H Q ρ S E re er p
  refine ⟨ρ, S, E, re, er, (Post.bind (R := DV X.K) p).imp fun x H1 ⟨ρ1, S1, dx, r1, e1, d1, p1⟩ => ?_⟩
  refine ⟨ρ1, S1, E, r1, er.mono e1, (Post.bind (R := DV X.K) p1).imp fun y H2 ⟨ρ2, S2, dy, r2, e2, d2, p2⟩ => ?_⟩
  have go : ∀ k, g S2 dx dy = some (.bl k) → Post X.K (DV X.K) ρ2 H2 Q (fun c dx H' => W.w c dx σ H') (if k = true then (mc E S2).bind fun z S3 => (match g' S3 dy z with
    | some d => Out.ok d S3
    | none => Out.bad) else .ok (.bl false) S2) → r x y H2 fun z H3 => ∃ k, z = .bl k ∧ (if k = true then tE X.K W mc σ H3 fun w' H4 => r' y w' H4 Q else Q (.bl false) H3) := fun k hk pk => by
    refine hr _ _ _ _ ⟨ρ2, S2, dx, dy, .bl k, r2, DV.mono e2 _ _ d1, d2, hk, fun ρ3 H3 v r3 e3 d3 => ⟨k, dv_bl.mp d3, ?_⟩⟩
    cases k with
    | false =>
      rw [if_neg (by simp)] at pk ⊢
      exact pk ρ3 H3 _ r3 e3 (by simp [DV])
    | true =>
      rw [if_pos rfl] at pk ⊢
      refine ⟨ρ3, S2, E, r3, (er.mono e1).mono (e2.trans e3), (Post.bind (R := DV X.K) (pk.start e3)).imp fun z H4 ⟨ρ4, S4, dz, r4, e4, d4, p4⟩ => ?_⟩
      obtain ⟨d, hd, q⟩ := post_opt p4
      exact hr' _ _ _ _ ⟨ρ4, S4, dy, dz, d, r4, DV.mono (e3.trans e4) _ _ d2, d4, hd, q⟩
  cases hg : g S2 dx dy with
  | none => rw [hg] at p2; exact p2.elim
  | some d =>
    rw [hg] at p2
    cases d with
    | bl k =>
      refine go k hg ?_
      cases k with
      | false => rw [if_neg (by simp)]; exact p2
      | true => rw [if_pos rfl]; exact p2
    | _ => exact p2.elim
theorem ed_chain {op op' : CmpOp} {r r' : R2} (ho : OpR X (compareOp op) r) (hr : ∀ x y H Q, rP X.K g x y H Q → r x y H Q) (ho' : OpR X (compareOp op') r') (hr' : ∀ x y H Q, rP X.K g' x y H Q → r' x y H Q) (ha : ED X W a ma) (hb : ED X W b mb) (hc : ED X W c mc)
    (hm : lastMarks [op, op'] [b, c] = false := by with_unfolding_all rfl) : ED X W (.Compare a [op, op'] [b, c] pos) (mChain g g' ma mb mc) := ed_of (pe_chain ho ho' ha hb hc hm) (chain_read hr hr')
theorem td_chain {op op' : CmpOp} {r r' : R2} (ho : OpR X (compareOp op) r) (hr : ∀ x y H Q, rP X.K g x y H Q → r x y H Q) (ho' : OpR X (compareOp op') r') (hr' : ∀ x y H Q, rP X.K g' x y H Q → r' x y H Q) (ha : ED X W a ma) (hb : ED X W b mb) (hc : ED X W c mc)
    (hm : lastMarks [op, op'] [b, c] = false := by with_unfolding_all rfl) : TD X W (.Compare a [op, op'] [b, c] pos) (asB (mChain g g' ma mb mc)) :=
  td_of (pt_chain ho ho' ha hb hc hm) (asB_read fun σ H Q ⟨ρ, S, E, r, er, p⟩ => chain_read hr hr' σ H Q ρ S E r er p)
end
section
variable {Q : D → Sto → Prop} {X : Exn → Sto → Prop} {E : Evn} {S : Sto} {a b c : ME} {g g' : Sto → D → D → Option D}
theorem w_chain : OkO (mChain g g' a b c E S) Q X = OkO (a E S) (fun x S1 => OkO (b E S1) (fun y S2 => OkP (g S2 x y) fun d => OkB d fun k => OkI k (OkO (c E S2) (fun z S3 => OkP (g' S3 y z) fun d => Q d S3) X) (Q (.bl false) S2)) X) X := by
  unfold mChain
  refine w_bind.trans (OkO_fun fun x S1 => w_bind.trans (OkO_fun fun y S2 => ?_))
  cases g S2 x y with
  | none => rfl
  | some d =>
    cases d with
    | bl k =>
      cases k with
      | true =>
        show OkO ((c E S2).bind fun z S3 => _) Q X = OkI true _ _
        rw [w_itrue]
        exact w_bind.trans (OkO_fun fun z S3 => opt_ok)
      | false => show Q (.bl false) S2 = OkI false _ _; rw [w_ifalse]
    | _ => rfl
end
/-! ### what gives out a token -/
section
variable {X : Cx} {W : WW X.K} {pos : Pos} {o e : Expr} {es : List Expr} {mo m : ME} {ma : MA} {apos c0 c1 : Pos} {j k : Nat} {ys zs : Str} {y z : Tx}
theorem ekd_ed (h : EKD X W e m) : ED X W e m := ⟨fun pins s σ H Q I q => thn (h.run pins s σ H Q I q) fun _ _ z => z.2⟩
theorem ekd_replK (ho : EKD X W o mo) (ey : ys = ⟨y.toArray⟩) (ez : zs = ⟨z.toArray⟩) (hy : y ≠ []) (hyz : (ys == zs) = false := by decide)
    (hst : starEach [.Constant (.str ys) j c0, .Constant (.str zs) k c1] X.env = [(false, eval (.Constant (.str ys) j c0) X.env), (false, eval (.Constant (.str zs) k c1) X.env)] := by rfl)
    (hbase : attributeBase o "replace" X.env (eval o X.env) = eval o X.env := by rfl) (hline : (apos.endLine == pos.line) = true := by rfl) :
    EKD X W (.Call (.Attribute o "replace" apos) [.Constant (.str ys) j c0, .Constant (.str zs) k c1] [] pos) (mRepl y z mo) := by
  subst ey ez
  refine ⟨?_⟩
  intro pins s σ H Q I h
  have h := repl_read (X := X) (W := W) (y := y) (z := z) (mo := mo) (to := tE X.K W mo) hy σ H Q h
  refine PySem.Call_method2 hbase hst hline (wpAny_mono (ho.run pins s σ H _ I h) (fun v s1 q => ?_) fun _ _ z => z)
  obtain ⟨hk, v', H1, I1, r1, x, e1, hb, q⟩ := q
  subst e1
  obtain ⟨tx, e2⟩ := r1
  subst e2
  refine ⟨"str", _, PySem.F.plainAttrs_str, PySem.F.slot_str_replace, PySem.F.type_str_replace, typeIs_str _ _ _, (fun _ e => nomatch e), Calls.callWith_builtin rfl (Calls.evalArgs_plain (Calls.spliced_cons ?_))⟩
  refine Calls.Constant_str (Calls.spliced_cons (Calls.Constant_str (Calls.spliced_nil ?_)))
  have fin := wpAny_toks_of (n := 1) (s := { s1 with toks := s1.toks + 1 + 1 }) (by show 1 ≤ s1.toks + 1 + 1; omega) (PySem.SC.replace (prog := X.prog) (w := X.w) (A := X.A) (E := X.xe) (s := { s1 with toks := s1.toks + 1 + 1 }) (t := tx) (Q := EP X pins σ Q) (by show s1.toks ≠ 0; omega) (by show s1.toks + 1 ≠ 0; omega) (by show s1.toks ≠ s1.toks + 1; omega) hyz hb fun t' k => ⟨.str (Txt.replace x ⟨y.toArray⟩ ⟨z.toArray⟩), H1, I1.tok k, ⟨t', rfl⟩, q⟩)
  exact wpAny_mono fin (fun _ _ z => z) fun _ _ z => z.2
theorem ekd_sm {id : String} {name : Str} {r : V → List V → Hp → VK → Prop} {g : Sto → Tx → List D → Option D} (slot : Slot "str" name id) (ty : typeOf (.builtin id) = pure (.type "method_descriptor")) (hm : MtR X id r) (hr : ∀ x vs H Q, rPM X.K g x vs H Q → r x vs H Q) (ho : EKD X W o mo) (ha : AD X W (e :: es) ma)
    (hbase : attributeBase o name X.env (eval o X.env) = eval o X.env := by rfl)
    (hfew : ((backTo pos (starEach (e :: es) X.env)).all (fun x => !x.1) && (backToKw pos (keywordEach [] X.env)).all (fun x => x.1.isSome)
      && decide ((e :: es).length + ([] : List Keyword).length + (if ([] : List Keyword).isEmpty then 0 else 1) < 30)) = true := by rfl)
    (hline : (apos.endLine == pos.line) = true := by rfl) (hs : starEach (e :: es) X.env = (false, eval e X.env) :: starEach es X.env := by rfl) (hplain : (backTo pos (starEach es X.env)).any (·.1) = false := by rfl) :
    EKD X W (.Call (.Attribute o name apos) (e :: es) [] pos) (mSM g mo ma) := by
  refine ⟨?_⟩
  rintro pins s σ H Q I ⟨ρ, S, E, r0, er, p⟩
  have h : tE X.K W mo σ H fun x H1 => ∃ z, x = sv z ∧ tA X.K W ma σ H1 fun vs H2 => r x vs H2 Q := by
    refine ⟨ρ, S, E, r0, er, (Post.bind (R := DV X.K) p).imp fun x H1 ⟨ρ1, S1, d, r1, e1, d1, p1⟩ => ?_⟩
    cases d with
    | str z =>
      rw [dv_str] at d1; subst d1
      refine ⟨z, rfl, ρ1, S1, E, r1, er.mono e1, (Post.bind (R := DVs X.K) p1).imp fun vs H2 ⟨ρ2, S2, ds, r2, e2, d2, p2⟩ => ?_⟩
      obtain ⟨u, hu, q⟩ := post_opt p2
      exact hr _ _ _ _ ⟨ρ2, S2, z, ds, u, rfl, r2, d2, hu, q⟩
    | _ => exact p1.elim
  refine wpAny_Call_method_late hbase hfew hline rfl (wpAny_mono (ho.run pins s σ H _ I h) (fun v s1 q => ?_) fun _ _ z => z)
  obtain ⟨k1, x, H1, I1, r1, z, rfl, q1⟩ := q
  obtain ⟨tx, rfl⟩ := r1
  refine ⟨"str", id, F.plainAttrs_str, slot, ty, typeIs_str _ _ _, (fun _ e => nomatch e), ?_⟩
  have hA := PA.run ha pos pins s1 σ H1 _ I1 q1
  rw [hs] at hA ⊢
  refine Calls.callWith_builtin (by show (false || (backTo pos (starEach es X.env)).any (·.1)) = false; rw [hplain] <;> rfl) (Calls.evalArgs_plain ?_)
  refine wpAny_mono (wpAny_toks_of k1 hA) (fun us s2 ⟨k2, vs, H2, I2, r2, q2⟩ => ?_) fun _ _ z => z.2
  exact wpAny_mono (wpAny_toks_of k2 (hm pins s2 σ H2 (sv z) vs _ us Q I2 ⟨tx, rfl⟩ r2 q2)) (fun _ _ z => z) fun _ _ z => z.2
end
end PD

/-! PyF5: zip of two texts, the call and a turn. -/
namespace PD
open PySem PySem.Spec PyProof PyProof.Rows L2
/-! ### zip of two texts -/
section
variable {prog : Program} {w : World} {A : Around} {E : Value → Shared → Prop} {s : Shared}
theorem nxS {it : Addr} {ty : String} {x : Str} {t : Tok} {i c : Nat} {Q : Value → Shared → Prop} (hty : ty = "str_ascii_iterator" ∨ ty = "str_iterator") (hit : s.heap.IsStrIter it ty x t i) (hx : x.cps[i]? = some c)
    (hQ : ∀ h', h'.IsStrIter it ty x t (i + 1) → Heap.SameBut it s.heap h' → Q (.str ⟨#[c]⟩ s.toks) { s with heap := h', toks := s.toks + 1 }) : wpAny (model prog w) A (Builtin.SmallTypes.nextOf (.ref it)) Q E s := by
  have key : ∀ {R : Option Value → Shared → Prop}, (∀ h', h'.IsStrIter it ty x t (i + 1) → Heap.SameBut it s.heap h' → R (some (.str ⟨#[c]⟩ s.toks)) { s with heap := h', toks := s.toks + 1 }) → wpAny (model prog w) A (callSpecial? (.ref it) "__next__") R E s := by
    intro R hR
    obtain ⟨o, ho, hc, hd⟩ := id hit
    rcases hty with rfl | rfl
    · refine wpAny_callSpecial?_slot (name := Str.ofString "__next__") hit.typeIs F.slot_str_ascii_iterator_next (wpAny_call_entry F.slot_str_ascii_iterator_next hit.typeIs F.entry_str_ascii_iterator_next ?_ (F.args_str_ascii_iterator_next_1 _))
      show wpAny (model prog w) _ (field (.ref it) 0 >>= _) _ _ s
      refine wpAny_bind (wpAny_field ho hd (x := .str x t) rfl ?_); show wpAny (model prog w) _ (field (.ref it) 1 >>= _) _ _ s
      refine wpAny_bind (wpAny_field ho hd (x := .int i 0) rfl ?_); simp only [Int.toNat_natCast, hx]
      refine wpAny_bind (wpAny_setField ho hd (by simp) (wpAny_bind (wpAny_mkStr (wpAny_pure ⟨_, rfl, hR _ ⟨_, Heap.get?_update_self _ ho (Obj.isFreed_of_fields (Obj.data_mapFields hd _)), (Obj.cls_mapFields ..).trans hc, ?_⟩ (Heap.SameBut.update ..)⟩) (by show 1 ≤ sizeLine; decide))))
      rw [Obj.data_mapFields hd]; simp [rawInt]
    · refine wpAny_callSpecial?_slot (name := Str.ofString "__next__") hit.typeIs F.slot_str_iterator_next (wpAny_call_entry F.slot_str_iterator_next hit.typeIs F.entry_str_iterator_next ?_ (F.args_str_iterator_next_1 _))
      show wpAny (model prog w) _ (field (.ref it) 0 >>= _) _ _ s
      refine wpAny_bind (wpAny_field ho hd (x := .str x t) rfl ?_); show wpAny (model prog w) _ (field (.ref it) 1 >>= _) _ _ s
      refine wpAny_bind (wpAny_field ho hd (x := .int i 0) rfl ?_); simp only [Int.toNat_natCast, hx]
      refine wpAny_bind (wpAny_setField ho hd (by simp) (wpAny_bind (wpAny_mkStr (wpAny_pure ⟨_, rfl, hR _ ⟨_, Heap.get?_update_self _ ho (Obj.isFreed_of_fields (Obj.data_mapFields hd _)), (Obj.cls_mapFields ..).trans hc, ?_⟩ (Heap.SameBut.update ..)⟩) (by show 1 ≤ sizeLine; decide))))
      rw [Obj.data_mapFields hd]; simp [rawInt]
  unfold Builtin.SmallTypes.nextOf
  exact wpAny_bind (key fun h' a b => wpAny_pure (hQ h' a b))
theorem nxS_end {it : Addr} {ty : String} {x : Str} {t : Tok} {i : Nat} {Q : Value → Shared → Prop} (hty : ty = "str_ascii_iterator" ∨ ty = "str_iterator") (hh : A.handled = none) (hit : s.heap.IsStrIter it ty x t i) (hx : x.cps[i]? = none)
    (hE : ∀ h' e, Heap.ExtBut it s.heap h' → (∃ o, h'.get? e = some o ∧ o.cls = .type "StopIteration") → E (.ref e) { s with heap := h' }) : wpAny (model prog w) A (Builtin.SmallTypes.nextOf (.ref it)) Q E s := by
  obtain ⟨o, ho, hc, hd⟩ := id hit
  unfold Builtin.SmallTypes.nextOf
  have last : ∀ {h1 : Heap} {B : Around} {R : Fin → Shared → Prop}, B.handled = none → Heap.ExtBut it s.heap h1 → wpAny (model prog w) B (raiseNew =<< newExc (.type "StopIteration") []) R E { s with heap := h1 } := by
    intro h1 B R hB hb
    show wpAny (model prog w) _ (newExc (.type "StopIteration") [] >>= _) _ _ _
    refine wpAny_bind ?_; simp only [newExc, newTuple]
    refine wpAny_bind (wpAny_newObj_type ?_ (by size_fits)); refine wpAny_bind (m := firstArgMember _ _) (wpAny_of_eq (a := Value.none) (by first | rfl | (simp only [firstArgMember]; rfl)) ?_)
    refine wpAny_newObj_type ?_ (by size_fits); simp only [raiseNew]
    refine wpAny_bind (wpAny_handled ?_); rw [hB]
    exact wpAny_bind (wpAny_pure (wpAny_throw (hE _ _ ((hb.push _).push _) ⟨_, Heap.get?_push_size _ rfl, rfl⟩)))
  rcases hty with rfl | rfl
  · refine wpAny_bind (wpAny_callSpecial?_slot (name := Str.ofString "__next__") hit.typeIs F.slot_str_ascii_iterator_next (wpAny_call_entry F.slot_str_ascii_iterator_next hit.typeIs F.entry_str_ascii_iterator_next ?_ (F.args_str_ascii_iterator_next_1 _)))
    show wpAny (model prog w) _ (field (.ref it) 0 >>= _) _ _ s
    refine wpAny_bind (wpAny_field ho hd (x := .str x t) rfl ?_); show wpAny (model prog w) _ (field (.ref it) 1 >>= _) _ _ s
    refine wpAny_bind (wpAny_field ho hd (x := .int i 0) rfl ?_); simp only [Int.toNat_natCast, hx]
    refine wpAny_bind (wpAny_rule (wpAny_bind (wpAny_setField ho hd (by simp) (wpAny_bind (wpAny_letGo ?_)))))
    exact last hh (Heap.SameBut.update ..).extBut
  · refine wpAny_bind (wpAny_callSpecial?_slot (name := Str.ofString "__next__") hit.typeIs F.slot_str_iterator_next (wpAny_call_entry F.slot_str_iterator_next hit.typeIs F.entry_str_iterator_next ?_ (F.args_str_iterator_next_1 _)))
    show wpAny (model prog w) _ (field (.ref it) 0 >>= _) _ _ s
    refine wpAny_bind (wpAny_field ho hd (x := .str x t) rfl ?_); show wpAny (model prog w) _ (field (.ref it) 1 >>= _) _ _ s
    refine wpAny_bind (wpAny_field ho hd (x := .int i 0) rfl ?_); simp only [Int.toNat_natCast, hx]
    refine wpAny_bind (wpAny_rule (wpAny_bind (wpAny_setField ho hd (by simp) (wpAny_bind (wpAny_letGo ?_)))))
    exact last hh (Heap.SameBut.update ..).extBut
/-- five records apart -/
structure Ap (z TI TO a b : Addr) : Prop where
  tz : TI ≠ z
  oz : TO ≠ z
  az : a ≠ z
  bz : b ≠ z
  to : TI ≠ TO
  ta : TI ≠ a
  tb : TI ≠ b
  oa : TO ≠ a
  ob : TO ≠ b
  ab : a ≠ b
variable {z TI TO a b : Addr} {k : Nat} {ty ty' : String} {x y : Str} {t t' : Tok}
theorem zS_item {c d : Nat} {u v : Value} {Q : Value → Shared → Prop} (D : Ap z TI TO a b) (h0 : ty = "str_ascii_iterator" ∨ ty = "str_iterator") (h0' : ty' = "str_ascii_iterator" ∨ ty' = "str_iterator")
    (hz : IsZip s.heap z TI TO .none) (hI : IsPair s.heap TI (.ref a) (.ref b)) (hO : IsPair s.heap TO u v) (h1 : s.heap.IsStrIter a ty x t k) (h2 : s.heap.IsStrIter b ty' y t' k) (hx : x.cps[k]? = some c) (hy : y.cps[k]? = some d)
    (hQ : ∀ h' c' d' tk, (∃ q, c' = .str ⟨#[c]⟩ q) → (∃ q, d' = .str ⟨#[d]⟩ q) → IsZip h' z TI TO (rawInt s.heap.objs.size) → IsPair h' TO c' d' → h'.IsStrIter a ty x t (k + 1) → h'.IsStrIter b ty' y t' (k + 1) → IsPair h' s.heap.objs.size c' d' → h'.objs.size = s.heap.objs.size + 1 →
      (∀ r o, r ≠ z → r ≠ TO → r ≠ a → r ≠ b → s.heap.get? r = some o → h'.get? r = some o) → Q (.ref s.heap.objs.size) { s with heap := h', toks := tk }) :
    wpAny (model prog w) A (Builtin.«zip.__next__» ⟨[.ref z], []⟩) (fun fin s' => ∃ v, fin = .done (.ret v) ∧ Q v s') E s := by
  show wpAny (model prog w) _ (field (.ref z) 2 >>= _) _ _ _
  refine wpAny_bind (wpAny_field hz rfl (x := .bool false) rfl ?_); show wpAny (model prog w) _ (field (.ref z) 3 >>= _) _ _ _
  refine wpAny_bind (wpAny_field hz rfl (x := .ref TI) rfl (wpAny_bind (wpAny_seqItems hI rfl ?_)))
  show wpAny (model prog w) _ (Builtin.SmallTypes.ownedTupleIsFree (.ref z) >>= _) _ _ _
  refine wpAny_bind ?_; unfold Builtin.SmallTypes.ownedTupleIsFree
  refine wpAny_bind (wpAny_field hz rfl (x := .none) rfl (wpAny_pure ?_)); simp only [if_true]
  refine wpAny_bind (wpAny_rule (wpAny_bind (wpAny_field hz rfl (x := .ref TO) rfl (wpAny_bind (wpAny_setField_rec hz (by simp) fun g1 z1 e1 => ?_)))))
  replace z1 : IsZip g1 z TI TO .ellipsis := z1
  refine wpAny_bind ?_; simp only [List.zipIdx_cons, List.zipIdx_nil, List.forIn_cons, List.forIn_nil]
  refine wpAny_bind (wpAny_bind (wpAny_onRaise ?_)); show wpAny (model prog w) _ (Builtin.SmallTypes.nextOf (.ref a) >>= _) _ _ _
  refine wpAny_bind (nxS h0 (h1.extBut e1.extBut D.az) hx fun g2 a2 e2 => wpAny_pure ?_)
  have O2 : IsPair g2 TO u v := e2.extBut _ _ D.oa (e1.extBut _ _ D.oz hO)
  refine wpAny_bind (wpAny_seqItems O2 rfl (wpAny_bind (wpAny_updateSeq_pair O2 fun g3 O3 e3 => ?_)))
  replace O3 : IsPair g3 TO (.str ⟨#[c]⟩ s.toks) v := O3
  refine wpAny_bind (wpAny_letGo (wpAny_pure (wpAny_bind (wpAny_bind (wpAny_onRaise ?_))))); show wpAny (model prog w) _ (Builtin.SmallTypes.nextOf (.ref b) >>= _) _ _ _
  refine wpAny_bind (nxS h0' (((h2.extBut e1.extBut D.bz).extBut e2.extBut D.ab.symm).extBut e3.extBut D.ob.symm) hy fun g4 b4 e4 => wpAny_pure ?_)
  have O4 : IsPair g4 TO (.str ⟨#[c]⟩ s.toks) v := e4.extBut _ _ D.ob O3
  refine wpAny_bind (wpAny_seqItems O4 rfl (wpAny_bind (wpAny_updateSeq_pair O4 fun g5 O5 e5 => ?_)))
  replace O5 : IsPair g5 TO (.str ⟨#[c]⟩ s.toks) (.str ⟨#[d]⟩ (s.toks + 1)) := O5
  refine wpAny_bind (wpAny_letGo (wpAny_pure (wpAny_pure (wpAny_bind (wpAny_seqItems O5 rfl (wpAny_bind (wpAny_newTuple ?_)))))))
  have sz : g5.objs.size = s.heap.objs.size := by rw [e5.1, e4.1, e3.1, e2.1, e1.1]
  have z5 : IsZip g5 z TI TO .ellipsis := e5.extBut _ _ D.oz.symm (e4.extBut _ _ D.bz.symm (e3.extBut _ _ D.oz.symm (e2.extBut _ _ D.az.symm z1)))
  have k5 : ∀ r o, r ≠ z → r ≠ TO → r ≠ a → r ≠ b → s.heap.get? r = some o → g5.get? r = some o := fun r o r1 r2 r3 r4 q => e5.extBut _ _ r2 (e4.extBut _ _ r4 (e3.extBut _ _ r2 (e2.extBut _ _ r3 (e1.extBut _ _ r1 q))))
  have a5 : g5.IsStrIter a ty x t (k + 1) := ((a2.extBut e3.extBut D.oa.symm).extBut e4.extBut D.ab).extBut e5.extBut D.oa.symm
  have b5 : g5.IsStrIter b ty' y t' (k + 1) := b4.extBut e5.extBut D.ob.symm
  have lz : z < g5.objs.size := Heap.lt_size z5
  show wpAny (model prog w) _ (Builtin.SmallTypes.ownedTupleHandOut (.ref z) (.ref g5.objs.size) >>= _) _ _ _
  refine wpAny_bind ?_; unfold Builtin.SmallTypes.ownedTupleHandOut
  have z6 : IsZip (g5.push { cls := .type "tuple", data := .seq #[.str ⟨#[c]⟩ s.toks, .str ⟨#[d]⟩ (s.toks + 1)] }) z TI TO .ellipsis := Heap.get?_push_of_some _ z5
  refine wpAny_bind (wpAny_setField_rec z6 (by simp) fun g7 z7 e7 => ?_)
  replace z7 : IsZip g7 z TI TO (rawInt g5.objs.size) := z7
  refine wpAny_setField_rec z7 (by simp) fun g8 z8 e8 => ?_
  replace z8 : IsZip g8 z TI TO (rawInt g5.objs.size) := z8
  have up : ∀ r o, r ≠ z → g5.get? r = some o → g8.get? r = some o := fun r o r1 q => e8.extBut _ _ r1 (e7.extBut _ _ r1 (Heap.get?_push_of_some _ q))
  have T8 : IsPair g8 g5.objs.size (.str ⟨#[c]⟩ s.toks) (.str ⟨#[d]⟩ (s.toks + 1)) := e8.extBut _ _ (Nat.ne_of_gt lz) (e7.extBut _ _ (Nat.ne_of_gt lz) (Heap.get?_push_size _ rfl))
  have s8 : g8.objs.size = g5.objs.size + 1 := by rw [e8.1, e7.1, Heap.size_push]
  rw [sz] at z8 T8 s8
  refine wpAny_pure ⟨_, rfl, ?_⟩; show Q (.ref g5.objs.size) _
  rw [sz]
  exact hQ g8 _ _ _ ⟨_, rfl⟩ ⟨_, rfl⟩ z8 (up _ _ D.oz O5) (let ⟨o, e, r⟩ := a5; ⟨o, up _ o D.az e, r⟩) (let ⟨o, e, r⟩ := b5; ⟨o, up _ o D.bz e, r⟩) T8 s8 fun r o r1 r2 r3 r4 q => up r o r1 (k5 r o r1 r2 r3 r4 q)
theorem zS_end {u v : Value} {Q : Fin → Shared → Prop} (hh : A.handled = none) (D : Ap z TI TO a b) (h0 : ty = "str_ascii_iterator" ∨ ty = "str_iterator") (h0' : ty' = "str_ascii_iterator" ∨ ty' = "str_iterator")
    (hz : IsZip s.heap z TI TO .none) (hI : IsPair s.heap TI (.ref a) (.ref b)) (hO : IsPair s.heap TO u v) (h1 : s.heap.IsStrIter a ty x t k) (h2 : s.heap.IsStrIter b ty' y t' k) (hend : x.cps[k]? = none ∨ y.cps[k]? = none)
    (hE : ∀ h' e tk, (∀ r o, r ≠ z → r ≠ TO → r ≠ a → r ≠ b → s.heap.get? r = some o → h'.get? r = some o) → (∃ o, h'.get? e = some o ∧ o.cls = .type "StopIteration") → E (.ref e) { s with heap := h', toks := tk }) :
    wpAny (model prog w) A (Builtin.«zip.__next__» ⟨[.ref z], []⟩) Q E s := by
  show wpAny (model prog w) _ (field (.ref z) 2 >>= _) _ _ _
  refine wpAny_bind (wpAny_field hz rfl (x := .bool false) rfl ?_); show wpAny (model prog w) _ (field (.ref z) 3 >>= _) _ _ _
  refine wpAny_bind (wpAny_field hz rfl (x := .ref TI) rfl (wpAny_bind (wpAny_seqItems hI rfl ?_)))
  show wpAny (model prog w) _ (Builtin.SmallTypes.ownedTupleIsFree (.ref z) >>= _) _ _ _
  refine wpAny_bind ?_; unfold Builtin.SmallTypes.ownedTupleIsFree
  refine wpAny_bind (wpAny_field hz rfl (x := .none) rfl (wpAny_pure ?_)); simp only [if_true]
  refine wpAny_bind (wpAny_rule (wpAny_bind (wpAny_field hz rfl (x := .ref TO) rfl (wpAny_bind (wpAny_setField_rec hz (by simp) fun g1 z1 e1 => ?_)))))
  replace z1 : IsZip g1 z TI TO .ellipsis := z1
  refine wpAny_bind ?_; simp only [List.zipIdx_cons, List.zipIdx_nil, List.forIn_cons, List.forIn_nil]
  refine wpAny_bind (wpAny_bind (wpAny_onRaise ?_)); show wpAny (model prog w) _ (Builtin.SmallTypes.nextOf (.ref a) >>= _) _ _ _
  cases hx : x.cps[k]? with
  | none =>
    refine wpAny_bind (nxS_end h0 hh (h1.extBut e1.extBut D.az) hx fun g2 e e2 he => ?_)
    obtain ⟨oe, ge, ce⟩ := he
    have z2 : IsZip g2 z TI TO .ellipsis := e2 _ _ D.az.symm z1
    have ne : e ≠ z := fun q => by subst q; rw [z2] at ge; cases ge; simp at ce
    refine wpAny_setField_rec z2 (by simp) fun g3 _ e3 => hE g3 e s.toks (fun r o r1 _ r3 _ q => e3.extBut _ _ r1 (e2 _ _ r3 (e1.extBut _ _ r1 q))) ⟨oe, e3.extBut _ _ ne ge, ce⟩
  | some c =>
    have hy : y.cps[k]? = none := by rcases hend with h | h; rw [hx] at h; cases h; exact h
    refine wpAny_bind (nxS h0 (h1.extBut e1.extBut D.az) hx fun g2 a2 e2 => wpAny_pure ?_)
    have O2 : IsPair g2 TO u v := e2.extBut _ _ D.oa (e1.extBut _ _ D.oz hO)
    refine wpAny_bind (wpAny_seqItems O2 rfl (wpAny_bind (wpAny_updateSeq_pair O2 fun g3 O3 e3 => ?_)))
    refine wpAny_bind (wpAny_letGo (wpAny_pure (wpAny_bind (wpAny_bind (wpAny_onRaise ?_))))); show wpAny (model prog w) _ (Builtin.SmallTypes.nextOf (.ref b) >>= _) _ _ _
    refine wpAny_bind (nxS_end h0' hh (((h2.extBut e1.extBut D.bz).extBut e2.extBut D.ab.symm).extBut e3.extBut D.ob.symm) hy fun g4 e e4 he => ?_)
    obtain ⟨oe, ge, ce⟩ := he
    have z4 : IsZip g4 z TI TO .ellipsis := e4 _ _ D.bz.symm (e3.extBut _ _ D.oz.symm (e2.extBut _ _ D.az.symm z1))
    have ne : e ≠ z := fun q => by subst q; rw [z4] at ge; cases ge; simp at ce
    refine wpAny_setField_rec z4 (by simp) fun g5 _ e5 => hE g5 e _ (fun r o r1 r2 r3 r4 q => e5.extBut _ _ r1 (e4 _ _ r4 (e3.extBut _ _ r2 (e2.extBut _ _ r3 (e1.extBut _ _ r1 q))))) ⟨oe, e5.extBut _ _ ne ge, ce⟩
theorem zS_nextI {c d : Nat} {u v : Value} {Q : Option Value → Shared → Prop} (D : Ap z TI TO a b) (h0 : ty = "str_ascii_iterator" ∨ ty = "str_iterator") (h0' : ty' = "str_ascii_iterator" ∨ ty' = "str_iterator")
    (hz : IsZip s.heap z TI TO .none) (hI : IsPair s.heap TI (.ref a) (.ref b)) (hO : IsPair s.heap TO u v) (h1 : s.heap.IsStrIter a ty x t k) (h2 : s.heap.IsStrIter b ty' y t' k) (hx : x.cps[k]? = some c) (hy : y.cps[k]? = some d)
    (hQ : ∀ h' c' d' tk, (∃ q, c' = .str ⟨#[c]⟩ q) → (∃ q, d' = .str ⟨#[d]⟩ q) → IsZip h' z TI TO (rawInt s.heap.objs.size) → IsPair h' TO c' d' → h'.IsStrIter a ty x t (k + 1) → h'.IsStrIter b ty' y t' (k + 1) → IsPair h' s.heap.objs.size c' d' → h'.objs.size = s.heap.objs.size + 1 →
      (∀ r o, r ≠ z → r ≠ TO → r ≠ a → r ≠ b → s.heap.get? r = some o → h'.get? r = some o) → Q (some (.ref s.heap.objs.size)) { s with heap := h', toks := tk }) : wpAny (model prog w) A (pyNext (.ref z)) Q E s := by
  have hT : s.TypeIs (.ref z) "zip" := ⟨_, hz, rfl⟩
  unfold pyNext
  refine wpAny_bind (wpAny_attempt (wpAny_callSpecial?_slot (name := Str.ofString "__next__") hT F.slot_zip_next (wpAny_call_entry F.slot_zip_next hT F.entry_zip_next ?_ (F.args_zip_next_1 _))))
  exact zS_item D h0 h0' hz hI hO h1 h2 hx hy fun h' c' d' tk q1 q2 a1 a2 a3 a4 a5 a6 a7 => wpAny_pure (hQ h' c' d' tk q1 q2 a1 a2 a3 a4 a5 a6 a7)
theorem zS_nextE {u v : Value} {Q : Option Value → Shared → Prop} (hh : A.handled = none) (D : Ap z TI TO a b) (h0 : ty = "str_ascii_iterator" ∨ ty = "str_iterator") (h0' : ty' = "str_ascii_iterator" ∨ ty' = "str_iterator")
    (hz : IsZip s.heap z TI TO .none) (hI : IsPair s.heap TI (.ref a) (.ref b)) (hO : IsPair s.heap TO u v) (h1 : s.heap.IsStrIter a ty x t k) (h2 : s.heap.IsStrIter b ty' y t' k) (hend : x.cps[k]? = none ∨ y.cps[k]? = none)
    (hQ : ∀ h' tk, (∀ r o, r ≠ z → r ≠ TO → r ≠ a → r ≠ b → s.heap.get? r = some o → h'.get? r = some o) → Q none { s with heap := h', toks := tk }) : wpAny (model prog w) A (pyNext (.ref z)) Q E s := by
  have hT : s.TypeIs (.ref z) "zip" := ⟨_, hz, rfl⟩
  unfold pyNext
  refine wpAny_bind (wpAny_attempt (wpAny_callSpecial?_slot (name := Str.ofString "__next__") hT F.slot_zip_next (wpAny_call_entry F.slot_zip_next hT F.entry_zip_next (zS_end hh D h0 h0' hz hI hO h1 h2 hend fun h' e tk hk he => ?_) (F.args_zip_next_1 _))))
  obtain ⟨o, ho, hc⟩ := he
  exact wpAny_bind (wpAny_isInstance (T := "StopIteration") (b := true) ⟨o, ho, hc⟩ isSubtype_stop (wpAny_pure (hQ _ _ hk)))
/-- the kind of a text's iterator -/
def tyS (x : Str) : String := if x.cps.all (· < 128) then "str_ascii_iterator" else "str_iterator"
theorem tyS_or (x : Str) : tyS x = "str_ascii_iterator" ∨ tyS x = "str_iterator" := by unfold tyS; split <;> simp
theorem iterS {x : Str} {t : Tok} {Q : Value → Shared → Prop} (hQ : Q (.ref s.heap.objs.size) { s with heap := s.heap.push { cls := .type (tyS x), data := .fields #[.str x t, .int 0 0] } }) : wpAny (model prog w) A (pyIter (.str x t)) Q E s := by
  unfold tyS at hQ
  cases ha : x.cps.all (· < 128) with
  | true => rw [ha, if_pos rfl] at hQ; exact wpAny_pyIter_ascii ha hQ
  | false => rw [ha, if_neg (by simp)] at hQ; exact wpAny_pyIter_wide ha hQ
abbrev zh1 (h : Heap) (x : Str) (t : Tok) : Heap := h.push { cls := .type (tyS x), data := .fields #[.str x t, .int 0 0] }
abbrev zh2 (h : Heap) (x y : Str) (t t' : Tok) : Heap := (zh1 h x t).push { cls := .type (tyS y), data := .fields #[.str y t', .int 0 0] }
abbrev zh3 (h : Heap) (x y : Str) (t t' : Tok) : Heap := (zh2 h x y t t').push { cls := .type "tuple", data := .seq #[.ref h.objs.size, .ref (zh1 h x t).objs.size] }
abbrev zh4 (h : Heap) (x y : Str) (t t' : Tok) : Heap := (zh3 h x y t t').push { cls := .type "tuple", data := .seq #[.none, .none] }
abbrev zh5 (h : Heap) (x y : Str) (t t' : Tok) : Heap := (zh4 h x y t t').push { cls := .type "zip", data := .fields #[.none, .bool false, .bool false, .ref (zh2 h x y t t').objs.size, .ref (zh3 h x y t t').objs.size] }
theorem meets_zS (x y : Str) (t t' : Tok) : Meets (Builtin.«zip.__new__» ⟨[.type "zip", .str x t, .str y t'], []⟩) (fun _ R s => R (.ok (.ret (.ref (zh4 s.heap x y t t').objs.size))) { s with heap := zh5 s.heap x y t t' }) :=
  .of_wp fun prog w A R s h => by
    obtain ⟨hp, g, d, tk, os⟩ := s
    have hsub := sub_zip
    wp_walk using iterS, iterS
    exact ⟨_, rfl, h⟩
theorem call_zS {Q : Value → Shared → Prop} (h : ∀ h', IsZip h' (s.heap.objs.size + 4) (s.heap.objs.size + 2) (s.heap.objs.size + 3) .none → IsPair h' (s.heap.objs.size + 2) (.ref s.heap.objs.size) (.ref (s.heap.objs.size + 1)) →
      IsPair h' (s.heap.objs.size + 3) .none .none → h'.IsStrIter s.heap.objs.size (tyS x) x t 0 → h'.IsStrIter (s.heap.objs.size + 1) (tyS y) y t' 0 → (∀ c o, s.heap.get? c = some o → h'.get? c = some o) → Q (.ref (s.heap.objs.size + 4)) { s with heap := h' }) :
    wpAny (model prog w) A (call (.type "zip") [.str x t, .str y t']) Q E s := by
  refine callType_new F.called_zip (by decide) (F.typeCall_zip_2 _ _) (F.newCall_zip_2 _ _) (fun obj => F.args_object_init_3 obj _ _) F.entry_zip_new (meets_zS x y t t') ?_
  have n1 : (zh1 s.heap x t).objs.size = s.heap.objs.size + 1 := Heap.size_push ..
  have n2 : (zh2 s.heap x y t t').objs.size = s.heap.objs.size + 2 := by rw [Heap.size_push, n1]
  have n3 : (zh3 s.heap x y t t').objs.size = s.heap.objs.size + 3 := by rw [Heap.size_push, n2]
  have n4 : (zh4 s.heap x y t t').objs.size = s.heap.objs.size + 4 := by rw [Heap.size_push, n3]
  have p5 : (zh5 s.heap x y t t').get? (zh4 s.heap x y t t').objs.size = some _ := Heap.get?_push_size _ rfl
  have p4 : (zh5 s.heap x y t t').get? (zh3 s.heap x y t t').objs.size = some _ := Heap.get?_push_of_some _ (Heap.get?_push_size _ rfl)
  have p3 : (zh5 s.heap x y t t').get? (zh2 s.heap x y t t').objs.size = some _ := Heap.get?_push_of_some _ (Heap.get?_push_of_some _ (Heap.get?_push_size _ rfl))
  have p2 : (zh5 s.heap x y t t').get? (zh1 s.heap x t).objs.size = some _ := Heap.get?_push_of_some _ (Heap.get?_push_of_some _ (Heap.get?_push_of_some _ (Heap.get?_push_size _ rfl)))
  have p1 : (zh5 s.heap x y t t').get? s.heap.objs.size = some _ := Heap.get?_push_of_some _ (Heap.get?_push_of_some _ (Heap.get?_push_of_some _ (Heap.get?_push_of_some _ (Heap.get?_push_size _ rfl))))
  rw [n2, n3, n4] at p5; rw [n1, n2] at p3; rw [n3] at p4; rw [n1] at p2
  show _ ∧ _
  rw [n4]
  exact ⟨⟨_, p5, rfl⟩, h _ p5 p3 p4 ⟨_, p1, rfl, rfl⟩ ⟨_, p2, rfl, rfl⟩ fun c o q => Heap.get?_push_of_some _ (Heap.get?_push_of_some _ (Heap.get?_push_of_some _ (Heap.get?_push_of_some _ (Heap.get?_push_of_some _ q))))⟩
end
end PD

/-! PyF6: zip of two texts, walked. -/
namespace PD
open PySem PySem.Spec PyProof PyProof.Rows L2
/-- two texts as they stand, their signs in new pairs -/
def ItzS (x y : Str) : It := ⟨fun i _ => i < x.cps.size ∧ i < y.cps.size, fun i H v H' => ∃ T c d, v = .ref T ∧ H T = none ∧ H' = upd H T (.tup [.str ⟨#[c]⟩, .str ⟨#[d]⟩]) ∧ x.cps[i]? = some c ∧ y.cps[i]? = some d, fun i _ => x.cps.size ≤ i ∨ y.cps.size ≤ i⟩
theorem turn_zS {P : Program} {w : World} {K : PySem.W.Frag} {elts : List Expr} {kk : Nat} {tpos : Pos} {z TI TO a b : Addr} {ty ty' : String} {x y : Str} {t t' : Tok} (D : Ap z TI TO a b)
    (h0 : ty = "str_ascii_iterator" ∨ ty = "str_iterator") (h0' : ty' = "str_ascii_iterator" ∨ ty' = "str_iterator") : Turn P w K (.Tuple elts kk tpos) (ItzS x y) [z, TI, TO, a, b] z
      (fun i h => IsZip h z TI TO .none ∧ IsPair h TI (.ref a) (.ref b) ∧ (∃ u v, IsPair h TO u v) ∧ h.IsStrIter a ty x t i ∧ h.IsStrIter b ty' y t' i) where
  mem := by simp
  obj := fun i h st c hc => by
    obtain ⟨s1, s2, ⟨u, v, s3⟩, ⟨o1, g1, _, d1⟩, ⟨o2, g2, _, d2⟩⟩ := st
    simp only [List.mem_cons, List.not_mem_nil, or_false] at hc
    rcases hc with rfl | rfl | rfl | rfl | rfl
    · exact ⟨_, s1, fun v q => nomatch q⟩
    · exact ⟨_, s2, fun v q => nomatch q⟩
    · exact ⟨_, s3, fun v q => nomatch q⟩
    · exact ⟨o1, g1, fun v q => by rw [d1] at q; cases q⟩
    · exact ⟨o2, g2, fun v q => by rw [d2] at q; cases q⟩
  keep := fun i h h' st k => by
    obtain ⟨s1, s2, ⟨u, v, s3⟩, ⟨o1, g1, r1⟩, ⟨o2, g2, r2⟩⟩ := st
    exact ⟨k z (by simp) _ s1, k TI (by simp) _ s2, ⟨u, v, k TO (by simp) _ s3⟩, ⟨o1, k a (by simp) _ g1, r1⟩, ⟨o2, k b (by simp) _ g2, r2⟩⟩
  item := by
    intro X hP hw hK hc i pins s σ H E I hf st hg
    subst hP hw hK
    obtain ⟨s1, s2, ⟨u, v, s3⟩, s4, s5⟩ := st
    have hg1 : i < x.cps.size := hg.1
    have hg2 : i < y.cps.size := hg.2
    have hx : x.cps[i]? = some x.cps[i] := Array.getElem?_eq_getElem hg1
    have hy : y.cps[i]? = some y.cps[i] := Array.getElem?_eq_getElem hg2
    have lz : z < s.heap.objs.size := Heap.lt_size s1
    refine zS_nextI D h0 h0' s1 s2 s3 s4 s5 hx hy fun h' c' d' tk q1 q2 n1 n2 n3 n4 n5 n6 n7 => ?_
    refine ⟨_, rfl, wpAny_letOwnedTupleGo_zip (s := { s with heap := h', toks := tk }) n1 fun h'' m1 sb => ?_⟩
    have hT : h''.get? s.heap.objs.size = some { cls := .type "tuple", data := .seq #[c', d'] } := (sb.2 _ (Nat.ne_of_gt lz)).trans n5
    have new : ObjOk X.prog X.w (upd H s.heap.objs.size (.tup [.str ⟨#[x.cps[i]]⟩, .str ⟨#[y.cps[i]]⟩])) h'' s.heap.objs.size (.tup [.str ⟨#[x.cps[i]]⟩, .str ⟨#[y.cps[i]]⟩]) :=
      ⟨by show 2 ≤ sizeLine; decide, [c', d'], .cons q1 (.cons q2 .nil), ⟨_, hT, rfl, _, rfl⟩⟩
    have I1 := I.turnedNew (t' := tk) (ch := [z, TI, TO, a, b]) (fun c o hb q => (sb.2 c (fun q' => hb (by simp [q']))).trans (n7 c o (fun q' => hb (by simp [q'])) (fun q' => hb (by simp [q'])) (fun q' => hb (by simp [q'])) (fun q' => hb (by simp [q'])) q)) hf (Nat.le_refl _) new
    refine ⟨.ref s.heap.objs.size, _, I1, rfl, ⟨_, _, _, rfl, I.hok.fresh (Nat.le_refl _), rfl, hx, hy⟩, ⟨m1, ?_, ⟨c', d', (sb.2 _ D.oz).trans n2⟩, ?_, ?_⟩, fun c hc => ?_⟩
    · exact (sb.2 _ D.tz).trans (n7 _ _ D.tz D.to D.ta D.tb s2)
    · obtain ⟨o, e, r⟩ := n3; exact ⟨o, (sb.2 _ D.az).trans e, r⟩
    · obtain ⟨o, e, r⟩ := n4; exact ⟨o, (sb.2 _ D.bz).trans e, r⟩
    · have lt : c < s.heap.objs.size := by
        have hc2 := hc
        simp only [List.mem_cons, List.not_mem_nil, or_false] at hc2
        rcases hc2 with rfl | rfl | rfl | rfl | rfl
        · exact lz
        · exact Heap.lt_size s2
        · exact Heap.lt_size s3
        · obtain ⟨_, e, _⟩ := s4; exact Heap.lt_size e
        · obtain ⟨_, e, _⟩ := s5; exact Heap.lt_size e
      rw [upd_ne (Nat.ne_of_lt lt)]
      exact (hf c hc).1
  done := by
    intro X hP hw hK hc i pins s σ H E I hf st hg
    subst hP hw hK
    obtain ⟨s1, s2, ⟨u, v, s3⟩, s4, s5⟩ := st
    have he : x.cps[i]? = none ∨ y.cps[i]? = none := by
      rcases hg with q | q
      · exact .inl (Array.getElem?_eq_none q)
      · exact .inr (Array.getElem?_eq_none q)
    exact zS_nextE (I.ok.hd hc) D h0 h0' s1 s2 s3 s4 s5 he fun h' tk hk => ⟨rfl, I.turnedL (t' := tk) (ch := [z, TI, TO, a, b]) (fun c o hb q =>
      hk c o (fun q' => hb (by simp [q'])) (fun q' => hb (by simp [q'])) (fun q' => hb (by simp [q'])) (fun q' => hb (by simp [q'])) q) hf⟩
  self := fun A i s Q E st h => wpAny_pyIter_zip st.1 h
theorem ap_of (n : Nat) : Ap (n + 4) (n + 2) (n + 3) n (n + 1) := ⟨by show n + 2 ≠ n + 4; omega, by show n + 3 ≠ n + 4; omega, by show n ≠ n + 4; omega, by show n + 1 ≠ n + 4; omega, by show n + 2 ≠ n + 3; omega, by show n + 2 ≠ n; omega, by show n + 2 ≠ n + 1; omega, by show n + 3 ≠ n; omega, by show n + 3 ≠ n + 1; omega, by show n ≠ n + 1; omega⟩
theorem ge_of {n c : Nat} (h : c ∈ [n + 4, n + 2, n + 3, n, n + 1]) : n ≤ c := by
  simp only [List.mem_cons, List.not_mem_nil, or_false] at h
  omega
def tZipS (ta : TA) : TI := fun σ H R => ta σ H fun vs H1 => ∃ x y, vs = [.str x, .str y] ∧ R (ItzS x y) H1
theorem pi_zipS {X : Cx} {e e2 : Expr} {ta : TA} {p pos tpos : Pos} {elts : List Expr} {kk : Nat} (hg : Gl X "zip") (hm : X.mg "zip" = none) (ha : PA X [e, e2] ta)
    (hs : starEach [e, e2] X.env = (false, eval e X.env) :: starEach [e2] X.env := by rfl) (hpl : (backTo pos (starEach [e2] X.env)).any (·.1) = false := by rfl) :
    PI X (.Tuple elts kk tpos) (.Call (.Name "zip" p) [e, e2] [] pos) (tZipS ta) := by
  refine ⟨fun pins s σ H R I h => Call_ (ld_blt I hg hm PyProof.Rows.boot_zip (PyProof.Rows.callWith_type1 (thn (ha.run pos pins s σ H _ I h) fun us s1 ⟨vs, H1, I1, r1, x, y, ex, q⟩ => ?_) hs hpl))⟩
  subst ex
  cases r1 with
  | cons r rr =>
    cases rr with
    | cons r' rr =>
      cases rr
      obtain ⟨t, rfl⟩ := r
      obtain ⟨t', rfl⟩ := r'
      refine call_zS fun h' hz hI hO h1 h2 hk => wpAny_pyIter_zip hz ?_
      have I2 : Inv X pins σ H1 { s1 with heap := h' } := I1.kept (t' := s1.toks) hk
      refine ⟨s1.heap.objs.size + 4, [s1.heap.objs.size + 4, s1.heap.objs.size + 2, s1.heap.objs.size + 3, s1.heap.objs.size, s1.heap.objs.size + 1], _, _, H1, rfl, I2,
        turn_zS (t := t) (t' := t') (ap_of _) (tyS_or x) (tyS_or y), ⟨hz, hI, ⟨_, _, hO⟩, h1, h2⟩, fun c hc => ?_, q⟩
      have le : s1.heap.objs.size ≤ c := ge_of (n := s1.heap.objs.size) hc
      exact I1.fpOk le (I1.hok.fresh le)
/-! zip of two texts, on plain data -/
def iZip (ma : MA) : MI := fun E S => (ma E S).bind fun ds S1 => match ds with
  | [.str p, .str q] => .ok ⟨(p.zip q).map fun c => .tup [.str [c.1], .str [c.2]], none⟩ S1
  | _ => .bad
section
variable {X : Cx} {W : WW X.K} {pos : Pos}
theorem walks_zip {ρ : List Addr} {H : Hp} {p q : Tx} : Walks X.K ρ H ⟨(p.zip q).map fun c => D.tup [.str [c.1], .str [c.2]], none⟩ (ItzS ⟨p.toArray⟩ ⟨q.toArray⟩) := by
  intro ρ1 S H1 r e c
  refine ⟨fun i d hd => ?_, ?_⟩
  · rw [List.getElem?_map, Option.map_eq_some_iff] at hd
    obtain ⟨⟨k, l⟩, hk, rfl⟩ := hd
    have hk2 := List.getElem?_zip_eq_some.mp hk
    have h1 := (List.getElem?_eq_some_iff.mp hk2.1).1
    have h2 := (List.getElem?_eq_some_iff.mp hk2.2).1
    refine ⟨⟨by simpa using h1, by simpa using h2⟩, fun x H' hy => ?_⟩
    obtain ⟨T, c, d, rfl, hT, rfl, hc, hd⟩ := hy
    simp only [List.getElem?_toArray, hk2.1, hk2.2, Option.some.injEq] at hc hd
    subst hc hd
    refine ⟨r.new hT, Ext.new hT, ?_⟩
    exact dv_tup (vs := [.str ⟨#[k]⟩, .str ⟨#[l]⟩]) hT (by simp only [DVs]; exact ⟨_, _, rfl, by simp [DV, sv], _, _, rfl, by simp [DV, sv], rfl⟩)
  · show _ ∨ _
    simp
    omega
theorem id_zip {e e2 : Expr} {ma : MA} {p tpos : Pos} {elts : List Expr} {kk : Nat} (hg : Gl X "zip") (hm : X.mg "zip" = none) (ha : AD X W [e, e2] ma)
    (hs : starEach [e, e2] X.env = (false, eval e X.env) :: starEach [e2] X.env := by rfl) (hpl : (backTo pos (starEach [e2] X.env)).any (·.1) = false := by rfl) : ID X W (.Tuple elts kk tpos) (.Call (.Name "zip" p) [e, e2] [] pos) (iZip ma) := by
  refine PI.impI (pi_zipS hg hm ha hs hpl) fun σ H R ρ S E r er p => ?_
  refine ⟨ρ, S, E, r, er, (Post.bind (R := DVs X.K) p).imp fun vs H1 ⟨ρ1, S1, ds, r1, e1, d1, p1⟩ => ?_⟩
  split at p1
  · rename_i p q
    obtain ⟨u, v, rfl, h1, h2⟩ := dvs2 d1
    rw [dv_str] at h1 h2; subst h1 h2
    exact ⟨_, _, rfl, p1 ρ1 H1 _ r1 Ext.refl walks_zip⟩
  · exact p1.elim
end
section
variable {QI : ItD → Sto → Prop} {X : Exn → Sto → Prop} {E : Evn} {S : Sto} {ma : MA}
def OkZip (ds : List D) (Q : ItD → Prop) (_u : Tg Q Q := .mk) : Prop := match ds with
  | [.str p, .str q] => Q ⟨(p.zip q).map fun c => .tup [.str [c.1], .str [c.2]], none⟩
  | _ => False
theorem w_zip : OkO (iZip ma E S) QI X = OkO (ma E S) (fun ds S1 => OkZip ds fun i => QI i S1) X := by
  unfold iZip
  refine w_bind.trans (OkO_fun fun ds S1 => ?_)
  unfold OkZip
  split <;> rfl
theorem w_zips {p q : Tx} {Q : ItD → Prop} : OkZip [.str p, .str q] Q = Q ⟨(p.zip q).map fun c => .tup [.str [c.1], .str [c.2]], none⟩ := rfl
end
end PD

/-! PyF7: a, b = x, y without a tuple; is True, is False. -/
namespace PD
open PySem PySem.Spec PyProof PyProof.Rows L2
def mPar (i j : Nat) (ma : MA) : MS := fun E S => (ma E S).toS E fun ds S1 => match ds with
  | [a, b] => .nx ((E.set i (some a)).set j (some b)) S1
  | _ => .bad
def mPar3 (i j l : Nat) (ma : MA) : MS := fun E S => (ma E S).toS E fun ds S1 => match ds with
  | [a, b, c] => .nx (((E.set i (some a)).set j (some b)).set l (some c)) S1
  | _ => .bad
section
variable {X : Cx} {W : WW X.K} {pos : Pos}
theorem sd_par {i j : Nat} {x y : Str} {a b : Expr} {ma : MA} {px py pt : Pos} {kt k2 pt2} (hc : X.calm = true) (hN : X.N.Nodup) (hi : X.N[i]? = some x) (hj : X.N[j]? = some y) (hij : i ≠ j)
    (hx : X.env.scope.names.lookup x = some .local) (hy : X.env.scope.names.lookup y = some .local) (ha : AD X W [a, b] ma) (hf : W.fix = none)
    (hw : swappedStores [.Tuple [.Name x px, .Name y py] kt pt] (.Tuple [a, b] k2 pt2) X.env = pure (some [x, y]) := by rfl)
    (hs : swapsWithSole [.Tuple [.Name x px, .Name y py] kt pt] (.Tuple [a, b] k2 pt2) pos.line X.env = pure false := by rfl) :
    SD X W (.Assign [.Tuple [.Name x px, .Name y py] kt pt] (.Tuple [a, b] k2 pt2) pos) (mPar i j ma) := by
  refine sd_of (ps_par hc hN hi hj hij hx hy ha hw hs) fun D σ H ρ S E r er p => ?_
  refine ⟨ρ, S, E, r, er, (SPost.bind (R := DVs X.K) er p).imp fun vs H1 ⟨ρ1, S1, ds, r1, e1, d1, p1⟩ => ?_⟩
  split at p1
  · rename_i a b
    obtain ⟨u, v, rfl, h1, h2⟩ := dvs2 d1
    exact ⟨u, v, rfl, p1 ρ1 H1 _ r1 Ext.refl (((er.mono e1).set hf i h1).set hf j h2)⟩
  · exact p1.elim
theorem sd_par3 {i j l : Nat} {x y z : Str} {a b c : Expr} {ma : MA} {px py pz pt : Pos} {kt k2 pt2} (hc : X.calm = true) (hN : X.N.Nodup) (hi : X.N[i]? = some x) (hj : X.N[j]? = some y) (hl : X.N[l]? = some z) (hij : i ≠ j) (hil : i ≠ l) (hjl : j ≠ l)
    (hx : X.env.scope.names.lookup x = some .local) (hy : X.env.scope.names.lookup y = some .local) (hz : X.env.scope.names.lookup z = some .local) (ha : AD X W [a, b, c] ma) (hf : W.fix = none)
    (hw : swappedStores [.Tuple [.Name x px, .Name y py, .Name z pz] kt pt] (.Tuple [a, b, c] k2 pt2) X.env = pure (some [x, y, z]) := by rfl)
    (hs : swapsWithSole [.Tuple [.Name x px, .Name y py, .Name z pz] kt pt] (.Tuple [a, b, c] k2 pt2) pos.line X.env = pure false := by rfl) :
    SD X W (.Assign [.Tuple [.Name x px, .Name y py, .Name z pz] kt pt] (.Tuple [a, b, c] k2 pt2) pos) (mPar3 i j l ma) := by
  refine sd_of (ps_par3 hc hN hi hj hl hij hil hjl hx hy hz ha hw hs) fun D σ H ρ S E r er p => ?_
  refine ⟨ρ, S, E, r, er, (SPost.bind (R := DVs X.K) er p).imp fun vs H1 ⟨ρ1, S1, ds, r1, e1, d1, p1⟩ => ?_⟩
  split at p1
  · rename_i a b c
    simp only [DVs] at d1
    obtain ⟨u, _, rfl, h1, v, _, rfl, h2, w, _, rfl, h3, rfl⟩ := d1
    exact ⟨u, v, w, rfl, p1 ρ1 H1 _ r1 Ext.refl ((((er.mono e1).set hf i h1).set hf j h2).set hf l h3)⟩
  · exact p1.elim
/-! is True, is not False, of truths -/
def gIsB (_ : Sto) (x y : D) : Option D := match x, y with
  | .bl a, .bl b => some (.bl (decide (a = b)))
  | _, _ => none
def gNotB (_ : Sto) (x y : D) : Option D := match x, y with
  | .bl a, .bl b => some (.bl (!decide (a = b)))
  | _, _ => none
theorem rp_isB : ∀ x y H Q, rP X.K gIsB x y H Q → ∃ a b, x = .bl a ∧ y = .bl b ∧ Q (.bl (decide (a = b))) H := by
  rintro v u H Q ⟨ρ, S, x, y, d, r, dx, dy, hg, q⟩
  unfold gIsB at hg
  split at hg
  · cases hg
    rw [dv_bl] at dx dy; subst dx dy
    exact ⟨_, _, rfl, rfl, post_bl r q⟩
  · cases hg
theorem rp_notB : ∀ x y H Q, rP X.K gNotB x y H Q → ∃ a b, x = .bl a ∧ y = .bl b ∧ Q (.bl (!decide (a = b))) H := by
  rintro v u H Q ⟨ρ, S, x, y, d, r, dx, dy, hg, q⟩
  unfold gNotB at hg
  split at hg
  · cases hg
    rw [dv_bl] at dx dy; subst dx dy
    exact ⟨_, _, rfl, rfl, post_bl r q⟩
  · cases hg
end
section
variable {N : EC} {R : D → Sto → Prop} {XE : Exn → EC} {B C : EC} {E : Evn} {S : Sto} {ma : MA}
def OkTwo (ds : List D) (Q : D → D → Prop) (_u : Tg Q Q := .mk) : Prop := match ds with
  | [a, b] => Q a b
  | _ => False
def OkThree (ds : List D) (Q : D → D → D → Prop) (_u : Tg Q Q := .mk) : Prop := match ds with
  | [a, b, c] => Q a b c
  | _ => False
theorem w_two {a b : D} {Q : D → D → Prop} : OkTwo [a, b] Q = Q a b := rfl
theorem w_three {a b c : D} {Q : D → D → D → Prop} : OkThree [a, b, c] Q = Q a b c := rfl
theorem w_par {i j : Nat} : OkS (mPar i j ma E S) N R XE B C = OkO (ma E S) (fun ds S1 => OkTwo ds fun a b => OkN ((E.set i (some a)).set j (some b)) fun E' => N E' S1) (fun e S1 => XE e E S1) := by
  unfold mPar
  refine w_toS.trans (OkO_fun fun ds S1 => ?_)
  unfold OkTwo
  split <;> rfl
theorem w_par3 {i j l : Nat} : OkS (mPar3 i j l ma E S) N R XE B C = OkO (ma E S) (fun ds S1 => OkThree ds fun a b c => OkN (((E.set i (some a)).set j (some b)).set l (some c)) fun E' => N E' S1) (fun e S1 => XE e E S1) := by
  unfold mPar3
  refine w_toS.trans (OkO_fun fun ds S1 => ?_)
  unfold OkThree
  split <;> rfl
theorem p_isB {a b : Bool} {Q : D → Prop} : OkP (gIsB S (.bl a) (.bl b)) Q = Q (.bl (decide (a = b))) := rfl
theorem p_notB {a b : Bool} {Q : D → Prop} : OkP (gNotB S (.bl a) (.bl b)) Q = Q (.bl (!decide (a = b))) := rfl
end
end PD

/-! PyF8: comprehensions whose elements change the store; the new list may change. -/
namespace PD
open PySem PySem.Spec PyProof PyProof.Rows L2
open Classical in
noncomputable def compX (c : Option (Nat × List D)) (one : Bool) (is : List Nat) (t : MT) (e : ME) (E0 : Evn) (n0 : Nat) : List D → Sto → Out Unit
  | [], S => if chkOk c S then .ok () S else .bad
  | x :: r, S => if chkOk c S then (match stN one is x E0 with
      | some E1 => (match t E1 S with
        | .ok b S1 => if b = true then (match e E1 S1 with
            | .ok y S2 => (match S2[n0]? with
              | some (.lst acc) => if sizeOk (acc.length + 1) then compX c one is t e E0 n0 r (S2.set n0 (.lst (acc ++ [y]))) else .bad
              | _ => .bad)
            | _ => .bad) else compX c one is t e E0 n0 r S1
        | _ => .bad)
      | none => .bad) else .bad
noncomputable def mCompL (it : MI) (one : Bool) (is vs : List Nat) (t : MT) (e : ME) : ME := fun E S => (it E S).bind fun i S1 => (compX i.chk one is t e (wipeE E vs) S1.length i.items (S1 ++ [.lst []])).bind fun _ S2 => .ok (.loc S1.length) S2
theorem pre_at {ρ ρ' t : List Addr} {n : Nat} {a : Addr} (h : ρ' = ρ ++ t) (e : ρ[n]? = some a) : ρ'[n]? = some a := by
  have hl := (List.getElem?_eq_some_iff.mp e).1
  rw [h, List.getElem?_append_left hl, e]
section
variable {X : Cx} {W : WW X.K} {pos : Pos}
theorem compL_read {mi : MI} {own : List (Str × Nat)} {one : Bool} {is : List Nat} {mt : MT} {me : ME} (hw : W.fix = none) (hv : ∀ i ∈ is, i ∈ own.map (·.2)) : ∀ σ H Q ρ S E, Rel X.K ρ S H → ER X.K W ρ H E σ → Post X.K (DV X.K) ρ H Q (fun c dx H' => W.w c dx σ H') (mCompL mi one is (own.map (·.2)) mt me E S) →
    tLc (tI X.K W mi) (gN1 X.K one is) (tT X.K (W0 X.K) mt) (tE X.K (W0 X.K) me) (own.map (·.2)) σ H Q := by
  intro σ H Q ρ S E r er p
  refine ⟨ρ, S, E, r, er, (Post.bind (R := Walks X.K) p).imp fun J H1 ⟨ρ1, S1, i, r1, e1, w1, p1⟩ => ?_⟩
  intro D hD
  have er1 := (er.mono e1).wipe hw (own.map (·.2))
  have er0 : ER X.K (W0 X.K) ρ1 H1 (wipeE E (own.map (·.2))) (L2.wipe σ (own.map (·.2))) := er1.wish trivial fun i a z => by cases z
  generalize wipeE E (own.map (·.2)) = E0 at p1 er0
  have hD0 : (ρ1 ++ [D])[S1.length]? = some D := by rw [← r1.len, List.getElem?_append_right (Nat.le_refl _), Nat.sub_self]; rfl
  refine ⟨fun n m H2 => m = i.items.length - n ∧ n ≤ i.items.length ∧ ∃ ρ2 S2, Rel X.K ρ2 S2 H2 ∧ Ext X.K ρ1 H1 ρ2 H2 ∧ ρ2[S1.length]? = some D ∧
    Post X.K (DV X.K) ρ1 H1 Q (fun c dx H' => W.w c dx σ H') ((compX i.chk one is mt me E0 S1.length (i.items.drop n) S2).bind fun _ S' => .ok (.loc S1.length) S'),
    ⟨_, rfl, Nat.zero_le _, ρ1 ++ [D], S1 ++ [.lst []], r1.alloc (u := .lst []) hD ⟨[], upd_same, by simp [DVs]⟩, Ext.alloc hD, hD0, by simpa using p1⟩, ?_⟩
  rintro n m H2 ⟨rfl, hnl, ρ2, S2, r2, e2, hD2, p2⟩
  have hck : chkOk i.chk S2 := Classical.byContradiction fun z => by
    cases q : i.items.drop n with
    | nil => rw [q, compX, if_neg z] at p2; exact p2
    | cons x rr => rw [q, compX, if_neg z] at p2; exact p2
  obtain ⟨w2, w3⟩ := w1 ρ2 S2 H2 r2 e2 hck
  by_cases hlt : n < i.items.length
  · right
    have hd : i.items[n]? = some i.items[n] := List.getElem?_eq_getElem hlt
    obtain ⟨go, yl⟩ := w2 n _ hd
    refine ⟨go, fun H' => n + 1 ≤ i.items.length ∧ ∃ ρ2 S2, Rel X.K ρ2 S2 H' ∧ Ext X.K ρ1 H1 ρ2 H' ∧ ρ2[S1.length]? = some D ∧
      Post X.K (DV X.K) ρ1 H1 Q (fun c dx H' => W.w c dx σ H') ((compX i.chk one is mt me E0 S1.length (i.items.drop (n + 1)) S2).bind fun _ S' => .ok (.loc S1.length) S'),
      fun H' ⟨h1, h2⟩ => ⟨i.items.length - (n + 1), by omega, rfl, h1, h2⟩, fun x H3 hy => ?_⟩
    obtain ⟨r3, e3, d3⟩ := yl x H3 hy
    rw [drop_cons_of hd, compX, if_pos hck] at p2
    cases q : stN one is i.items[n] E0 with
    | none => rw [q] at p2; exact p2.elim
    | some E1 =>
      rw [q] at p2
      simp only at p2
      have er3 : ER X.K (W0 X.K) ρ2 H3 E0 (L2.wipe σ (own.map (·.2))) := er0.mono (e2.trans e3)
      refine stN_ok (S := S1) rfl er3 d3 hv q fun σ2 er4 hw2 => ⟨hw2.trans (wipe_wipe _ fun _ h => h), ?_⟩
      refine ⟨ρ2, S2, E1, r3, er4, ?_⟩
      cases q1 : mt E1 S2 with
      | bad => rw [q1] at p2; exact p2.elim
      | ex e S5 => rw [q1] at p2; exact p2.elim
      | ok b S5 =>
        rw [q1] at p2
        simp only at p2
        intro ρ5 H5 v r5 e5 hv5
        subst hv5
        obtain ⟨t5, h5⟩ := e5.pre
        have hD5 := pre_at h5 hD2
        cases b with
        | false =>
          rw [if_neg (by simp)] at p2 ⊢
          exact ⟨hlt, ρ5, S5, r5, (e2.trans e3).trans e5, hD5, p2⟩
        | true =>
          rw [if_pos rfl] at p2 ⊢
          refine ⟨ρ5, S5, E1, r5, er4.mono e5, ?_⟩
          cases q2 : me E1 S5 with
          | bad => rw [q2] at p2; exact p2.elim
          | ex e S6 => rw [q2] at p2; exact p2.elim
          | ok y S6 =>
            rw [q2] at p2
            simp only at p2
            intro ρ6 H6 w r6 e6 d6
            obtain ⟨t6, h6⟩ := e6.pre
            have hD6 := pre_at h6 hD5
            cases q3 : S6[S1.length]? with
            | none => rw [q3] at p2; exact p2.elim
            | some ob =>
              rw [q3] at p2
              cases ob with
              | lst acc =>
                simp only at p2
                by_cases hs : sizeOk (acc.length + 1)
                · rw [if_pos hs] at p2
                  obtain ⟨us6, h61, h62⟩ := r6.lst q3 hD6
                  have hmem : D ∈ ρ6 := List.mem_of_getElem? hD6
                  refine ⟨us6, h61, by rw [← h62.length]; exact hs, hlt, ρ6, S6.set S1.length (.lst (acc ++ [y])), r6.write hD6 q3 h61 (h62.append (DVs.one d6)), ?_, hD6, p2⟩
                  exact (((e2.trans e3).trans e5).trans e6).trans (Ext.write hmem h61)
                · rw [if_neg hs] at p2; exact p2.elim
              | _ => exact p2.elim
  · left
    have hn2 : n = i.items.length := by omega
    subst hn2
    rw [List.drop_length, compX, if_pos hck, bind_ok] at p2
    refine ⟨w3, p2 ρ2 H2 (.ref D) r2 e2 ?_⟩
    simp only [DV]
    exact ⟨D, rfl, hD2⟩
theorem ed_compL {elt tg iter : Expr} {ifs : List Expr} {scope : Scope} {own : List (Str × Nat)} {mi : MI} {one : Bool} {is : List Nat} {mt : MT} {me : ME} (hc : X.calm = true) (hN : X.N.Nodup) (hi : ID X W tg iter mi) (ok : BlkOk X.N X.env.scope scope own) (hw : W.fix = none)
    (hv : ∀ i ∈ is, i ∈ own.map (·.2))
    (hg : ∀ (s : Shared) (H : Hp) (C : Addr) (cl : List (Str × Addr)) (fp : List Addr), PG (X.blk s H scope (compEnvC scope cl C X.env) fp) tg (gN1 X.K one is))
    (ht : ∀ (s : Shared) (H : Hp) (C : Addr) (cl : List (Str × Addr)) (fp : List Addr), PD' (X.blk s H scope (compEnvC scope cl C X.env) fp) ifs mt)
    (he : ∀ (s : Shared) (H : Hp) (C : Addr) (cl : List (Str × Addr)) (fp : List Addr), ED (X.blk s H scope (compEnvC scope cl C X.env) fp) (W0 X.K) elt me) (hs : ∀ x, foldedSetIterable iter X.env x = pure x := by intro _; rfl) :
    ED X W (.ListComp elt [⟨tg, iter, ifs, 0⟩] scope pos) (mCompL mi one is (own.map (·.2)) mt me) :=
  ed_of (pe_lc (tt := tT X.K (W0 X.K) mt) (te := tE X.K (W0 X.K) me) hc hN hi ok hg ht he hs) (compL_read hw hv)
theorem sd_setLcL {i : Nat} {y : Str} {py spos : Pos} {elt tg iter : Expr} {ifs : List Expr} {scope : Scope} {own : List (Str × Nat)} {mi : MI} {one : Bool} {is : List Nat} {mt : MT} {me : ME} (hc : X.calm = true) (hN : X.N.Nodup) (hy : X.N[i]? = some y) (hyl : X.env.scope.names.lookup y = some .local)
    (hi : ID X W tg iter mi) (ok : BlkOk X.N X.env.scope scope own) (hw : W.fix = none) (hv : ∀ i ∈ is, i ∈ own.map (·.2))
    (hg : ∀ (s : Shared) (H : Hp) (C : Addr) (cl : List (Str × Addr)) (fp : List Addr), PG (X.blk s H scope (compEnvC scope cl C X.env) fp) tg (gN1 X.K one is))
    (ht : ∀ (s : Shared) (H : Hp) (C : Addr) (cl : List (Str × Addr)) (fp : List Addr), PD' (X.blk s H scope (compEnvC scope cl C X.env) fp) ifs mt)
    (he : ∀ (s : Shared) (H : Hp) (C : Addr) (cl : List (Str × Addr)) (fp : List Addr), ED (X.blk s H scope (compEnvC scope cl C X.env) fp) (W0 X.K) elt me)
    (hsw : swapsWith (.ListComp elt [⟨tg, iter, ifs, 0⟩] scope pos) (some (.Name y py)) spos.line X.env = pure true := by rfl) (hs : ∀ x, foldedSetIterable iter X.env x = pure x := by intro _; rfl) :
    SD X W (.Assign [.Name y py] (.ListComp elt [⟨tg, iter, ifs, 0⟩] scope pos) spos) (mSet i (mCompL mi one is (own.map (·.2)) mt me)) := by
  refine sd_of (ps_setLc (tt := tT X.K (W0 X.K) mt) (te := tE X.K (W0 X.K) me) hc hN hy hyl hsw hi ok hg ht he hs) fun D σ H ρ S E r er p => ?_
  exact compL_read hw hv σ H _ ρ S E r er ((SPost.bind (R := DV X.K) er p).imp fun x H1 ⟨ρ1, S1, d, r1, e1, d1, p1⟩ => p1 ρ1 H1 _ r1 Ext.refl ((er.mono e1).set hw i d1))
end
/-! the rule by weakest preconditions -/
section
variable {Q : D → Sto → Prop} {X : Exn → Sto → Prop} {E : Evn} {S : Sto}
theorem w_compL {it : MI} {one : Bool} {is vs : List Nat} {t : MT} {e : ME} : OkO (mCompL it one is vs t e E S) Q X = OkO (it E S) (fun i S1 => OkO (compX i.chk one is t e (wipeE E vs) S1.length i.items (S1 ++ [.lst []])) (fun _ S2 => Q (.loc S1.length) S2) X) X := by
  unfold mCompL
  refine w_bind.trans (OkO_fun fun i S1 => w_bind.trans (OkO_fun fun _ S2 => rfl))
/-- an invariant over the items; P n acc S' : behind n items the new list is acc (not counted in S'), S' with the list at n0 -/
theorem ok_compX {c : Option (Nat × List D)} {one : Bool} {is : List Nat} {t : MT} {e : ME} {E0 : Evn} {n0 : Nat} {QU : Unit → Sto → Prop} (P : Nat → Sto → Prop) :
    ∀ (l : List D) (n : Nat) (S : Sto), P n S → (∀ i S, P i S → chkOk c S) →
    (∀ i x S, l[i]? = some x → P (n + i) S → OkP (stN one is x E0) fun E1 => OkO (t E1 S) (fun b S1 => (b = false → P (n + i + 1) S1) ∧ (b = true → OkO (e E1 S1) (fun y S2 => ∃ acc, S2[n0]? = some (.lst acc) ∧ acc.length < 16777216 ∧ P (n + i + 1) (S2.set n0 (.lst (acc ++ [y])))) (fun _ _ => False))) (fun _ _ => False)) →
    (∀ S, P (n + l.length) S → QU () S) → OkO (compX c one is t e E0 n0 l S) QU X
  | [], n, S, h0, hc, hs, he => by
    rw [compX, if_pos (hc _ _ h0)]
    exact he S (by simpa using h0)
  | x :: l, n, S, h0, hc, hs, he => by
    rw [compX, if_pos (hc _ _ h0)]
    have h1 := hs 0 x S rfl (by simpa using h0)
    cases q : stN one is x E0 with
    | none => rw [q] at h1; exact h1.elim
    | some E1 =>
      rw [q, w_some] at h1
      simp only
      cases q1 : t E1 S with
      | bad => rw [q1] at h1; exact h1.elim
      | ex _ _ => rw [q1] at h1; exact h1.elim
      | ok b S1 =>
        rw [q1, w_ok] at h1
        obtain ⟨h2, h3⟩ := h1
        have again : ∀ S, P (n + 1) S → OkO (compX c one is t e E0 n0 l S) QU X := fun S hS => ok_compX P l (n + 1) S hS hc (fun i y S hy hp => by
          have := hs (i + 1) y S (by simpa using hy) (by rw [show n + (i + 1) = n + 1 + i by omega]; exact hp)
          rw [show n + (i + 1) + 1 = n + 1 + i + 1 by omega] at this
          exact this) (fun S hp => he S (by rw [List.length_cons, show n + (l.length + 1) = n + 1 + l.length by omega]; exact hp))
        simp only
        cases b with
        | false =>
          rw [if_neg (by simp)]
          exact again S1 (h2 rfl)
        | true =>
          rw [if_pos rfl]
          have h4 := h3 rfl
          cases q2 : e E1 S1 with
          | bad => rw [q2] at h4; exact h4.elim
          | ex _ _ => rw [q2] at h4; exact h4.elim
          | ok y S2 =>
            rw [q2, w_ok] at h4
            obtain ⟨acc, g1, g2, g3⟩ := h4
            simp only [g1]
            rw [if_pos (sizeOk_of (by omega))]
            exact again _ g3
end
end PD

/-! PyF9: enumerate of rows; sorted, max of a list of ints; o[i] op= e; list() that will change. -/
namespace PD
open PySem PySem.Spec PyProof PyProof.Rows L2
/-! ### enumerate of a tuple -/
theorem meets_enumT (l : Addr) (items : Array Value) :
    Meets (Builtin.«enumerate.__new__» ⟨[.type "enumerate", .ref l], []⟩) (fun _ R s => s.heap.IsTuple l items ∧
      R (.ok (.ret (.ref (s.heap.push { cls := .type "tuple_iterator", data := .fields #[.ref l, .int 0 0] }).objs.size)))
        { s with heap := (s.heap.push { cls := .type "tuple_iterator", data := .fields #[.ref l, .int 0 0] }).push { cls := .type "enumerate", data := .fields #[.none, .bool false, .ref s.heap.objs.size, rawInt 0, .none, .none] } }) :=
  .of_wp fun prog w A R s h => by
    obtain ⟨hp, g, d, tk, os⟩ := s; obtain ⟨hl, h⟩ := h
    have hsub := sub_enumerate
    have q1 : ∀ {A' : Around} {E : Value → Shared → Prop} {Q : Value → Shared → Prop}, Q (.ref hp.objs.size) ⟨hp.push { cls := .type "tuple_iterator", data := .fields #[.ref l, .int 0 0] }, g, d, tk, os⟩ → wpAny (model prog w) A' (pyIter (.ref l)) Q E ⟨hp, g, d, tk, os⟩ :=
      fun q => (begins_tuple l items).iter prog w _ _ ⟨hp, g, d, tk, os⟩ _ hl q
    obtain ⟨⟨c, dct, dt, sl⟩, hl0, hc, n, hd⟩ := id hl
    replace hc : c = .type "tuple" := hc
    replace hd : dt = .seq items n := hd
    subst hc hd
    wp_walk using AutoSeq1.wpAny_loadPart' hl0
    refine wpAny_stack_any fun st => wpAny_pure ?_
    split
    · rename_i c _ _ _ _ _
      cases (c == Value.type "enumerate")
      · wp_walk using AutoSeq1.wpAny_loadPart' hl0, q1
        exact ⟨_, rfl, h⟩
      · wp_walk using AutoSeq1.wpAny_loadPart' hl0, q1
        exact ⟨_, rfl, h⟩
    · wp_walk using AutoSeq1.wpAny_loadPart' hl0, q1
      exact ⟨_, rfl, h⟩
theorem call_enumT {prog : Program} {w : World} {A : Around} {E : Value → Shared → Prop} {s : Shared} {l : Addr} {items : Array Value} {Q : Value → Shared → Prop} (hL : s.heap.IsTuple l items)
    (h : ∀ h', IsEnum h' (s.heap.objs.size + 1) s.heap.objs.size 0 .none → h'.IsTupleIter s.heap.objs.size l 0 → h'.objs.size = s.heap.objs.size + 2 →
      (∀ b o, s.heap.get? b = some o → h'.get? b = some o) → Q (.ref (s.heap.objs.size + 1)) { s with heap := h' }) :
    wpAny (model prog w) A (call (.type "enumerate") [.ref l]) Q E s := by
  refine callType_new F.called_enumerate (by decide) (F.typeCall_enumerate_1 _) (F.newCall_enumerate_1 _) (fun obj => F.args_object_init_2 obj _) F.entry_enumerate_new
    (meets_enumT l items) ⟨hL, ?_⟩
  have hz : (s.heap.push { cls := .type "tuple_iterator", data := .fields #[.ref l, .int 0 0] }).objs.size = s.heap.objs.size + 1 := Heap.size_push ..
  show _ ∧ _
  rw [hz]
  have he : IsEnum ((s.heap.push { cls := .type "tuple_iterator", data := .fields #[.ref l, .int 0 0] }).push
      { cls := .type "enumerate", data := .fields #[.none, .bool false, .ref s.heap.objs.size, rawInt 0, .none, .none] }) (s.heap.objs.size + 1) s.heap.objs.size 0 .none := by
    have := Heap.get?_push_size (s.heap.push { cls := .type "tuple_iterator", data := .fields #[.ref l, .int 0 0] })
      (o := { cls := .type "enumerate", data := .fields #[.none, .bool false, .ref s.heap.objs.size, rawInt 0, .none, .none] }) rfl
    rw [hz] at this; exact this
  refine ⟨⟨_, he, rfl⟩, h _ he ⟨_, Heap.get?_push_of_some _ (Heap.get?_push_size _ rfl), rfl, rfl⟩ (by rw [Heap.size_push, hz]) fun b o x => Heap.get?_push_of_some _ (Heap.get?_push_of_some _ x)⟩
/-- the tuple at a, each item in a new pair -/
def ItT (K : PySem.W.Frag) (a : Addr) : It :=
  ⟨fun i H => ∃ (xs : List V) (x : V), SqT K H a xs ∧ xs[i]? = some x, fun i H v H' => ∃ T x, v = .ref T ∧ H T = none ∧ H' = upd H T (.tup [.int (i : Nat), x]) ∧ ∀ xs, SqT K H a xs → xs[i]? = some x, fun i H => ∃ xs : List V, SqT K H a xs ∧ xs.length = i⟩
theorem turn_enumT {P : Program} {w : World} {K : PySem.W.Frag} {elts : List Expr} {kk : Nat} {tpos : Pos} (a e it : Addr) :
    Turn P w K (.Tuple elts kk tpos) (ItT K a) [e, it] e (fun i h => (∃ old, IsEnum h e it ((i : Nat) : Int) old) ∧ h.IsTupleIter it a i ∧ e ≠ it ∧ e ≠ a ∧ it ≠ a) where
  mem := by simp
  obj := fun i h st b hb => by
    obtain ⟨⟨old, he⟩, ⟨o, ho, hc, hd⟩, _⟩ := st
    have e' : b = e ∨ b = it := by simpa using hb
    rcases e' with z | z
    · rw [z]; exact ⟨_, he, fun v q => nomatch q⟩
    · rw [z]; exact ⟨o, ho, fun v q => by rw [hd] at q; cases q⟩
  keep := fun i h h' st k => let ⟨⟨old, he⟩, hi, hne⟩ := st; ⟨⟨old, k e (by simp) _ he⟩, hi.at fun o q => k it (by simp) o q, hne⟩
  item := by
    intro X hP hw hK hc i pins s σ H E I hf st hg
    subst hP hw hK
    obtain ⟨⟨old, he⟩, hit, hne, hea, hia⟩ := st
    obtain ⟨xs, x, hq, hx⟩ := hg
    obtain ⟨its, rv, p, hz⟩ := I.tuple hq
    replace p : s.heap.IsTuple a its.toArray := p
    obtain ⟨u, hu, ru⟩ := rv.get hx
    have hel : e < s.heap.objs.size := Heap.lt_size he
    have hil : it < s.heap.objs.size := by obtain ⟨_, q, _⟩ := hit; exact Heap.lt_size q
    have hlt : i < its.toArray.size := by simpa using (List.getElem?_eq_some_iff.mp hu).1
    have D : Draws X.prog X.w X.A.in1 it [it, a] its.toArray.size (fun i v => its.toArray[i]? = some v) (fun i h => h.IsTupleIter it a i ∧ h.IsTuple a its.toArray) := Draws.tuple (by show X.A.handled = none; exact I.ok.hd hc) it a (Ne.symm hia) its.toArray
    refine wpAny_pyNext_enum_itemD D he ⟨hit, p⟩ hlt hne (by simp [hne, hea]) fun y h' tk hP ho hst hT hsz hk => ?_
    have hy : y = u := by
      have e2 : its.toArray[i]? = some u := by simpa using hu
      rw [e2] at hP; exact (Option.some.inj hP).symm
    subst hy
    refine ⟨_, rfl, wpAny_letOwnedTupleGo_enum (s := { s with heap := h', toks := tk + 1 }) ho fun h'' he' sb => ?_⟩
    have hT2 : h''.get? s.heap.objs.size = some { cls := .type "tuple", data := .seq #[.int i tk, y] } := (sb.2 _ (Nat.ne_of_gt hel)).trans hT
    have new : ObjOk X.prog X.w (upd H s.heap.objs.size (.tup [.int (i : Nat), x])) h'' s.heap.objs.size (.tup [.int (i : Nat), x]) :=
      ⟨by show 2 ≤ sizeLine; decide, [.int i tk, y], .cons ⟨_, rfl⟩ (.cons ru .nil), ⟨_, hT2, rfl, _, rfl⟩⟩
    have I1 : Inv X pins σ (upd H s.heap.objs.size (.tup [.int (i : Nat), x])) { s with heap := h'', toks := tk + 1 } :=
      I.turnedNew (ch := [e, it]) (fun b ob hb q => (sb.2 b (fun z => hb (by simp [z]))).trans (hk b ob (fun z => hb (by simp [z])) (fun z => hb (by simp [z])) q)) hf (Nat.le_refl _) new
    refine ⟨.ref s.heap.objs.size, _, I1, rfl, ⟨_, x, rfl, I.hok.fresh (Nat.le_refl _), rfl, fun ys hy => by rw [I.tuple_inj hy hq]; exact hx⟩, ⟨⟨y, ?_⟩, hst.1.at fun o q => (sb.2 it (Ne.symm hne)).trans q, hne, hea, hia⟩, fun b hb => ?_⟩
    · have e1 : ((i + 1 : Nat) : Int) = (i : Int) + 1 := by omega
      rw [e1]; exact he'
    · have hb' : b < s.heap.objs.size := by
        have e' : b = e ∨ b = it := by simpa using hb
        rcases e' with z | z
        · rw [z]; exact hel
        · rw [z]; exact hil
      rw [upd_ne (Nat.ne_of_lt hb')]
      exact (hf b hb).1
  done := by
    intro X hP hw hK hc i pins s σ H E I hf st hg
    subst hP hw hK
    obtain ⟨⟨old, he⟩, hit, hne, hea, hia⟩ := st
    obtain ⟨xs, hq, hx⟩ := hg
    obtain ⟨its, rv, p, hz⟩ := I.tuple hq
    replace p : s.heap.IsTuple a its.toArray := p
    obtain ⟨f0, f1, f2, f3, f4, f5⟩ := hf it (by simp)
    have hl := rv.length
    have D : Draws X.prog X.w X.A.in1 it [it, a] its.toArray.size (fun i v => its.toArray[i]? = some v) (fun i h => h.IsTupleIter it a i ∧ h.IsTuple a its.toArray) := Draws.tuple (by show X.A.handled = none; exact I.ok.hd hc) it a (Ne.symm hia) its.toArray
    have hi : i = its.toArray.size := by simp; omega
    subst hi
    exact wpAny_pyNext_enum_endD D he ⟨hit, p⟩ fun h' eb => ⟨rfl, I.turned (t' := s.toks) (fun b o hb q => eb b o hb q) f0 f1 f3 f4 f5⟩
  self := fun A i s Q E st h => let ⟨⟨_, he⟩, _⟩ := st; wpAny_pyIter_enum he h
def tEnumT (K : PySem.W.Frag) (ta : TA) : TI := fun σ H R => ta σ H fun vs H1 => ∃ a xs, vs = [.ref a] ∧ SqT K H1 a xs ∧ R (ItT K a) H1
theorem pi_enumT {X : Cx} {e : Expr} {ta : TA} {p pos tpos : Pos} {elts : List Expr} {kk : Nat} (hg : Gl X "enumerate") (hm : X.mg "enumerate" = none) (ha : PA X [e] ta) (hs : starEach [e] X.env = [(false, eval e X.env)] := by rfl) :
    PI X (.Tuple elts kk tpos) (.Call (.Name "enumerate" p) [e] [] pos) (tEnumT X.K ta) := by
  refine ⟨fun pins s σ H R I h => ?_⟩
  refine Call_ (ld_blt I hg hm boot_enumerate (PyProof.Rows.callWith_type1 (thn (ha.run pos pins s σ H _ I h) fun us s1 ⟨vs, H1, I1, r1, q1⟩ => ?_) hs rfl))
  obtain ⟨a, xs, ex, hq, q⟩ := q1
  subst ex
  cases r1 with
  | cons r rr =>
    cases rr
    cases r
    obtain ⟨its, rv, p', hz⟩ := I1.tuple hq
    replace p' : s1.heap.IsTuple a its.toArray := p'
    have hal : a < s1.heap.objs.size := by obtain ⟨_, q, _⟩ := p'; exact Heap.lt_size q
    refine call_enumT p' fun h' he hit hsz hk => wpAny_pyIter_enum he ?_
    have I2 : Inv X pins σ H1 { s1 with heap := h' } := I1.kept (t' := s1.toks) hk
    refine ⟨s1.heap.objs.size + 1, [s1.heap.objs.size + 1, s1.heap.objs.size], _, _, H1, rfl, I2, turn_enumT a (s1.heap.objs.size + 1) s1.heap.objs.size,
      ⟨⟨.none, he⟩, hit, Nat.succ_ne_self _, Nat.ne_of_gt (Nat.lt_succ_of_lt hal), Nat.ne_of_gt hal⟩, fun b hb => ?_, q⟩
    have e' : b = s1.heap.objs.size + 1 ∨ b = s1.heap.objs.size := by simpa using hb
    have hle : s1.heap.objs.size ≤ b := by
      rcases e' with z | z
      · rw [z]; exact Nat.le_add_right _ _
      · rw [z]; exact Nat.le_refl _
    exact I1.fpOk hle (I1.hok.fresh hle)
/-! enumerate on plain data -/
def enumD (xs : List D) : List D := xs.mapIdx fun i x => .tup [.int (i : Nat), x]
theorem enumD_len {xs : List D} : (enumD xs).length = xs.length := by unfold enumD; simp
theorem enumD_get {xs : List D} {i : Nat} {d : D} (h : (enumD xs)[i]? = some d) : ∃ x, xs[i]? = some x ∧ d = .tup [.int (i : Nat), x] := by
  unfold enumD at h
  rw [List.getElem?_mapIdx, Option.map_eq_some_iff] at h
  obtain ⟨x, h1, h2⟩ := h
  exact ⟨x, h1, h2.symm⟩
def iEnumD (ma : MA) : MI := fun E S => (ma E S).bind fun ds S1 => match ds with
  | [.tup xs] => .ok ⟨enumD xs, none⟩ S1
  | [.lst xs] => .ok ⟨enumD xs, none⟩ S1
  | [.fz xs] => .ok ⟨enumD xs, none⟩ S1
  | [.loc n] => (match S1[n]? with
    | some (.lst xs) => .ok ⟨enumD xs, some (n, xs)⟩ S1
    | _ => .bad)
  | _ => .bad
section
variable {X : Cx} {W : WW X.K} {pos : Pos}
theorem pair_ok {ρ : List Addr} {S : Sto} {H : Hp} {T : Addr} {i : Nat} {x : V} {d : D} (r : Rel X.K ρ S H) (hT : H T = none) (dv : DV X.K ρ H d x) : DV X.K ρ (upd H T (.tup [.int (i : Nat), x])) (.tup [.int (i : Nat), d]) (.ref T) :=
  dv_tup (vs := [.int (i : Nat), x]) hT (by simp only [DVs]; exact ⟨_, _, rfl, by simp [DV], _, _, rfl, dv, rfl⟩)
theorem walks_enumT {ρ : List Addr} {H : Hp} {xs : List D} {vs : List V} {a : Addr} (h1 : SqT X.K H a vs) (h2 : DVs X.K ρ H xs vs) : Walks X.K ρ H ⟨enumD xs, none⟩ (ItT X.K a) := by
  intro ρ1 S H1 r e c
  have s1 := e.tup _ _ h1
  have d1 := DVs.mono e _ _ h2
  refine ⟨fun i d hd => ?_, ⟨vs, s1, by rw [enumD_len, d1.length]⟩⟩
  obtain ⟨x, hx, rfl⟩ := enumD_get hd
  obtain ⟨v, hv, dv⟩ := d1.get hx
  refine ⟨⟨vs, v, s1, hv⟩, fun y H' hy => ?_⟩
  obtain ⟨T, z, rfl, hT, rfl, hz⟩ := hy
  have := hz vs s1
  rw [hv] at this
  cases this
  exact ⟨r.new hT, Ext.new hT, pair_ok r hT dv⟩
theorem walks_enumL {ρ : List Addr} {H : Hp} {xs : List D} {c0 : Option (Nat × List D)} {a : Addr} (h : ∀ ρ1 S H1, Rel X.K ρ1 S H1 → Ext X.K ρ H ρ1 H1 → chkOk c0 S → ∃ vs, SqL X.K H1 a vs ∧ DVs X.K ρ1 H1 xs vs) : Walks X.K ρ H ⟨enumD xs, c0⟩ (Ite X.K a) := by
  intro ρ1 S H1 r e c
  obtain ⟨vs, s1, d1⟩ := h ρ1 S H1 r e c
  refine ⟨fun i d hd => ?_, ⟨vs, s1, by rw [enumD_len, d1.length]; exact Nat.le_refl _⟩⟩
  obtain ⟨x, hx, rfl⟩ := enumD_get hd
  obtain ⟨v, hv, dv⟩ := d1.get hx
  refine ⟨⟨vs, v, s1, hv⟩, fun y H' hy => ?_⟩
  obtain ⟨T, z, rfl, hT, rfl, hz⟩ := hy
  have := hz vs s1
  rw [hv] at this
  cases this
  exact ⟨r.new hT, Ext.new hT, pair_ok r hT dv⟩
theorem id_enum {e : Expr} {ma : MA} {p tpos : Pos} {elts : List Expr} {kk : Nat} (hg : Gl X "enumerate") (hm : X.mg "enumerate" = none) (ha : AD X W [e] ma)
    (hs : starEach [e] X.env = [(false, eval e X.env)] := by rfl) : ID X W (.Tuple elts kk tpos) (.Call (.Name "enumerate" p) [e] [] pos) (iEnumD ma) := by
  refine PI.impI (PI.or (pi_enumT hg hm ha hs) (pi_enum hg hm ha hs)) fun σ H R ρ S E r er p => ?_
  unfold iEnumD at p
  cases q : ma E S with
  | bad => rw [q] at p; exact p.elim
  | ex e S1 => rw [q] at p; exact .inl ⟨ρ, S, E, r, er, by rw [q]; exact p⟩
  | ok ds S1 =>
    rw [q, bind_ok] at p
    split at p
    · refine .inl ⟨ρ, S, E, r, er, ?_⟩
      rw [q]
      intro ρ1 H1 v r1 e1 dv
      obtain ⟨u, rfl, h1⟩ := dvs1 dv
      obtain ⟨a, vs, rfl, h2, h3⟩ := tup_ok h1
      exact ⟨a, vs, rfl, h2, p ρ1 H1 _ r1 e1 (walks_enumT h2 h3)⟩
    · refine .inr ⟨ρ, S, E, r, er, ?_⟩
      rw [q]
      intro ρ1 H1 v r1 e1 dv
      obtain ⟨u, rfl, h1⟩ := dvs1 dv
      simp only [DV] at h1
      obtain ⟨a, vs, rfl, h2, h3⟩ := h1
      exact ⟨a, vs, rfl, h2.seq, p ρ1 H1 _ r1 e1 (walks_enumL fun ρ2 S2 H2 r2 e2 _ => ⟨vs, (h2.mono e2).seq, DVs.mono e2 _ _ h3⟩)⟩
    · refine .inr ⟨ρ, S, E, r, er, ?_⟩
      rw [q]
      intro ρ1 H1 v r1 e1 dv
      obtain ⟨u, rfl, h1⟩ := dvs1 dv
      simp only [DV] at h1
      obtain ⟨a, vs, rfl, h2, h3⟩ := h1
      exact ⟨a, vs, rfl, h2.seq, p ρ1 H1 _ r1 e1 (walks_enumL fun ρ2 S2 H2 r2 e2 _ => ⟨vs, (h2.mono e2).seq, DVs.mono e2 _ _ h3⟩)⟩
    · rename_i n
      split at p
      · rename_i xs hs1
        refine .inr ⟨ρ, S, E, r, er, ?_⟩
        rw [q]
        intro ρ1 H1 v r1 e1 dv
        obtain ⟨u, rfl, h1⟩ := dvs1 dv
        simp only [DV] at h1
        obtain ⟨a, rfl, ha⟩ := h1
        obtain ⟨vs, h2, h3⟩ := r1.lst hs1 ha
        refine ⟨a, vs, rfl, SqL.of h2, p ρ1 H1 _ r1 e1 (walks_enumL fun ρ2 S2 H2 r2 e2 hc => ?_)⟩
        obtain ⟨t, rfl⟩ := e2.pre
        obtain ⟨us, g1, g2⟩ := r2.lst hc (by rw [List.getElem?_append_left (List.getElem?_eq_some_iff.mp ha).1]; exact ha)
        exact ⟨us, SqL.of g1, g2⟩
      · exact p.elim
    · exact p.elim
/-! ### sorted, max of ints -/
def intsD : List D → Option (List Int)
  | [] => some []
  | .int i :: r => (intsD r).map (i :: ·)
  | _ :: _ => none
theorem intsD_ok {K : PySem.W.Frag} {ρ : List Addr} {H : Hp} : ∀ {ds : List D} {vs : List V} {ns : List Int}, intsD ds = some ns → DVs K ρ H ds vs → vs = ns.map V.int
  | [], vs, ns, h, d => by simp only [intsD] at h; cases h; simp only [DVs] at d; simp [d]
  | x :: r, vs, ns, h, d => by
    simp only [DVs] at d
    obtain ⟨v, us, rfl, d1, d2⟩ := d
    cases x <;> simp only [intsD, reduceCtorEq] at h
    rw [Option.map_eq_some_iff] at h
    obtain ⟨ms, h1, rfl⟩ := h
    rw [dv_int] at d1
    rw [d1, intsD_ok h1 d2]; rfl
def intL (ns : List Int) : List D := ns.map D.int
theorem intsD_L : ∀ ns : List Int, intsD (intL ns) = some ns
  | [] => rfl
  | n :: r => by show (intsD (intL r)).map (n :: ·) = _; rw [intsD_L r]; rfl
theorem dvs_ints {K : PySem.W.Frag} {ρ : List Addr} {H : Hp} : ∀ ns : List Int, DVs K ρ H (intL ns) (ns.map V.int)
  | [] => by simp [intL, DVs]
  | n :: r => by
    show DVs K ρ H (D.int n :: intL r) (V.int n :: r.map V.int)
    simp only [DVs]
    exact ⟨_, _, rfl, by simp [DV], dvs_ints r⟩
def sortI (ns : List Int) : List Int := ns.mergeSort fun a b => decide (a ≤ b)
theorem sortI_perm (ns : List Int) : (sortI ns).Perm ns := List.mergeSort_perm ..
theorem sortI_pw (ns : List Int) : (sortI ns).Pairwise (· ≤ ·) := by
  have := List.pairwise_mergeSort (le := fun a b : Int => decide (a ≤ b)) (by intro a b c h1 h2; simp at *; omega) (by intro a b; simp; omega) ns
  exact this.imp fun h => by simpa using h
theorem sorted_uniq {xs ys : List Int} (h : xs.Perm ys) (hx : xs.Pairwise (· ≤ ·)) (hy : ys.Pairwise (· ≤ ·)) : xs = ys :=
  List.Perm.eq_of_pairwise (fun _ _ _ _ h1 h2 => Int.le_antisymm h1 h2) hx hy h
def gSorted (S : Sto) (ds : List D) : Option D := match ds with
  | [d] => ((seqF S d).bind intsD).map fun ns => .lst (intL (sortI ns))
  | _ => none
theorem rp_sorted : ∀ vs H Q, rPB X.K gSorted vs H Q → rSortedI X.K vs H Q := by
  rintro vs H Q ⟨ρ, S, ds, d, r, dv, hg, q⟩
  unfold gSorted at hg
  split at hg
  · rename_i x
    rw [Option.map_eq_some_iff] at hg
    obtain ⟨ns, h, rfl⟩ := hg
    rw [Option.bind_eq_some_iff] at h
    obtain ⟨xs, e, hn⟩ := h
    obtain ⟨u, rfl, h1⟩ := dvs1 dv
    obtain ⟨a, us, rfl, h2, h3⟩ := seqF_ok r h1 e
    have hu := intsD_ok hn h3
    subst hu
    refine ⟨a, ns, rfl, h2, fun ns' p hp hpw hf => ?_⟩
    have := sorted_uniq (hp.trans (sortI_perm ns).symm) hpw (sortI_pw ns)
    subst this
    exact post_lst r hf (dvs_ints _) q
  · cases hg
def maxI : List Int → Option Int
  | [] => none
  | n :: r => match maxI r with
    | none => some n
    | some m => some (if n ≤ m then m else n)
theorem maxI_some : ∀ {ns : List Int}, ns ≠ [] → ∃ m, maxI ns = some m ∧ m ∈ ns ∧ ∀ y ∈ ns, y ≤ m
  | [], h => absurd rfl h
  | [n], _ => ⟨n, rfl, by simp, by simp⟩
  | n :: k :: r, _ => by
    obtain ⟨m, h1, h2, h3⟩ := maxI_some (ns := k :: r) (by simp)
    refine ⟨if n ≤ m then m else n, by rw [maxI, h1], ?_, fun y hy => ?_⟩
    · split
      · exact List.mem_cons_of_mem _ h2
      · simp
    · rcases List.mem_cons.mp hy with rfl | hy
      · split <;> omega
      · have := h3 y hy; split <;> omega
def gMaxL (S : Sto) (ds : List D) : Option D := match ds with
  | [d] => (((seqF S d).bind intsD).bind maxI).map D.int
  | _ => none
theorem rp_maxL : ∀ vs H Q, rPB X.K gMaxL vs H Q → rMax X.K vs H Q := by
  rintro vs H Q ⟨ρ, S, ds, d, r, dv, hg, q⟩
  unfold gMaxL at hg
  split at hg
  · rename_i x
    rw [Option.map_eq_some_iff] at hg
    obtain ⟨m, h, rfl⟩ := hg
    rw [Option.bind_eq_some_iff] at h
    obtain ⟨ns, h, hm⟩ := h
    rw [Option.bind_eq_some_iff] at h
    obtain ⟨xs, e, hn⟩ := h
    obtain ⟨u, rfl, h1⟩ := dvs1 dv
    obtain ⟨a, us, rfl, h2, h3⟩ := seqF_ok r h1 e
    have hu := intsD_ok hn h3
    subst hu
    have hne : ns ≠ [] := by rintro rfl; cases hm
    refine ⟨a, ns, rfl, h2, List.length_pos_iff.mpr hne, fun m' h4 h5 => ?_⟩
    obtain ⟨k, g1, g2, g3⟩ := maxI_some hne
    rw [g1] at hm; cases hm
    have : m' = m := Int.le_antisymm (g3 _ h4) (h5 _ g2)
    subst this
    exact post_int r q
  · cases hg
/-! ### a list made of a row, that will change -/
def mListL (a : MA) : ME := fun E S => (a E S).bind fun ds S1 => match ds with
  | [d] => (match rowF S1 d with
    | some xs => .ok (.loc S1.length) (S1 ++ [.lst xs])
    | none => .bad)
  | _ => .bad
theorem listL_read {ms : MA} {r : List V → Hp → VK → Prop} (hr : ∀ vs H Q, (∃ p ys, vs = [V.ref p] ∧ (SqL X.K H p ys ∨ SqT X.K H p ys) ∧ ∀ l, H l = none → Q (.ref l) (upd H l (.lst ys))) → r vs H Q) : ∀ σ H Q ρ S E, Rel X.K ρ S H → ER X.K W ρ H E σ → Post X.K (DV X.K) ρ H Q (fun c dx H' => W.w c dx σ H') (mListL ms E S) → tCB r (tA X.K W ms) σ H Q := by
  intro σ H Q ρ S E re er p
  refine ⟨ρ, S, E, re, er, (Post.bind (R := DVs X.K) p).imp fun vs H1 ⟨ρ1, S1, ds, r1, e1, d1, p1⟩ => ?_⟩
  apply hr
  split at p1
  · rename_i d
    obtain ⟨u, rfl, h1⟩ := dvs1 d1
    split at p1
    · rename_i xs hx
      obtain ⟨a, us, rfl, h2, h3⟩ := rowF_ok r1 h1 hx
      exact ⟨a, us, rfl, h2, fun q hq => p1 (ρ1 ++ [q]) _ _ (r1.alloc hq ⟨us, upd_same, DVs.mono (Ext.alloc hq) _ _ h3⟩) (Ext.alloc hq) (dv_loc r1)⟩
    · exact p1.elim
  · exact p1.elim
theorem ed_listL {x : Str} {e : Expr} {p : Pos} {ms : MA} (hx : x = "list") (hg : Gl X x) (hm : X.mg x = none) (ha : AD X W [e] ms) (he : starEach [e] X.env = (false, eval e X.env) :: starEach [] X.env := by rfl) (hpl : (backTo pos (starEach [] X.env)).any (·.1) = false := by rfl) :
    ED X W (.Call (.Name x p) [e] [] pos) (mListL ms) := by
  subst hx
  first
    | exact ed_of (pe_callTy call_list_of hg hm boot_list ha (by decide) (by decide) he hpl) (listL_read fun _ _ _ h => h)
    | exact ed_of (pe_callTy (es := []) call_list_of hg hm boot_list ha (by decide) (by decide) he hpl) (listL_read fun _ _ _ h => h)
/-! ### o[i] op= e, o a list of the store -/
def rGetLN (K : PySem.W.Frag) : V → V → Hp → VK → Prop := fun o i H Q => ∃ p xs k v, o = .ref p ∧ i = .int k ∧ 0 ≤ k ∧ H p = some (.lst xs) ∧ xs[k.toNat]? = some v ∧ Q v H
theorem get_listN : PGet X (rGetLN X.K) := by
  intro pins s σ H o i ov iv Q I ro ri h
  obtain ⟨p, xs, k, v, rfl, rfl, h0, hp, hv, q⟩ := h
  cases ro
  obtain ⟨t, rfl⟩ := ri
  obtain ⟨its, r, pl, hz⟩ := I.list (SqL.of hp)
  obtain ⟨w, ew, rw'⟩ := r.get hv
  have hl := r.length
  have hlt := (List.getElem?_eq_some_iff.mp hv).1
  have hn := line63
  exact wpAny_getItem_list pl.isList h0 (by omega) (by simpa using ew) ⟨v, H, I, rw', q⟩
noncomputable def mAugI (o i : ME) (g : Sto → D → D → Option D) (e : ME) : MS := fun E S => (o E S).toS E fun x S1 => (i E S1).toS E fun k S2 => match x, k with
  | .loc n, .int k => (match S2[n]? with
    | some (.lst l) => if 0 ≤ k then (match l[k.toNat]? with
      | some old => (e E S2).toS E fun y S3 => (match g S3 old y with
        | some z => (match S3[n]? with
          | some (.lst l3) => if k.toNat < l3.length then .nx E (S3.set n (.lst (l3.set k.toNat z))) else .bad
          | _ => .bad)
        | none => .bad)
      | none => .bad) else .bad
    | _ => .bad)
  | _, _ => .bad
theorem sd_augS {o i e : Expr} {mo mi me : ME} {op : Operator} {tip : TIp} {tpos : Pos} {g : Sto → D → D → Option D} (ho : ED X W o mo) (hi : ED X W i mi) (he : ED X W e me) (hp : PIp X op tip) (hr : ∀ x y H Q, rP X.K g x y H Q → tip x y H Q)
    (ha : ∀ ov iv new, augStore i ov iv new = (do holding [new, ov, iv] (setItem ov iv new); release [new, ov, iv] []; pure .next) := by intros; rfl) : SD X W (.AugAssign (.Subscript o i tpos) op e pos) (mAugI mo mi g me) := by
  refine sd_of (ps_augS ho hi get_listN he hp set_list ha) fun D σ H ρ S E r er p => ?_
  refine ⟨ρ, S, E, r, er, (SPost.bind (R := DV X.K) er p).imp fun x H1 ⟨ρ1, S1, dx, r1, e1, d1, p1⟩ => ?_⟩
  have er1 := er.mono e1
  refine ⟨ρ1, S1, E, r1, er1, (SPost.bind (R := DV X.K) er1 p1).imp fun k H2 ⟨ρ2, S2, dk, r2, e2, d2, p2⟩ => ?_⟩
  have er2 := er1.mono e2
  have d1' := DV.mono e2 _ _ d1
  cases dx with
  | loc n =>
    cases dk with
    | int k =>
      rw [dv_int] at d2; subst d2
      simp only at p2
      split at p2
      · rename_i l hs
        by_cases h0 : 0 ≤ k
        · rw [if_pos h0] at p2
          split at p2
          · rename_i old hold
            simp only [DV] at d1'
            obtain ⟨a, rfl, ha⟩ := d1'
            obtain ⟨us, h1, h2⟩ := r2.lst hs ha
            obtain ⟨v, hv, dv⟩ := h2.get hold
            refine ⟨a, us, k, v, rfl, rfl, h0, h1, hv, ?_⟩
            refine ⟨ρ2, S2, E, r2, er2, (SPost.bind (R := DV X.K) er2 p2).imp fun y H3 ⟨ρ3, S3, dy, r3, e3, d3, p3⟩ => ?_⟩
            have er3 := er2.mono e3
            cases hg : g S3 old dy with
            | none => rw [hg] at p3; exact p3.elim
            | some z =>
              rw [hg] at p3
              simp only at p3
              refine hr _ _ _ _ ⟨ρ3, S3, old, dy, z, r3, DV.mono e3 _ _ dv, d3, hg, fun ρ4 H4 w r4 e4 dw => ?_⟩
              have er4 := er3.mono e4
              split at p3
              · rename_i l3 hs3
                split at p3
                · rename_i hlt
                  have ha4 : ρ4[n]? = some a := by
                    obtain ⟨t3, q3⟩ := e3.pre
                    obtain ⟨t4, q4⟩ := e4.pre
                    exact pre_at q4 (pre_at q3 ha)
                  obtain ⟨us4, g1, g2⟩ := r4.lst hs3 ha4
                  have wr := Ext.write (K := X.K) (us := us4.set k.toNat w) (List.mem_of_getElem? ha4) g1
                  refine ⟨a, us4, k, k.toNat, rfl, rfl, g1, ?_, p3 ρ4 _ σ (r4.write ha4 hs3 g1 (DVs.set dw k.toNat g2)) (e4.trans wr) (er4.mono wr)⟩
                  rw [← g2.length]
                  exact ixD_ixN (by unfold ixD; rw [if_pos h0, if_pos hlt])
                · exact p3.elim
              · exact p3.elim
          · exact p2.elim
        · rw [if_neg h0] at p2; exact p2.elim
      · exact p2.elim
    | _ => exact p2.elim
  | _ => exact p2.elim
end
/-! ### by weakest preconditions -/
section
variable {Q : D → Sto → Prop} {QI : ItD → Sto → Prop} {X : Exn → Sto → Prop} {E : Evn} {S : Sto} {ma : MA}
def OkEnum (S : Sto) (ds : List D) (Q : ItD → Prop) (_u : Tg Q Q := .mk) : Prop := match ds with
  | [.tup xs] => Q ⟨enumD xs, none⟩
  | [.lst xs] => Q ⟨enumD xs, none⟩
  | [.fz xs] => Q ⟨enumD xs, none⟩
  | [.loc n] => (match S[n]? with
    | some (.lst xs) => Q ⟨enumD xs, some (n, xs)⟩
    | _ => False)
  | _ => False
theorem w_enum : OkO (iEnumD ma E S) QI X = OkO (ma E S) (fun ds S1 => OkEnum S1 ds fun i => QI i S1) X := by
  unfold iEnumD
  refine w_bind.trans (OkO_fun fun ds S1 => ?_)
  unfold OkEnum
  split <;> try rfl
  split <;> rfl
theorem w_enumT {xs : List D} {Q : ItD → Prop} : OkEnum S [.tup xs] Q = Q ⟨enumD xs, none⟩ := rfl
theorem w_enumL {xs : List D} {Q : ItD → Prop} : OkEnum S [.lst xs] Q = Q ⟨enumD xs, none⟩ := rfl
theorem w_enumC {n : Nat} {xs : List D} {Q : ItD → Prop} (h : S[n]? = some (.lst xs)) : OkEnum S [.loc n] Q = Q ⟨enumD xs, some (n, xs)⟩ := by
  unfold OkEnum; simp only [h]
theorem w_listL : OkO (mListL ma E S) Q X = OkO (ma E S) (fun ds S1 => match ds with
  | [d] => (match rowF S1 d with
    | some xs => Q (.loc S1.length) (S1 ++ [.lst xs])
    | none => False)
  | _ => False) X := by
  unfold mListL
  refine w_bind.trans (OkO_fun fun ds S1 => ?_)
  split
  · split <;> rfl
  · rfl
theorem rowF_tup {xs : List D} : rowF S (.tup xs) = some xs := rfl
theorem rowF_lst {xs : List D} : rowF S (.lst xs) = some xs := rfl
theorem rowF_loc {n : Nat} {xs : List D} (h : S[n]? = some (.lst xs)) : rowF S (.loc n) = some xs := by unfold rowF seqF; simp only [h]
theorem g_sortedL {ns : List Int} : gSorted S [.lst (intL ns)] = some (.lst (intL (sortI ns))) := by simp [gSorted, seqF, intsD_L]
theorem g_sortedC {n : Nat} {ns : List Int} (h : S[n]? = some (.lst (intL ns))) : gSorted S [.loc n] = some (.lst (intL (sortI ns))) := by simp [gSorted, seqF, h, intsD_L]
theorem g_maxL {ns : List Int} {m : Int} (h : maxI ns = some m) : gMaxL S [.lst (intL ns)] = some (.int m) := by simp [gMaxL, seqF, intsD_L, h]
theorem intL_fl (ns : List Int) : (intL ns).all flD = true := by simp [intL, flD]
theorem intL_teq {i : Int} : ∀ ns : List Int, ((intL ns).any fun y => teq y (.int i)) = decide (i ∈ ns)
  | [] => by simp [intL]
  | n :: r => by
    have := intL_teq (i := i) r
    simp only [intL, List.map_cons, List.any_cons] at this ⊢
    rw [this]
    simp only [teq, List.mem_cons, Bool.decide_or]
    congr 1
    rw [decide_eq_decide]
    exact eq_comm
theorem g_inIT {i : Int} {ns : List Int} : gIn S (.int i) (.tup (intL ns)) = some (.bl (decide (i ∈ ns))) := by
  rw [g_inT rfl (intL_fl ns), intL_teq]
theorem g_ninIT {i : Int} {ns : List Int} : gNotIn S (.int i) (.tup (intL ns)) = some (.bl (!decide (i ∈ ns))) := by
  rw [g_notInT rfl (intL_fl ns), intL_teq]
theorem g_inIL {i : Int} {ns : List Int} : gIn S (.int i) (.lst (intL ns)) = some (.bl (decide (i ∈ ns))) := by
  rw [g_in (in_seq (ys := intL ns) rfl rfl (intL_fl ns)), intL_teq]
theorem g_ninIL {i : Int} {ns : List Int} : gNotIn S (.int i) (.lst (intL ns)) = some (.bl (!decide (i ∈ ns))) := by
  rw [g_notIn (in_seq (ys := intL ns) rfl rfl (intL_fl ns)), intL_teq]
theorem g_inIC {i : Int} {n : Nat} {ns : List Int} (h : S[n]? = some (.lst (intL ns))) : gIn S (.int i) (.loc n) = some (.bl (decide (i ∈ ns))) := by
  rw [g_in (in_seq (ys := intL ns) (by unfold seqF; simp only [h]) rfl (intL_fl ns)), intL_teq]
theorem g_ninIC {i : Int} {n : Nat} {ns : List Int} (h : S[n]? = some (.lst (intL ns))) : gNotIn S (.int i) (.loc n) = some (.bl (!decide (i ∈ ns))) := by
  rw [g_notIn (in_seq (ys := intL ns) (by unfold seqF; simp only [h]) rfl (intL_fl ns)), intL_teq]
theorem okds_int {k : Nat} : ∀ ns : List Int, okds (intL ns) k = true
  | [] => rfl
  | n :: r => by show (okd (.int n) k && okds (intL r) k) = true; rw [okds_int r]; rfl
theorem teqs_nil {xs : List D} : teqs xs [] = decide (xs = []) := by cases xs <;> simp [teqs]
theorem g_neNilC {n : Nat} {ns : List Int} (h : S[n]? = some (.lst (intL ns))) : gNe S (.loc n) (.lst []) = some (.bl (decide (ns ≠ []))) := by
  have hf : flat S (.loc n) = .lst (intL ns) := by unfold flat seqF; simp only [h]
  rw [gNe_teq (by rw [hf]; simp [okd, okds_int]) (by simp [flat, okd, okds]), hf]
  simp only [flat, teq, teqs_nil]
  cases ns <;> simp [intL]
theorem g_neNilT {ns : List Int} : gNe S (.tup (intL ns)) (.tup []) = some (.bl (decide (ns ≠ []))) := by
  rw [gNe_teq (by simp [flat, okd, okds_int]) (by simp [flat, okd, okds])]
  simp only [flat, teq, teqs_nil]
  cases ns <;> simp [intL]
end
end PD

/-! PyG0: rows of whole numbers from 0 on; more rules by weakest preconditions. -/
namespace PD
open PySem PySem.Spec PyProof PyProof.Rows L2
def natL (r : List Nat) : List D := r.map fun n => D.int (n : Nat)
theorem natL_int (r : List Nat) : natL r = intL (r.map fun n : Nat => (n : Int)) := by simp [natL, intL]
theorem natL_len (r : List Nat) : (natL r).length = r.length := by simp [natL]
theorem intL_len (r : List Int) : (intL r).length = r.length := by simp [intL]
theorem natL_app (r q : List Nat) : natL r ++ natL q = natL (r ++ q) := by simp [natL]
theorem natL_snoc (r : List Nat) (n : Nat) : natL r ++ [D.int (n : Nat)] = natL (r ++ [n]) := by simp [natL]
theorem intL_snoc (r : List Int) (n : Int) : intL r ++ [D.int n] = intL (r ++ [n]) := by simp [intL]
theorem natL_get {r : List Nat} {i v : Nat} (h : r[i]? = some v) : (natL r)[i]? = some (.int (v : Nat)) := by simp [natL, h]
theorem intL_get {r : List Int} {i : Nat} {v : Int} (h : r[i]? = some v) : (intL r)[i]? = some (.int v) := by simp [intL, h]
theorem intL_set {r : List Int} {i : Nat} {v : Int} : (intL r).set i (.int v) = intL (r.set i v) := by simp [intL]
theorem natL_mem {r : List Nat} {i : Nat} : ((i : Int) ∈ r.map fun n : Nat => (n : Int)) = (i ∈ r) := by
  rw [eq_iff_iff, List.mem_map]
  exact ⟨fun ⟨a, h, e⟩ => by have : a = i := by omega
                             rw [← this]; exact h, fun h => ⟨i, h, rfl⟩⟩
theorem sort_nat (r : List Nat) : ∃ q : List Nat, q.Perm r ∧ q.Pairwise (· ≤ ·) ∧ sortI (r.map fun n : Nat => (n : Int)) = q.map fun n : Nat => (n : Int) := by
  have hp := sortI_perm (r.map fun n : Nat => (n : Int))
  have hw := sortI_pw (r.map fun n : Nat => (n : Int))
  refine ⟨(sortI (r.map fun n : Nat => (n : Int))).map Int.toNat, ?_, ?_, ?_⟩
  · have := hp.map Int.toNat
    rw [List.map_map] at this
    have e : (r.map (Int.toNat ∘ fun n : Nat => (n : Int))) = r := by
      conv => rhs; rw [← List.map_id r]
      exact List.map_congr_left fun a _ => by simp
    rw [e] at this
    exact this
  · exact List.pairwise_map.mpr (hw.imp fun h => by omega)
  · rw [List.map_map]
    have : ∀ x ∈ sortI (r.map fun n : Nat => (n : Int)), ((fun n : Nat => (n : Int)) ∘ Int.toNat) x = id x := fun x hx => by
      have h2 := hp.mem_iff.mp hx
      rw [List.mem_map] at h2
      obtain ⟨a, _, rfl⟩ := h2
      simp
    rw [List.map_congr_left this, List.map_id]
section
variable {Q : D → Prop} {S : Sto}
theorem g_inNT {i : Nat} {ns : List Nat} : gIn S (.int (i : Nat)) (.tup (natL ns)) = some (.bl (decide (i ∈ ns))) := by rw [natL_int, g_inIT]; simp only [natL_mem]
theorem g_ninNT {i : Nat} {ns : List Nat} : gNotIn S (.int (i : Nat)) (.tup (natL ns)) = some (.bl (!decide (i ∈ ns))) := by rw [natL_int, g_ninIT]; simp only [natL_mem]
theorem g_inNL {i : Nat} {ns : List Nat} : gIn S (.int (i : Nat)) (.lst (natL ns)) = some (.bl (decide (i ∈ ns))) := by rw [natL_int, g_inIL]; simp only [natL_mem]
theorem g_ninNL {i : Nat} {ns : List Nat} : gNotIn S (.int (i : Nat)) (.lst (natL ns)) = some (.bl (!decide (i ∈ ns))) := by rw [natL_int, g_ninIL]; simp only [natL_mem]
theorem inB2_loc {i : Int} {n : Nat} : inB2 S (.int i) (.loc n) = (match S[n]? with
    | some (.lst xs) => inB2 S (.int i) (.lst xs)
    | _ => none) := by
  unfold inB2
  simp only [seqF]
  cases S[n]? with
  | none => rfl
  | some o => cases o <;> rfl
theorem g_inLoc {i : Int} {n : Nat} : gIn S (.int i) (.loc n) = (match S[n]? with
    | some (.lst xs) => gIn S (.int i) (.lst xs)
    | _ => none) := by
  unfold gIn
  rw [inB2_loc]
  cases S[n]? with
  | none => rfl
  | some o => cases o <;> rfl
theorem g_ninLoc {i : Int} {n : Nat} : gNotIn S (.int i) (.loc n) = (match S[n]? with
    | some (.lst xs) => gNotIn S (.int i) (.lst xs)
    | _ => none) := by
  unfold gNotIn
  rw [inB2_loc]
  cases S[n]? with
  | none => rfl
  | some o => cases o <;> rfl
theorem p_inLoc {i : Int} {n : Nat} : OkP (gIn S (.int i) (.loc n)) Q = OkT S[n]? fun xs => OkP (gIn S (.int i) (.lst xs)) Q := by
  rw [g_inLoc]
  cases S[n]? with
  | none => rfl
  | some o => cases o <;> rfl
theorem p_ninLoc {i : Int} {n : Nat} : OkP (gNotIn S (.int i) (.loc n)) Q = OkT S[n]? fun xs => OkP (gNotIn S (.int i) (.lst xs)) Q := by
  rw [g_ninLoc]
  cases S[n]? with
  | none => rfl
  | some o => cases o <;> rfl
theorem p_sortedLoc {n : Nat} : OkP (gSorted S [.loc n]) Q = OkT S[n]? fun xs => OkP (gSorted S [.lst xs]) Q := by
  unfold gSorted
  simp only [seqF]
  cases S[n]? with
  | none => rfl
  | some o => cases o <;> rfl
theorem p_sortedN {r : List Nat} : OkP (gSorted S [.lst (natL r)]) Q = OkN (.lst (intL (sortI (r.map fun n : Nat => (n : Int))))) Q := by
  rw [natL_int, g_sortedL]; rfl
theorem deq_loc {n : Nat} {y : D} : gNe S (.loc n) (.lst []) = (match S[n]? with
    | some (.lst xs) => gNe S (.lst xs) (.lst [])
    | _ => none) := by
  unfold gNe eqB deepEq toPS
  simp only [seqF]
  cases S[n]? with
  | none => rfl
  | some o => cases o <;> rfl
theorem g_neNil {ns : List Int} : gNe S (.lst (intL ns)) (.lst []) = some (.bl (decide (ns ≠ []))) := by
  rw [gNe_teq (by simp [flat, okd, okds_int]) (by simp [flat, okd, okds])]
  simp only [flat, teq, teqs_nil]
  cases ns <;> simp [intL]
theorem g_neNilN {ns : List Nat} : gNe S (.lst (natL ns)) (.lst []) = some (.bl (decide (ns ≠ []))) := by
  rw [natL_int, g_neNil]; cases ns <;> simp
theorem p_neNilLoc {n : Nat} : OkP (gNe S (.loc n) (.lst [])) Q = OkT S[n]? fun xs => OkP (gNe S (.lst xs) (.lst [])) Q := by
  rw [deq_loc (y := .non)]
  cases S[n]? with
  | none => rfl
  | some o => cases o <;> rfl
theorem g_neNilNT {ns : List Nat} : gNe S (.tup (natL ns)) (.tup []) = some (.bl (decide (ns ≠ []))) := by
  rw [natL_int, g_neNilT]; cases ns <;> simp
theorem p_ixLoc {n : Nat} {i : Int} : OkP (gIx S (.loc n) (.int i)) Q = OkT S[n]? fun xs => OkP (atD xs i) Q := by
  rw [g_ixLoc]
  cases S[n]? with
  | none => rfl
  | some o => cases o <;> rfl
theorem p_lenLoc {n : Nat} : OkP (gLen S [.loc n]) Q = OkT S[n]? fun xs => OkN (.int xs.length) Q := by
  rw [g_lenLoc']
  cases S[n]? with
  | none => rfl
  | some o => cases o <;> rfl
end
section
variable {Q : D → Sto → Prop} {QI : ItD → Sto → Prop} {N B C : EC} {R : D → Sto → Prop} {X : Exn → Sto → Prop} {XE : Exn → EC} {E : Evn} {S : Sto} {ma : MA}
theorem w_enumC' {n : Nat} {Q : ItD → Prop} : OkEnum S [.loc n] Q = OkT S[n]? fun xs => OkN ⟨enumD xs, some (n, xs)⟩ Q := by
  unfold OkEnum
  simp only
  cases S[n]? with
  | none => rfl
  | some o => cases o <;> rfl
def rowA (S : Sto) (ds : List D) : Option (List D) := match ds with
  | [d] => rowF S d
  | _ => none
theorem rowA_1 {d : D} : rowA S [d] = rowF S d := rfl
theorem w_listL' : OkO (mListL ma E S) Q X = OkO (ma E S) (fun ds S1 => OkP (rowA S1 ds) fun xs => Q (.loc S1.length) (S1 ++ [.lst xs])) X := by
  unfold mListL
  refine w_bind.trans (OkO_fun fun ds S1 => ?_)
  cases ds with
  | nil => rfl
  | cons d r => cases r with
    | nil =>
      rw [rowA_1]
      simp only
      generalize rowF S1 d = o
      cases o <;> rfl
    | cons e r => rfl
theorem p_rowLoc {n : Nat} {Q : List D → Prop} : OkP (rowF S (.loc n)) Q = OkT S[n]? Q := by
  unfold rowF
  simp only [seqF]
  cases S[n]? with
  | none => rfl
  | some o => cases o <;> rfl
theorem w_augI {o i e : ME} {g : Sto → D → D → Option D} : OkS (mAugI o i g e E S) N R XE B C = OkO (o E S) (fun x S1 => OkO (i E S1) (fun k S2 => OkLoc x fun n => OkInt k fun k => OkT S2[n]? fun l => (0 ≤ k ∧ OkP l[k.toNat]? fun old => OkO (e E S2) (fun y S3 => OkP (g S3 old y) fun z => OkT S3[n]? fun l3 => (k.toNat < l3.length ∧ OkN (S3.set n (.lst (l3.set k.toNat z))) fun S4 => N E S4)) (fun e S' => XE e E S'))) (fun e S' => XE e E S')) (fun e S' => XE e E S') := by
  unfold mAugI
  refine w_toS.trans (OkO_fun fun x S1 => w_toS.trans (OkO_fun fun k S2 => ?_))
  cases x <;> first | rfl | skip
  cases k <;> first | rfl | skip
  rename_i n k
  simp only [OkLoc, OkInt]
  cases S2[n]? with
  | none => rfl
  | some ob =>
    cases ob <;> first | rfl | skip
    rename_i l
    simp only [OkT]
    by_cases h0 : 0 ≤ k
    · rw [if_pos h0]
      simp only [h0, true_and]
      cases l[k.toNat]? with
      | none => rfl
      | some old =>
        simp only [OkP]
        refine w_toS.trans (OkO_fun fun y S3 => ?_)
        cases g S3 old y with
        | none => rfl
        | some z =>
          simp only
          cases S3[n]? with
          | none => rfl
          | some ob3 =>
            cases ob3 <;> first | rfl | skip
            rename_i l3
            simp only
            by_cases h1 : k.toNat < l3.length
            · rw [if_pos h1]; simp only [h1, true_and]; rfl
            · rw [if_neg h1]; simp only [h1, false_and]; rfl
    · rw [if_neg h0]; simp only [h0, false_and]; rfl
theorem take_snoc {α : Type} {l : List α} {i : Nat} {x : α} (h : l[i]? = some x) : l.take (i + 1) = l.take i ++ [x] := by
  rw [List.take_succ, h]; rfl
/-- elements that leave the store alone, the list itself will change -/
theorem ok_compP {α : Type} {c : Option (Nat × List D)} {one : Bool} {is : List Nat} {t : MT} {e : ME} {E0 : Evn} {S1 : Sto} {QU : Unit → Sto → Prop} {xs : List α} {g : α → D} (p : α → Bool) (f : α → D) (hz : xs.length < 16777216) (hc : ∀ acc, chkOk c (S1 ++ [.lst acc]))
    (h : ∀ x ∈ xs, ∀ acc, OkP (stN one is (g x) E0) fun E1 => OkO (t E1 (S1 ++ [.lst acc])) (fun b S' => S' = S1 ++ [.lst acc] ∧ b = p x ∧ (b = true → OkO (e E1 (S1 ++ [.lst acc])) (fun y S' => S' = S1 ++ [.lst acc] ∧ y = f x) (fun _ _ => False))) (fun _ _ => False))
    (q : QU () (S1 ++ [.lst ((xs.filter p).map f)])) : OkO (compX c one is t e E0 S1.length (xs.map g) (S1 ++ [.lst []])) QU X := by
  refine ok_compX (fun i S' => S' = S1 ++ [.lst (((xs.take i).filter p).map f)]) _ 0 _ (by simp) (fun i S hS => by rw [hS]; exact hc _) ?_ ?_
  · rintro i x _ hi rfl
    rw [List.getElem?_map, Option.map_eq_some_iff] at hi
    obtain ⟨a, ha, rfl⟩ := hi
    rw [Nat.zero_add]
    generalize hA : ((xs.take i).filter p).map f = acc
    have hl : acc.length < 16777216 := by
      rw [← hA, List.length_map]
      have h1 := List.length_filter_le p (xs.take i)
      have h2 := List.length_take_le i xs
      have h3 := (List.getElem?_eq_some_iff.mp ha).1
      rw [List.length_take] at h1
      omega
    have h1 := h a (List.mem_of_getElem? ha) acc
    cases q1 : stN one is (g a) E0 with
    | none => rw [q1] at h1; exact h1.elim
    | some E1 =>
      rw [q1, w_some] at h1
      rw [w_some]
      cases q2 : t E1 (S1 ++ [.lst acc]) with
      | bad => rw [q2] at h1; exact h1.elim
      | ex _ _ => rw [q2] at h1; exact h1.elim
      | ok b S2 =>
        rw [q2, w_ok] at h1
        rw [w_ok]
        obtain ⟨rfl, hb, h2⟩ := h1
        refine ⟨fun hb2 => ?_, fun hb2 => ?_⟩
        · rw [take_snoc ha, List.filter_append, List.filter_cons_of_neg (by rw [← hb, hb2]; simp), List.filter_nil, List.append_nil, hA]
        · have h3 := h2 hb2
          cases q3 : e E1 (S1 ++ [.lst acc]) with
          | bad => rw [q3] at h3; exact h3.elim
          | ex _ _ => rw [q3] at h3; exact h3.elim
          | ok y S3 =>
            rw [q3, w_ok] at h3
            rw [w_ok]
            obtain ⟨rfl, rfl⟩ := h3
            refine ⟨acc, by rw [sto_at0]; rfl, hl, ?_⟩
            rw [sto_put0, take_snoc ha, List.filter_append, List.filter_cons_of_pos (by rw [← hb, hb2]), List.filter_nil, List.map_append, hA]
            rfl
  · rintro _ rfl
    rw [Nat.zero_add, List.length_map, List.take_length]
    exact q
end
end PD

/-! PyG1: dict comprehensions; sorted keys of a dict of any length. -/
namespace PD
open PySem PySem.Spec PyProof PyProof.Rows L2
/-! ### {k: v for ..}, the dict stands at n0 -/
open Classical in
noncomputable def compV (c : Option (Nat × List D)) (one : Bool) (is : List Nat) (t : MT) (ek ev : ME) (E0 : Evn) (n0 : Nat) : List D → Sto → Out Unit
  | [], S => if chkOk c S then .ok () S else .bad
  | x :: r, S => if chkOk c S then (match stN one is x E0 with
      | some E1 => (match t E1 S with
        | .ok b S1 => if b = true then (match ek E1 S1 with
            | .ok y S2 => (match ev E1 S2 with
              | .ok d S3 => (match S3[n0]?, keyD y with
                | some (.dic kvs), some k => if sizeOk (kvs.length + 1) then compV c one is t ek ev E0 n0 r (S3.set n0 (.dic (putD kvs k d))) else .bad
                | _, _ => .bad)
              | _ => .bad)
            | _ => .bad) else compV c one is t ek ev E0 n0 r S1
        | _ => .bad)
      | none => .bad) else .bad
noncomputable def mDc (it : MI) (one : Bool) (is vs : List Nat) (t : MT) (ek ev : ME) : ME := fun E S => (it E S).bind fun i S1 => (compV i.chk one is t ek ev (wipeE E vs) S1.length i.items (S1 ++ [.dic []])).bind fun _ S2 => .ok (.loc S1.length) S2
section
variable {X : Cx} {W : WW X.K} {pos : Pos}
theorem dc_read {mi : MI} {own : List (Str × Nat)} {one : Bool} {is : List Nat} {mt : MT} {mk mv : ME} (hw : W.fix = none) (hv : ∀ i ∈ is, i ∈ own.map (·.2)) : ∀ σ H Q ρ S E, Rel X.K ρ S H → ER X.K W ρ H E σ → Post X.K (DV X.K) ρ H Q (fun c dx H' => W.w c dx σ H') (mDc mi one is (own.map (·.2)) mt mk mv E S) →
    tDc (tI X.K W mi) (gN1 X.K one is) (tT X.K (W0 X.K) mt) (tE X.K (W0 X.K) mk) (tE X.K (W0 X.K) mv) (own.map (·.2)) σ H Q := by
  intro σ H Q ρ S E r er p
  refine ⟨ρ, S, E, r, er, (Post.bind (R := Walks X.K) p).imp fun J H1 ⟨ρ1, S1, i, r1, e1, w1, p1⟩ => ?_⟩
  intro D hD
  have er1 := (er.mono e1).wipe hw (own.map (·.2))
  have er0 : ER X.K (W0 X.K) ρ1 H1 (wipeE E (own.map (·.2))) (L2.wipe σ (own.map (·.2))) := er1.wish trivial fun i a z => by cases z
  generalize wipeE E (own.map (·.2)) = E0 at p1 er0
  have hD0 : (ρ1 ++ [D])[S1.length]? = some D := by rw [← r1.len, List.getElem?_append_right (Nat.le_refl _), Nat.sub_self]; rfl
  refine ⟨fun n m H2 => m = i.items.length - n ∧ n ≤ i.items.length ∧ ∃ ρ2 S2, Rel X.K ρ2 S2 H2 ∧ Ext X.K ρ1 H1 ρ2 H2 ∧ ρ2[S1.length]? = some D ∧
    Post X.K (DV X.K) ρ1 H1 Q (fun c dx H' => W.w c dx σ H') ((compV i.chk one is mt mk mv E0 S1.length (i.items.drop n) S2).bind fun _ S' => .ok (.loc S1.length) S'),
    ⟨_, rfl, Nat.zero_le _, ρ1 ++ [D], S1 ++ [.dic []], r1.alloc (u := .dic []) hD ⟨[], upd_same, rfl⟩, Ext.alloc hD, hD0, by simpa using p1⟩, ?_⟩
  rintro n m H2 ⟨rfl, hnl, ρ2, S2, r2, e2, hD2, p2⟩
  have hck : chkOk i.chk S2 := Classical.byContradiction fun z => by
    cases q : i.items.drop n with
    | nil => rw [q, compV, if_neg z] at p2; exact p2
    | cons x rr => rw [q, compV, if_neg z] at p2; exact p2
  obtain ⟨w2, w3⟩ := w1 ρ2 S2 H2 r2 e2 hck
  by_cases hlt : n < i.items.length
  · right
    have hd : i.items[n]? = some i.items[n] := List.getElem?_eq_getElem hlt
    obtain ⟨go, yl⟩ := w2 n _ hd
    refine ⟨go, fun H' => n + 1 ≤ i.items.length ∧ ∃ ρ2 S2, Rel X.K ρ2 S2 H' ∧ Ext X.K ρ1 H1 ρ2 H' ∧ ρ2[S1.length]? = some D ∧
      Post X.K (DV X.K) ρ1 H1 Q (fun c dx H' => W.w c dx σ H') ((compV i.chk one is mt mk mv E0 S1.length (i.items.drop (n + 1)) S2).bind fun _ S' => .ok (.loc S1.length) S'),
      fun H' ⟨h1, h2⟩ => ⟨i.items.length - (n + 1), by omega, rfl, h1, h2⟩, fun x H3 hy => ?_⟩
    obtain ⟨r3, e3, d3⟩ := yl x H3 hy
    rw [drop_cons_of hd, compV, if_pos hck] at p2
    cases q : stN one is i.items[n] E0 with
    | none => rw [q] at p2; exact p2.elim
    | some E1 =>
      rw [q] at p2
      simp only at p2
      have er3 : ER X.K (W0 X.K) ρ2 H3 E0 (L2.wipe σ (own.map (·.2))) := er0.mono (e2.trans e3)
      refine stN_ok (S := S1) rfl er3 d3 hv q fun σ2 er4 hw2 => ⟨hw2.trans (wipe_wipe _ fun _ h => h), ?_⟩
      refine ⟨ρ2, S2, E1, r3, er4, ?_⟩
      cases q1 : mt E1 S2 with
      | bad => rw [q1] at p2; exact p2.elim
      | ex e S5 => rw [q1] at p2; exact p2.elim
      | ok b S5 =>
        rw [q1] at p2
        simp only at p2
        intro ρ5 H5 v r5 e5 hv5
        subst hv5
        obtain ⟨t5, h5⟩ := e5.pre
        have hD5 := pre_at h5 hD2
        cases b with
        | false =>
          rw [if_neg (by simp)] at p2 ⊢
          exact ⟨hlt, ρ5, S5, r5, (e2.trans e3).trans e5, hD5, p2⟩
        | true =>
          rw [if_pos rfl] at p2 ⊢
          refine ⟨ρ5, S5, E1, r5, er4.mono e5, ?_⟩
          cases q2 : mk E1 S5 with
          | bad => rw [q2] at p2; exact p2.elim
          | ex e S6 => rw [q2] at p2; exact p2.elim
          | ok y S6 =>
            rw [q2] at p2
            simp only at p2
            intro ρ6 H6 w r6 e6 d6
            obtain ⟨t6, h6⟩ := e6.pre
            have hD6 := pre_at h6 hD5
            refine ⟨ρ6, S6, E1, r6, (er4.mono e5).mono e6, ?_⟩
            cases q3 : mv E1 S6 with
            | bad => rw [q3] at p2; exact p2.elim
            | ex e S7 => rw [q3] at p2; exact p2.elim
            | ok z S7 =>
              rw [q3] at p2
              simp only at p2
              intro ρ7 H7 u r7 e7 d7
              obtain ⟨t7, h7⟩ := e7.pre
              have hD7 := pre_at h7 hD6
              split at p2
              · rename_i kvs k hk1 hk2
                by_cases hs : sizeOk (kvs.length + 1)
                · rw [if_pos hs] at p2
                  obtain ⟨us, g1, g2⟩ : ∃ us : List (Key × V), H7 D = some (.dK us) ∧ KVR X.K ρ7 H7 kvs us := r7.at_ _ _ _ hk1 hD7
                  have ex := Ext.writeD (K := X.K) (o := .dK (putK us k u)) (List.mem_of_getElem? hD7) g1
                  refine ⟨us, k, keyD_V hk2 d6, g1, by rw [← g2.length]; exact hs, hlt, ρ7, _, r7.writeD hD7 hk1 g1 (g2.put d7), ?_, hD7, p2⟩
                  exact ((((e2.trans e3).trans e5).trans e6).trans e7).trans ex
                · rw [if_neg hs] at p2; exact p2.elim
              · exact p2.elim
  · left
    have hn2 : n = i.items.length := by omega
    subst hn2
    rw [List.drop_length, compV, if_pos hck, bind_ok] at p2
    refine ⟨w3, p2 ρ2 H2 (.ref D) r2 e2 ?_⟩
    simp only [DV]
    exact ⟨D, rfl, hD2⟩
theorem ed_dc {ek ev tg iter : Expr} {ifs : List Expr} {scope : Scope} {own : List (Str × Nat)} {mi : MI} {one : Bool} {is : List Nat} {mt : MT} {mk mv : ME} (hc : X.calm = true) (hN : X.N.Nodup) (hi : ID X W tg iter mi) (ok : BlkOk X.N X.env.scope scope own) (hw : W.fix = none)
    (hv : ∀ i ∈ is, i ∈ own.map (·.2))
    (hg : ∀ (s : Shared) (H : Hp) (C : Addr) (cl : List (Str × Addr)) (fp : List Addr), PG (X.blk s H scope (compEnvC scope cl C X.env) fp) tg (gN1 X.K one is))
    (ht : ∀ (s : Shared) (H : Hp) (C : Addr) (cl : List (Str × Addr)) (fp : List Addr), PD' (X.blk s H scope (compEnvC scope cl C X.env) fp) ifs mt)
    (hk : ∀ (s : Shared) (H : Hp) (C : Addr) (cl : List (Str × Addr)) (fp : List Addr), ED (X.blk s H scope (compEnvC scope cl C X.env) fp) (W0 X.K) ek mk)
    (he : ∀ (s : Shared) (H : Hp) (C : Addr) (cl : List (Str × Addr)) (fp : List Addr), ED (X.blk s H scope (compEnvC scope cl C X.env) fp) (W0 X.K) ev mv) (hs : ∀ x, foldedSetIterable iter X.env x = pure x := by intro _; rfl) :
    ED X W (.DictComp ek ev [⟨tg, iter, ifs, 0⟩] scope pos) (mDc mi one is (own.map (·.2)) mt mk mv) :=
  ed_of (pe_dc (tt := tT X.K (W0 X.K) mt) (tk := tE X.K (W0 X.K) mk) (tv := tE X.K (W0 X.K) mv) hc hN hi ok hg ht hk he hs) (dc_read hw hv)
/-! ### sorted keys -/
def keysI : List (Key × D) → Option (List Int)
  | [] => some []
  | (.inl i, _) :: r => (keysI r).map (i :: ·)
  | _ :: _ => none
theorem keysI_ok {K : PySem.W.Frag} {ρ : List Addr} {H : Hp} : ∀ {kvs : List (Key × D)} {us : List (Key × V)} {ns : List Int}, keysI kvs = some ns → KVR K ρ H kvs us → us.map (·.1) = ns.map Sum.inl
  | [], us, ns, h, g => by cases g; simp only [keysI] at h; cases h; rfl
  | (k, d) :: r, us, ns, h, ⟨v, t, e, h1, h2⟩ => by
    subst e
    cases k with
    | inl i =>
      simp only [keysI] at h
      rw [Option.map_eq_some_iff] at h
      obtain ⟨ms, h3, rfl⟩ := h
      simp only [List.map_cons]
      rw [keysI_ok h3 h2]
    | inr x => simp only [keysI] at h; cases h
def rSortedK : List V → Hp → VK → Prop := fun xs H Q => ∃ (a : Addr) (kvs : List (Key × V)) (ks : List Int), xs = [.ref a] ∧ H a = some (.dK kvs) ∧ kvs.map (·.1) = ks.map Sum.inl ∧
    ∀ (ys : List Int) (p : Addr), ys.Perm ks → ys.Pairwise (· ≤ ·) → H p = none → Q (.ref p) (upd H p (.lst (ys.map V.int)))
theorem cr_sortedK (calm : X.calm = true) : CallR X (.builtin "sorted") rSortedK := by
  intro pins s σ H xs us Q I rr h
  obtain ⟨a, kvs, ks, rfl, ha, hks, q⟩ := h
  obtain ⟨u, rfl, rx⟩ := vals1 rr; cases rx
  obtain ⟨zz, lo, vs, rel, dd⟩ := dk_of I.hok ha
  obtain ⟨ep, hat⟩ := dd.dictAt
  have hkv : vs.map (·.1) = ks.map Sum.inl := by rw [← hks, rel.keys]
  have hlv : vs.length = ks.length := by simpa using congrArg List.length hkv
  have hvz : vs.length ≤ sizeLine := by rw [← rel.length]; exact zz
  refine Calls.call_function_entry kind_sorted plain_sorted entry_sorted (args_sorted1 _) ?_; unfold Builtin.«sorted»
  refine wpAny_bind (m := checkCount "sorted" 1 1 _) (wpAny_pure (wpAny_bind (PySem.W.kdu_collect (A := X.A.in1) (PySem.W.kdl_dict (knd := mixKind X.prog X.w) (kvs := vs) (ep := ep) lo) (I.ok.hd calm) hat hvz fun g tk acc hkeep hacc => ?_)))
  have hal : acc.toList.length = ks.length := by rw [Array.length_toList, hacc.1, hlv]
  have hI : IntsAre acc.toList ks := ints_each hal fun j v ej => by
    obtain ⟨k, y, e1, e2⟩ := hacc.2 j v (by rw [← Array.getElem?_toList]; exact ej)
    have e3 : (ks.map (Sum.inl : Int → Key))[j]? = some k := by rw [← hkv, List.getElem?_map, e1]; rfl
    rw [List.getElem?_map, Option.map_eq_some_iff] at e3; obtain ⟨m, e4, rfl⟩ := e3
    rcases keyIs_shape (show keyIs (Sum.inl m) v = true from e2) with ⟨i, t, ek, ev⟩ | ⟨x, t, ek, ev⟩
    · cases ek; exact ⟨m, t, e4, ev⟩
    · cases ek
  have I1 : Inv X pins σ H { s with heap := g, toks := tk } := I.kept hkeep
  have haz : acc.toList.length ≤ sizeLine := by rw [hal, ← hlv]; exact hvz
  refine wpAny_bind (wpAny_newList ?_ haz); have hoL : (g.push (seqObj "list" acc.toList.toArray 0)).get? g.objs.size = some (seqObj "list" acc.toList.toArray 0) := Heap.get?_push_size _ rfl
  show wpAny _ _ _ _ _ { s with heap := g.push (seqObj "list" acc.toList.toArray 0), toks := tk }
  refine wpAny_bind (wpAny_holding (wpAny_call_entry slot_list_sort ⟨_, hoL, rfl⟩ entry_list_sort (SrtO.list_sort_ord (s := { s with heap := g.push (seqObj "list" acc.toList.toArray 0), toks := tk }) SrtO.swo_int hoL haz (fun h2 => SrtO.ints_sortable hI h2) fun out hs hb => ⟨_, rfl, ?_⟩) (args_list_sort _)))
  obtain ⟨k1, k2, k3⟩ := SrtO.ints_out hI hs hb
  obtain ⟨e', he'⟩ := sortedHeap_at (vs := acc.toList) (out := out.toArray) hoL
  have hlen : ((out.map SrtO.iv).map V.int).length ≤ sizeLine := by rw [List.length_map, k2.length_eq, ← hal]; exact haz
  refine wpAny_pure ⟨_, rfl, .ref g.objs.size, upd H g.objs.size (.lst ((out.map SrtO.iv).map V.int)), I1.laid (t' := tk) (fun b u e => ?_) (Nat.le_refl _) (show ObjOk X.prog X.w _ _ _ (.lst ((out.map SrtO.iv).map V.int)) from ⟨hlen, out, e', vals_of_ints k1, he'⟩), rfl, q _ _ k2 k3 (I1.hok.fresh (Nat.le_refl _))⟩
  have hb : b < g.objs.size := Heap.lt_size e
  rw [sortedHeap_old (Nat.ne_of_lt hb) (by rw [size_push']; exact Nat.lt_succ_of_lt hb)]; exact Heap.get?_push_of_some _ e
def gSortedA (S : Sto) (ds : List D) : Option D := match ds with
  | [d] => (match dicAt S d with
    | some kvs => (keysI kvs).map fun ns => .lst (intL (sortI ns))
    | none => gSorted S [d])
  | _ => none
def rSortedA (K : PySem.W.Frag) : List V → Hp → VK → Prop := fun vs H Q => rSortedK vs H Q ∨ rSortedI K vs H Q
theorem rp_sortedA : ∀ vs H Q, rPB X.K gSortedA vs H Q → rSortedA X.K vs H Q := by
  rintro vs H Q ⟨ρ, S, ds, d, r, dv, hg, q⟩
  unfold gSortedA at hg
  split at hg
  · rename_i x
    split at hg
    · rename_i kvs hk
      rw [Option.map_eq_some_iff] at hg
      obtain ⟨ns, hn, rfl⟩ := hg
      obtain ⟨u, rfl, h1⟩ := dvs1 dv
      obtain ⟨n, a, us, rfl, h2, h3, rfl, h4, h5⟩ := dicAt_ok r h1 hk
      refine .inl ⟨a, us, ns, rfl, h4, keysI_ok hn h5, fun ys p hp hpw hf => ?_⟩
      have := sorted_uniq (hp.trans (sortI_perm ns).symm) hpw (sortI_pw ns)
      subst this
      exact post_lst r hf (dvs_ints _) q
    · exact .inr (rp_sorted _ _ _ ⟨ρ, S, _, d, r, dv, hg, q⟩)
  · cases hg
end
section
variable {Q : D → Sto → Prop} {X : Exn → Sto → Prop} {E : Evn} {S : Sto}
theorem w_dc {it : MI} {one : Bool} {is vs : List Nat} {t : MT} {ek ev : ME} : OkO (mDc it one is vs t ek ev E S) Q X = OkO (it E S) (fun i S1 => OkO (compV i.chk one is t ek ev (wipeE E vs) S1.length i.items (S1 ++ [.dic []])) (fun _ S2 => Q (.loc S1.length) S2) X) X := by
  unfold mDc
  refine w_bind.trans (OkO_fun fun i S1 => w_bind.trans (OkO_fun fun _ S2 => rfl))
theorem ok_compV {c : Option (Nat × List D)} {one : Bool} {is : List Nat} {t : MT} {ek ev : ME} {E0 : Evn} {n0 : Nat} {QU : Unit → Sto → Prop} (P : Nat → Sto → Prop) :
    ∀ (l : List D) (n : Nat) (S : Sto), P n S → (∀ i S, P i S → chkOk c S) →
    (∀ i x S, l[i]? = some x → P (n + i) S → OkP (stN one is x E0) fun E1 => OkO (t E1 S) (fun b S1 => (b = false → P (n + i + 1) S1) ∧ (b = true → OkO (ek E1 S1) (fun y S2 => OkO (ev E1 S2) (fun d S3 => ∃ kvs k, S3[n0]? = some (.dic kvs) ∧ keyD y = some k ∧ kvs.length < 16777216 ∧ P (n + i + 1) (S3.set n0 (.dic (putD kvs k d)))) (fun _ _ => False)) (fun _ _ => False))) (fun _ _ => False)) →
    (∀ S, P (n + l.length) S → QU () S) → OkO (compV c one is t ek ev E0 n0 l S) QU X
  | [], n, S, h0, hc, hs, he => by
    rw [compV, if_pos (hc _ _ h0)]
    exact he S (by simpa using h0)
  | x :: l, n, S, h0, hc, hs, he => by
    rw [compV, if_pos (hc _ _ h0)]
    have h1 := hs 0 x S rfl (by simpa using h0)
    cases q : stN one is x E0 with
    | none => rw [q] at h1; exact h1.elim
    | some E1 =>
      rw [q, w_some] at h1
      simp only
      cases q1 : t E1 S with
      | bad => rw [q1] at h1; exact h1.elim
      | ex _ _ => rw [q1] at h1; exact h1.elim
      | ok b S1 =>
        rw [q1, w_ok] at h1
        obtain ⟨h2, h3⟩ := h1
        have again : ∀ S, P (n + 1) S → OkO (compV c one is t ek ev E0 n0 l S) QU X := fun S hS => ok_compV P l (n + 1) S hS hc (fun i y S hy hp => by
          have := hs (i + 1) y S (by simpa using hy) (by rw [show n + (i + 1) = n + 1 + i by omega]; exact hp)
          rw [show n + (i + 1) + 1 = n + 1 + i + 1 by omega] at this
          exact this) (fun S hp => he S (by rw [List.length_cons, show n + (l.length + 1) = n + 1 + l.length by omega]; exact hp))
        simp only
        cases b with
        | false =>
          rw [if_neg (by simp)]
          exact again S1 (h2 rfl)
        | true =>
          rw [if_pos rfl]
          have h4 := h3 rfl
          cases q2 : ek E1 S1 with
          | bad => rw [q2] at h4; exact h4.elim
          | ex _ _ => rw [q2] at h4; exact h4.elim
          | ok y S2 =>
            rw [q2, w_ok] at h4
            simp only
            cases q3 : ev E1 S2 with
            | bad => rw [q3] at h4; exact h4.elim
            | ex _ _ => rw [q3] at h4; exact h4.elim
            | ok d S3 =>
              rw [q3, w_ok] at h4
              obtain ⟨kvs, k, g1, g2, g3, g4⟩ := h4
              simp only [g1, g2]
              rw [if_pos (sizeOk_of (by omega))]
              exact again _ g4
theorem p_sortA {n : Nat} {Q : D → Prop} : OkP (gSortedA S [.loc n]) Q = (match S[n]? with
    | some (.dic kvs) => OkP ((keysI kvs).map fun ns => D.lst (intL (sortI ns))) Q
    | some (.lst xs) => OkP (gSorted S [.lst xs]) Q
    | _ => False) := by
  unfold gSortedA gSorted
  simp only [dicAt, seqF]
  cases S[n]? with
  | none => rfl
  | some o => cases o <;> rfl
theorem g_sortAL {xs : List D} : gSortedA S [.lst xs] = gSorted S [.lst xs] := rfl
theorem p_extL {l ys : List D} {Q : D × List D → Prop} : OkP (gExtend S l [.lst ys]) Q = (sizeOk (l.length + ys.length) ∧ OkN (.non, l ++ ys) Q) := by
  simp only [gExtend, seqL, w_pitebad, w_some, w_n]
end
end PD

/-! PyG2: more weakest preconditions. -/
namespace PD
open PySem PySem.Spec PyProof PyProof.Rows L2
section
variable {Q : D → Prop} {S : Sto}
theorem p_slLoc {n : Nat} {lo hi : Option Int} : OkP (gSl S (.loc n) lo hi) Q = OkT S[n]? fun xs => OkN (.lst (cutL xs lo hi)) Q := by
  show OkP ((seqF S (.loc n)).map _) Q = _
  unfold seqF
  simp only
  cases h : S[n]? with
  | none => rfl
  | some o => cases o <;> rfl
theorem p_addLocL {n : Nat} {ys : List D} : OkP (gAdd S (.loc n) (.lst ys)) Q = OkT S[n]? fun xs => OkP (gAdd S (.lst xs) (.lst ys)) Q := by
  show OkP (match seqL S (.loc n), seqL S (.lst ys) with
    | some a, some b => catL a b
    | _, _ => none) Q = OkT S[n]? fun xs => OkP (match seqL S (.lst xs), seqL S (.lst ys) with
    | some a, some b => catL a b
    | _, _ => none) Q
  unfold seqL
  simp only
  cases h : S[n]? with
  | none => rfl
  | some o => cases o <;> rfl
theorem p_addLLoc {n : Nat} {ys : List D} : OkP (gAdd S (.lst ys) (.loc n)) Q = OkT S[n]? fun xs => OkP (gAdd S (.lst ys) (.lst xs)) Q := by
  show OkP (match seqL S (.lst ys), seqL S (.loc n) with
    | some a, some b => catL a b
    | _, _ => none) Q = OkT S[n]? fun xs => OkP (match seqL S (.lst ys), seqL S (.lst xs) with
    | some a, some b => catL a b
    | _, _ => none) Q
  unfold seqL
  simp only
  cases h : S[n]? with
  | none => rfl
  | some o => cases o <;> rfl
theorem p_addLocs {n m : Nat} : OkP (gAdd S (.loc n) (.loc m)) Q = OkT S[n]? fun xs => OkT S[m]? fun ys => OkP (gAdd S (.lst xs) (.lst ys)) Q := by
  show OkP (match seqL S (.loc n), seqL S (.loc m) with
    | some a, some b => catL a b
    | _, _ => none) Q = OkT S[n]? fun xs => OkT S[m]? fun ys => OkP (match seqL S (.lst xs), seqL S (.lst ys) with
    | some a, some b => catL a b
    | _, _ => none) Q
  unfold seqL
  simp only
  cases h : S[n]? with
  | none => rfl
  | some o =>
    cases o <;> first | rfl | skip
    cases h : S[m]? with
    | none => rfl
    | some o => cases o <;> rfl
end
/-- the locals, some of them untold -/
theorem exE {L : Evn} {f : (Nat → Option D) → Evn} (h : L = f fun i => (L[i]?).getD none) : ∃ u, L = f u := ⟨_, h⟩
end PD

/-! PyG3: classes of the program: fields by places, methods, properties, instances made. -/
namespace PD
open PySem PySem.Spec PyProof PyProof.Rows L2
/-- a class whose instances have the fields N, stored in this order -/
structure ClsF (K : PySem.W.Frag) (c : Str) (N : List Str) : Prop where
  cl : Cls K (He.ga K c)
  no : ∀ f ∈ N, NoAttr K (He.ga K c) f
  nd : N.Nodup
  few : N.length < 1000
theorem zip_lookup : ∀ {N : List Str} {vs : List V} {i : Nat} {f : Str}, N.Nodup → N[i]? = some f → (N.zip vs).lookup f = vs[i]?
  | [], _, _, _, _, h => by simp at h
  | g :: N, [], i, f, _, _ => by simp
  | g :: N, v :: vs, 0, f, hn, h => by
    simp at h
    subst h
    simp [List.lookup]
  | g :: N, v :: vs, i + 1, f, hn, h => by
    rw [List.nodup_cons] at hn
    have h2 : N[i]? = some f := by simpa using h
    have hne : (f == g) = false := by
      rw [beq_eq_false_iff_ne]
      rintro rfl
      exact hn.1 (List.mem_of_getElem? h2)
    simp only [List.zip_cons_cons, List.lookup, hne]
    rw [zip_lookup hn.2 h2]
    simp
theorem zip_none : ∀ {N : List Str} {vs : List V} {f : Str}, f ∉ N → (N.zip vs).lookup f = none
  | [], _, _, _ => by simp
  | g :: N, [], f, _ => by simp
  | g :: N, v :: vs, f, h => by
    have hne : (f == g) = false := by
      rw [beq_eq_false_iff_ne]
      rintro rfl
      exact h (by simp)
    simp only [List.zip_cons_cons, List.lookup, hne]
    exact zip_none fun z => h (by simp [z])
/-- a field set: one that stands, or the next one -/
def setI : Nat → D → List D → Option (List D)
  | 0, y, [] => some [y]
  | 0, y, _ :: r => some (y :: r)
  | _ + 1, _, [] => none
  | i + 1, y, a :: r => (setI i y r).map (a :: ·)
theorem putF_zip {K : PySem.W.Frag} {ρ : List Addr} {H : Hp} {y : D} {u : V} (q : DV K ρ H y u) : ∀ {i : Nat} {N : List Str} {ds es : List D} {vs : List V} {f : Str}, N.Nodup → N[i]? = some f → DVs K ρ H ds vs → setI i y ds = some es →
    ∃ us, putF f u (N.zip vs) = N.zip us ∧ DVs K ρ H es us
  | _, [], _, _, _, _, _, h, _, _ => by simp at h
  | 0, g :: N, [], es, vs, f, hn, h, dv, he => by
    simp at h
    subst h
    simp only [DVs] at dv
    subst dv
    simp [setI] at he
    subst he
    exact ⟨[u], by simp [putF], DVs.one q⟩
  | 0, g :: N, a :: r, es, vs, f, hn, h, dv, he => by
    simp at h
    subst h
    simp only [DVs] at dv
    obtain ⟨v, t, rfl, h1, h2⟩ := dv
    simp [setI] at he
    subst he
    refine ⟨u :: t, by simp [putF], ?_⟩
    simp only [DVs]
    exact ⟨u, t, rfl, q, h2⟩
  | i + 1, g :: N, [], es, vs, f, hn, h, dv, he => by simp [setI] at he
  | i + 1, g :: N, a :: r, es, vs, f, hn, h, dv, he => by
    rw [List.nodup_cons] at hn
    have h2 : N[i]? = some f := by simpa using h
    have hne : ¬ g = f := by
      rintro rfl
      exact hn.1 (List.mem_of_getElem? h2)
    simp only [DVs] at dv
    obtain ⟨v, t, rfl, d1, d2⟩ := dv
    simp only [setI, Option.map_eq_some_iff] at he
    obtain ⟨es', he, rfl⟩ := he
    obtain ⟨us, e1, e2⟩ := putF_zip q hn.2 h2 d2 he
    refine ⟨v :: us, ?_, ?_⟩
    · simp only [List.zip_cons_cons, putF, if_neg hne]
      rw [e1]
    · simp only [DVs]
      exact ⟨v, us, rfl, d1, e2⟩
open Classical in
noncomputable def insOf (o : Option Ob) (c : Str) (N : List Str) : Option (List D) := match o with
  | some (.ins c' N' ds) => if c' = c ∧ N' = N then some ds else none
  | _ => none
theorem insOf_some {o : Option Ob} {c : Str} {N : List Str} {ds : List D} (h : insOf o c N = some ds) : o = some (.ins c N ds) := by
  unfold insOf at h
  split at h
  · split at h
    · rename_i q
      obtain ⟨rfl, rfl⟩ := q
      cases h; rfl
    · cases h
  · cases h
theorem insOf_ins {c : Str} {N : List Str} {ds : List D} : insOf (some (.ins c N ds)) c N = some ds := by unfold insOf; simp
noncomputable def mFld (c : Str) (N : List Str) (i : Nat) (o : ME) : ME := fun E S => (o E S).bind fun x S1 => match x with
  | .loc n => (match insOf S1[n]? c N with
    | some ds => (match ds[i]? with
      | some d => .ok d S1
      | none => .bad)
    | none => .bad)
  | _ => .bad
noncomputable def mPutF (c : Str) (N : List Str) (i : Nat) (o v : ME) : MS := fun E S => (v E S).toS E fun y S1 => (o E S1).toS E fun x S2 => match x with
  | .loc n => (match insOf S2[n]? c N with
    | some ds => (match setI i y ds with
      | some es => .nx E (S2.set n (.ins c N es))
      | none => .bad)
    | none => .bad)
  | _ => .bad
noncomputable def mAugF (c : Str) (N : List Str) (i : Nat) (g : Sto → D → D → Option D) (o v : ME) : MS := fun E S => (o E S).toS E fun x S1 => match x with
  | .loc n => (match insOf S1[n]? c N with
    | some ds => (match ds[i]? with
      | some old => (v E S1).toS E fun y S2 => (match g S2 old y with
        | some z => (match insOf S2[n]? c N with
          | some ds2 => (match setI i z ds2 with
            | some es => .nx E (S2.set n (.ins c N es))
            | none => .bad)
          | none => .bad)
        | none => .bad)
      | none => .bad)
    | none => .bad)
  | _ => .bad
noncomputable def mMeth (c : Str) (N : List Str) (f : MF) (o : ME) (a : MA) : ME := fun E S => (o E S).bind fun x S1 => match x with
  | .loc n => (match insOf S1[n]? c N with
    | some _ => (a E S1).bind fun ds S2 => f (.loc n :: ds) S2
    | none => .bad)
  | _ => .bad
noncomputable def mProp (c : Str) (N : List Str) (f : MF) (o : ME) : ME := fun E S => (o E S).bind fun x S1 => match x with
  | .loc n => (match insOf S1[n]? c N with
    | some _ => (match f [.loc n] S1 with
      | .ok d S2 => .ok d S2
      | _ => .bad)
    | none => .bad)
  | _ => .bad
def mMake (c : Str) (N : List Str) (f : MF) (a : MA) : ME := fun E S => (a E S).bind fun ds S1 => match f (.loc S1.length :: ds) (S1 ++ [.ins c N []]) with
  | .ok .non S2 => .ok (.loc S1.length) S2
  | .ok _ _ => .bad
  | .ex e S2 => .ex e S2
  | .bad => .bad
/-- a def found by R: a method, an __init__, a property's getter -/
structure CallG (R : Addr → Prop) (P : Program) (w : World) (K : PySem.W.Frag) (mg : Str → Option Value) (base : Heap) (k : Nat) (n : Nat) (m : MF) : Prop where
  ex : ∃ f fd ps, FnOk P w K mg base (L2.CX P w) k f fd ps (spM K n m) ∧ R f ∧ Binds K fd ps []
structure FG (R : Addr → Prop) (K : PySem.W.Frag) (x qual : Str) (params : Arguments) (body : List Stmt) (scope : Scope) (ps : List Str) : Prop where
  ex : ∃ f fd, FunD K x qual params body scope [] [] f fd ∧ R f ∧ Binds K fd ps []
section
variable {R : Addr → Prop} {P : Program} {w : World} {K : PySem.W.Frag} {mg : Str → Option Value} {base : Heap} {x qual : Str} {params : Arguments} {body : List Stmt} {scope : Scope}
theorem callG_zero {ps : List Str} {n : Nat} (F : FG R K x qual params body scope ps) : CallG R P w K mg base 0 n (fun _ _ => .bad) := by
  obtain ⟨f, fd, F, hm, b⟩ := F.ex
  have no : ∀ vs H Q E, ¬ spM K n (fun _ _ => .bad) vs H Q E := fun vs H Q E h => by
    obtain ⟨ρ, S, ds, r, dv, hl, p⟩ := h
    exact p
  exact ⟨f, fd, ps, ⟨fun vs H Q E h => absurd h (no vs H Q E), fun A outer s H args us vs Q E _ _ _ _ h => absurd h (no vs H Q E)⟩, hm, b⟩
theorem callG_succ {k n : Nat} {N ps : List Str} {b : MS} (F : FG R K x qual params body scope ps) (Sc : FnScope N ps scope) (hn : ps.length = n)
    (hb : ∀ (f : Addr) (cdv : Value) (A : Around) (outer : List Env) (s : Shared) (H : Hp) (E : XK), Room k (A.deeper (envOfC qual scope s.heap.objs.size f cdv)) → BD (cxOf (L2.CX P w) P w K mg base N qual scope f cdv A outer s H E) (WW.of (K := K) fun c d _ H => E c d H) body b) :
    CallG R P w K mg base (k + 1) n (runB N.length b) := by
  obtain ⟨f, fd, F, hm, bd⟩ := F.ex
  exact ⟨f, fd, ps, fn_run F Sc hn (hb f), hm, bd⟩
theorem callG_trim {k n : Nat} {m : MF} (c : CallG R P w K mg base k n m) : CallG R P w K mg base k n (fun ds S => trim S (m ds S)) := by
  obtain ⟨f, fd, ps, F, h1, h3⟩ := c.ex
  have i : ∀ vs H Q E, spM K n (fun ds S => trim S (m ds S)) vs H Q E → spM K n m vs H Q E := fun vs H Q E ⟨ρ, S, ds, r, dv, hl, p⟩ => ⟨ρ, S, ds, r, dv, hl, Post.trim r p⟩
  exact ⟨f, fd, ps, F.imp i, h1, h3⟩
end
def lv : Nat → Nat
  | 0 => 2
  | k + 1 => lv k + 2
/-! ### the store -/
theorem Ext.writeI {K : PySem.W.Frag} {ρ : List Addr} {H : Hp} {a C dx : Addr} {fs : List (Str × V)} {o : HO} (ha : a ∈ ρ) (h : H a = some (.ins C dx fs)) : Ext K ρ H ρ (upd H a o) := by
  refine ⟨⟨[], by simp⟩, fun b ws hb => ?_, fun b ws hb hw => ⟨hb, ?_⟩, fun b o ws hb => ?_, fun b fs hb => ?_⟩
  · refine hb.imp (fun hb => Rd.upd (fun z => ?_) hb) id
    subst z
    rcases hb with hb | ⟨o, hb⟩ <;> rw [h] at hb <;> cases hb
  · rw [upd_ne (fun z => by subst z; exact hb ha)]; exact hw
  · rw [upd_ne (fun z => by subst z; rw [h] at hb; cases hb)]; exact hb
  · rw [upd_ne (fun z => by subst z; rw [h] at hb; cases hb)]; exact hb
theorem Rel.writeI {K : PySem.W.Frag} {ρ : List Addr} {S : Sto} {H : Hp} (r : Rel K ρ S H) {n : Nat} {a C dx : Addr} {c : Str} {N : List Str} {fs : List (Str × V)} {es : List D} {us : List V} (ha : ρ[n]? = some a) (h : H a = some (.ins C dx fs)) (hC : C = He.ga K c) (d : DVs K ρ H es us) :
    Rel K ρ (S.set n (.ins c N es)) (upd H a (.ins C dx (N.zip us))) := by
  subst hC
  have e := Ext.writeI (K := K) (o := .ins (He.ga K c) dx (N.zip us)) (List.mem_of_getElem? ha) h
  refine ⟨by simpa using r.len, r.nd, fun m o b h1 h2 => ?_⟩
  by_cases hm : n = m
  · subst hm
    rw [ha] at h2; cases h2
    by_cases hl : n < S.length
    · rw [List.getElem?_set_self hl] at h1
      cases h1
      exact ⟨dx, us, upd_same, DVs.mono e _ _ d⟩
    · rw [List.getElem?_eq_none (by simpa using hl)] at h1; cases h1
  · rw [List.getElem?_set_ne hm] at h1
    have hb : b ≠ a := fun z => by subst z; exact hm (nodup_at r.nd ha h2)
    exact (r.at_ m o b h1 h2).mono e fun u hu => by rw [upd_ne hb]; exact hu
section
variable {X : Cx} {W : WW X.K} {pos : Pos} {c f m : Str} {N : List Str} {i k : Nat} {o e : Expr} {mo : ME} {es : List Expr} {ma : MA} {mf : MF}
theorem ins_read {K : PySem.W.Frag} {ρ : List Addr} {S : Sto} {H : Hp} (r : Rel K ρ S H) {n : Nat} {v : V} {ds : List D} (dv : DV K ρ H (.loc n) v) (h : insOf S[n]? c N = some ds) : ∃ a dx vs, v = .ref a ∧ ρ[n]? = some a ∧ H a = some (.ins (He.ga K c) dx (N.zip vs)) ∧ DVs K ρ H ds vs := by
  simp only [DV] at dv
  obtain ⟨a, rfl, ha⟩ := dv
  obtain ⟨dx, vs, h1, h2⟩ := r.at_ n _ a (insOf_some h) ha
  exact ⟨a, dx, vs, rfl, ha, h1, h2⟩
theorem tE_imp {K : PySem.W.Frag} {W : WW K} {m : ME} {σ : L2.St} {H : Hp} {Q Q' : VK} (h : tE K W m σ H Q) (i : ∀ v H', Q v H' → Q' v H') : tE K W m σ H Q' := by
  obtain ⟨ρ, S, E, r, er, p⟩ := h
  exact ⟨ρ, S, E, r, er, p.imp i⟩
theorem ed_fld (T : ClsF X.K c N) (hi : N[i]? = some f) (ho : ED X W o mo) (hb : attributeBase o f X.env (eval o X.env) = eval o X.env := by rfl) : ED X W (.Attribute o f pos) (mFld c N i mo) := by
  refine ed_of (pe_fld ho hb) fun σ H Q ρ S E r er p => ?_
  refine ⟨ρ, S, E, r, er, (Post.bind (R := DV X.K) p).imp fun x H1 ⟨ρ1, S1, d, r1, e1, d1, p1⟩ => ?_⟩
  cases d with
  | loc n =>
    simp only at p1
    cases q : insOf S1[n]? c N with
    | none => rw [q] at p1; exact p1.elim
    | some ds =>
      rw [q] at p1
      obtain ⟨a, dx, vs, rfl, _, h2, h3⟩ := ins_read r1 d1 q
      simp only at p1
      cases q2 : ds[i]? with
      | none => rw [q2] at p1; exact p1.elim
      | some d2 =>
        rw [q2] at p1
        obtain ⟨v, hv, dv⟩ := h3.get q2
        exact ⟨a, _, dx, _, v, rfl, h2, T.cl, T.no f (List.mem_of_getElem? hi), by rw [zip_lookup T.nd hi]; exact hv, p1 ρ1 H1 v r1 Ext.refl dv⟩
  | _ => exact p1.elim
theorem sd_fld {value : Expr} {mv : ME} {pos' : Pos} (T : ClsF X.K c N) (hi : N[i]? = some f) (ho : ED X W o mo) (hv : ED X W value mv) (hs : swapsWith value (some (.Attribute o f pos')) pos.line X.env = pure false := by rfl) : SD X W (.Assign [.Attribute o f pos'] value pos) (mPutF c N i mo mv) := by
  refine sd_of (ps_fld ho hv hs) fun D σ H ρ S E r er p => ?_
  refine ⟨ρ, S, E, r, er, (SPost.bind (R := DV X.K) er p).imp fun y H1 ⟨ρ1, S1, dy, r1, e1, d1, p1⟩ => ?_⟩
  refine ⟨ρ1, S1, E, r1, er.mono e1, (SPost.bind (R := DV X.K) (er.mono e1) p1).imp fun x H2 ⟨ρ2, S2, d, r2, e2, d2, p2⟩ => ?_⟩
  cases d with
  | loc n =>
    simp only at p2
    cases q : insOf S2[n]? c N with
    | none => rw [q] at p2; exact p2.elim
    | some ds =>
      rw [q] at p2
      simp only at p2
      obtain ⟨a, dx, vs, rfl, ha, h2, h3⟩ := ins_read r2 d2 q
      cases q2 : setI i dy ds with
      | none => rw [q2] at p2; exact p2.elim
      | some es =>
        rw [q2] at p2
        obtain ⟨us, z1, z2⟩ := putF_zip (DV.mono e2 _ _ d1) T.nd hi h3 q2
        have hex := Ext.writeI (K := X.K) (o := .ins (He.ga X.K c) dx (N.zip us)) (List.mem_of_getElem? ha) h2
        refine ⟨a, _, dx, _, rfl, h2, T.cl, T.no f (List.mem_of_getElem? hi), ?_, ?_⟩
        · have := T.few
          rw [List.length_zip]; omega
        · rw [z1]
          exact p2 ρ2 _ σ (r2.writeI ha h2 rfl z2) hex (((er.mono e1).mono e2).mono hex)
  | _ => exact p2.elim
theorem sd_fldaug {value : Expr} {mv : ME} {tpos : Pos} {op : Operator} {r : R2} {g : Sto → D → D → Option D} (T : ClsF X.K c N) (hi : N[i]? = some f) (ho : ED X W o mo) (hv : ED X W value mv) (hop : InOp X op r) (hr : ∀ x y H Q, rP X.K g x y H Q → r x y H Q) : SD X W (.AugAssign (.Attribute o f tpos) op value pos) (mAugF c N i g mo mv) := by
  refine sd_of (ps_fldaug ho hv hop) fun D σ H ρ S E r0 er p => ?_
  refine ⟨ρ, S, E, r0, er, (SPost.bind (R := DV X.K) er p).imp fun x H1 ⟨ρ1, S1, d, r1, e1, d1, p1⟩ => ?_⟩
  cases d with
  | loc n =>
    simp only at p1
    cases q : insOf S1[n]? c N with
    | none => rw [q] at p1; exact p1.elim
    | some ds =>
      rw [q] at p1
      simp only at p1
      obtain ⟨a, dx, vs, rfl, ha, h2, h3⟩ := ins_read r1 d1 q
      cases q2 : ds[i]? with
      | none => rw [q2] at p1; exact p1.elim
      | some old =>
        rw [q2] at p1
        obtain ⟨v, hv2, dv⟩ := h3.get q2
        refine ⟨a, _, dx, _, v, rfl, h2, T.cl, T.no f (List.mem_of_getElem? hi), by rw [zip_lookup T.nd hi]; exact hv2, ?_⟩
        refine ⟨ρ1, S1, E, r1, er.mono e1, (SPost.bind (R := DV X.K) (er.mono e1) p1).imp fun y H2 ⟨ρ2, S2, dy, r2, e2, d2, p2⟩ => ?_⟩
        cases q3 : g S2 old dy with
        | none => rw [q3] at p2; exact p2.elim
        | some z =>
          rw [q3] at p2
          simp only at p2
          cases q4 : insOf S2[n]? c N with
          | none => rw [q4] at p2; exact p2.elim
          | some ds2 =>
            rw [q4] at p2
            simp only at p2
            cases q5 : setI i z ds2 with
            | none => rw [q5] at p2; exact p2.elim
            | some es =>
              rw [q5] at p2
              refine hr _ _ _ _ ⟨ρ2, S2, old, dy, z, r2, DV.mono e2 _ _ dv, d2, q3, fun ρ3 H3 w r3 e3 d3 => ?_⟩
              have d4 : DV X.K ρ3 H3 (.loc n) (.ref a) := DV.mono e3 _ _ (DV.mono e2 _ _ d1)
              obtain ⟨a2, dx2, vs2, ea, ha2, h4, h5⟩ := ins_read r3 d4 q4
              cases ea
              obtain ⟨us, z1, z2⟩ := putF_zip d3 T.nd hi h5 q5
              have hex := Ext.writeI (K := X.K) (o := .ins (He.ga X.K c) dx2 (N.zip us)) (List.mem_of_getElem? ha2) h4
              refine ⟨dx2, _, h4, ?_, ?_⟩
              · have := T.few
                rw [List.length_zip]; omega
              · rw [z1]
                exact p2 ρ3 _ σ (r3.writeI ha2 h4 rfl z2) (e3.trans hex) ((((er.mono e1).mono e2).mono e3).mono hex)
  | _ => exact p1.elim
/-! calls of methods, where errors are wished for at the slots -/
section
variable {CX : CXT} {C f' : Addr} {fd : FuncData} {ps : List Str} {sp : Sp} {dvs : List V} {ds : List Value} {E : L2.St → XK} {ta : TE} {t : TA} {apos p : Pos} {x : Str}
def tMethSD (C : Addr) (m : Str) (sp : Sp) (dvs : List V) (E : L2.St → XK) (ta : TE) (t : TA) : TE := fun σ H Q => ta σ H fun x H1 => ∃ a dx fs, x = .ref a ∧ H1 a = some (.ins C dx fs) ∧ fs.lookup m = none ∧
  t σ H1 fun vs H2 => sp (x :: (vs ++ dvs)) H2 Q (E σ)
theorem pe_methSD {pl : Sem Bool} (he : PE X o ta) (c : Cls X.K C) (hm : Meth X.K C m f') (F : FnOk X.prog X.w X.K X.mg X.base CX k f' fd ps sp) (hr : Room k X.A) (hb : Binds X.K fd ps ds) (hd : Vals dvs ds) (hx : ∀ σ, PassesAt CX X σ (E σ)) (ha : PA X (e :: es) t)
    (hst : starEach (e :: es) X.env = (false, eval e X.env) :: starEach es X.env := by rfl) (hpl : (backTo pos (starEach es X.env)).any (·.1) = false := by rfl)
    (ht : eval (.Call (.Attribute o m apos) (e :: es) [] pos) X.env = (do
      let ov ← eval o X.env
      standAt apos.atName
      let (f, first) ← holding [ov] (getMethod ov m pl)
      callWith pos f first (backTo pos (starEach (e :: es) X.env)) (backToKw pos (keywordEach [] X.env))) := by rfl) :
    PE X (.Call (.Attribute o m apos) (e :: es) [] pos) (tMethSD C m sp dvs E ta t) := by
  refine ⟨fun pins s σ H Q I h => ?_⟩
  refine PySem.W.methodCall_KW (pl := pl) (thn (he.run pins s σ H _ I h) fun u s1 ⟨x, H1, I1, rx, a, dx, fs, ex, ea, l, q⟩ => ?_) ht
  subst ex
  obtain rfl : u = Value.ref a := rx
  refine getmeth_ok I1 ea c hm l ?_
  refine PySem.W.callWith_K (first := [.ref a]) (h₀ := X.base) I.ok.mod.kin hm.kp (thn (ha.run pos pins s1 σ H1 _ I1 q) fun us s2 ⟨vs, H2, I2, r, q2⟩ => ⟨I2.kIn, ?_⟩) hst hpl
  exact run_fnSD (us := .ref a :: us) (vs := .ref a :: vs) F hr hb hd (hx σ) I2 (.cons rfl r) q2
theorem pe_methSD0 {pl : Sem Bool} (he : PE X o ta) (c : Cls X.K C) (hm : Meth X.K C m f') (F : FnOk X.prog X.w X.K X.mg X.base CX k f' fd ps sp) (hr : Room k X.A) (hb : Binds X.K fd ps ds) (hd : Vals dvs ds) (hx : ∀ σ, PassesAt CX X σ (E σ))
    (ht : eval (.Call (.Attribute o m apos) [] [] pos) X.env = (do
      let ov ← eval o X.env
      standAt apos.atName
      let (f, first) ← holding [ov] (getMethod ov m pl)
      callWith pos f first (backTo pos (starEach [] X.env)) (backToKw pos (keywordEach [] X.env))) := by rfl) :
    PE X (.Call (.Attribute o m apos) [] [] pos) (tMethSD C m sp dvs E ta tNil) := by
  refine ⟨fun pins s σ H Q I h => ?_⟩
  refine PySem.W.methodCall_KW (pl := pl) (thn (he.run pins s σ H _ I h) fun u s1 ⟨x, H1, I1, rx, a, dx, fs, ex, ea, l, q⟩ => ?_) ht
  subst ex
  obtain rfl : u = Value.ref a := rx
  refine getmeth_ok I1 ea c hm l ?_
  exact PySem.W.callWith_K0 (first := [.ref a]) I1.kIn hm.kp (run_fnSD (us := [.ref a]) (vs := [.ref a]) F hr hb hd (hx σ) I1 (.cons rfl .nil) q)
theorem run_makeSD {pins : List (Addr × Obj)} {σ : L2.St} {H : Hp} {s : Shared} {Q : VK} {us : List Value} {vs : List V} (M : Mk X.K C f') (F : FnOk X.prog X.w X.K X.mg X.base CX k f' fd ps sp) (hr : Room (k + 1) X.A) (hb : Binds X.K fd ps ds) (hd : Vals dvs ds)
    (hx : PassesAt CX X σ (E σ)) (I : Inv X pins σ H s) (r : Vals vs us)
    (h : ∀ x dx, H x = none → H dx = none → dx ≠ x → sp (.ref x :: (vs ++ dvs)) (upd (upd H dx (.own x)) x (.ins C dx [])) (fun v H2 => v = .non ∧ Q (.ref x) H2) (E σ)) :
    wpAny (model X.prog X.w) X.A (call (.ref C) us) (EP X pins σ Q) X.xe s := by
  have hq := h (s.heap.objs.size + 1) s.heap.objs.size (I.hok.fresh (Nat.le_succ _)) (I.hok.fresh (Nat.le_refl _)) (Nat.ne_of_lt (Nat.lt_succ_self _))
  have I2 := Inv.made (C := C) I
  have r2 : Vals (V.ref (s.heap.objs.size + 1) :: (vs ++ dvs)) (Value.ref (s.heap.objs.size + 1) :: (us ++ ds)) := .cons rfl (r.append hd)
  have hl : (Value.ref (s.heap.objs.size + 1) :: us ++ ds).length = ps.length := by
    have e := r2.length
    rw [F.len _ _ _ _ hq] at e
    exact e.symm
  refine wpAny_call (make_map (f := f') I.kIn M.makes M.init (beq_iff_eq.mp M.fn) (codeAny_mono (F.run _ X.stack _ _ ⟨Value.ref (s.heap.objs.size + 1) :: us, []⟩ (Value.ref (s.heap.objs.size + 1) :: (us ++ ds)) _ _ (E σ) (hr.make C us [])
    (I2.env0.make C us []) (hb _ (Value.ref (s.heap.objs.size + 1) :: us) I2.kIn hl) r2 hq) fun r s' hq' => ?_))
  cases r with
  | error e => exact hx pins _ _ e s' I2 hq'
  | ok fl =>
    cases fl with
    | ret u =>
      obtain ⟨v, H', I3, rv, ev, q3⟩ := I2.after hq'
      subst ev
      exact ⟨rv, ⟨V.ref (s.heap.objs.size + 1), H', I3, rfl, q3⟩⟩
    | next => exact False.elim hq'
    | brk => exact False.elim hq'
    | cont => exact False.elim hq'
def tMakeSD (C : Addr) (sp : Sp) (dvs : List V) (E : L2.St → XK) (t : TA) : TE := fun σ H Q => t σ H fun vs H1 => ∀ x dx, H1 x = none → H1 dx = none → dx ≠ x →
  sp (.ref x :: (vs ++ dvs)) (upd (upd H1 dx (.own x)) x (.ins C dx [])) (fun v H2 => v = .non ∧ Q (.ref x) H2) (E σ)
theorem pe_makeSD (M : Mk X.K C f') (F : FnOk X.prog X.w X.K X.mg X.base CX k f' fd ps sp) (hr : Room (k + 1) X.A) (hg : Gl X x) (hm : X.mg x = some (.ref C)) (hb : Binds X.K fd ps ds) (hd : Vals dvs ds) (hx : ∀ σ, PassesAt CX X σ (E σ))
    (ha : PA X (e :: es) t) (hdb : (x == ("__debug__" : Str)) = false := by decide) (he : starEach (e :: es) X.env = (false, eval e X.env) :: starEach es X.env := by rfl) (hpl : (backTo pos (starEach es X.env)).any (·.1) = false := by rfl) :
    PE X (.Call (.Name x p) (e :: es) [] pos) (tMakeSD C sp dvs E t) := by
  refine ⟨fun pins s σ H Q I h => ?_⟩
  refine wpAny_Call_Name_kw (ld_glob I hg hm ?_ hdb)
  refine PySem.W.callWith_K (h₀ := X.base) I.ok.mod.kin M.kp (thn (ha.run pos pins s σ H _ I h) fun us s1 ⟨vs, H1, I1, r, q⟩ => ⟨I1.kIn, ?_⟩) he hpl
  exact run_makeSD M F hr hb hd (hx σ) I1 r q
theorem pe_makeSD0 (M : Mk X.K C f') (F : FnOk X.prog X.w X.K X.mg X.base CX k f' fd ps sp) (hr : Room (k + 1) X.A) (hg : Gl X x) (hm : X.mg x = some (.ref C)) (hb : Binds X.K fd ps ds) (hd : Vals dvs ds) (hx : ∀ σ, PassesAt CX X σ (E σ))
    (hdb : (x == ("__debug__" : Str)) = false := by decide) : PE X (.Call (.Name x p) [] [] pos) (tMakeSD C sp dvs E tNil) := by
  refine ⟨fun pins s σ H Q I h => ?_⟩
  refine wpAny_Call_Name_kw (ld_glob I hg hm ?_ hdb)
  exact PySem.W.callWith_K0 I.kIn M.kp (run_makeSD (us := []) M F hr hb hd (hx σ) I .nil h)
end
theorem meth_read {n : Nat} {sp : Unit} (hm : m ∉ N) : ∀ σ H Q ρ S E, Rel X.K ρ S H → ER X.K W ρ H E σ → (∀ E S ds S', ma E S = .ok ds S' → ds.length = n) → Post X.K (DV X.K) ρ H Q (fun c dx H' => W.w c dx σ H') (mMeth c N mf mo ma E S) →
    tMethSD (He.ga X.K c) m (spM X.K (n + 1) mf) [] (fun σ c dx H => W.w c dx σ H) (tE X.K W mo) (tA X.K W ma) σ H Q := by
  intro σ H Q ρ S E r er hl p
  refine ⟨ρ, S, E, r, er, (Post.bind (R := DV X.K) p).imp fun x H1 ⟨ρ1, S1, d, r1, e1, d1, p1⟩ => ?_⟩
  cases d with
  | loc nn =>
    simp only at p1
    cases q : insOf S1[nn]? c N with
    | none => rw [q] at p1; exact p1.elim
    | some ds =>
      rw [q] at p1
      simp only at p1
      obtain ⟨a, dx, vs, rfl, _, h2, h3⟩ := ins_read r1 d1 q
      refine ⟨a, dx, _, rfl, h2, zip_none hm, ρ1, S1, E, r1, er.mono e1, ?_⟩
      cases q2 : ma E S1 with
      | bad => rw [q2] at p1; exact p1.elim
      | ex e S' => rw [q2] at p1; exact p1
      | ok ds2 S' =>
        rw [q2] at p1
        have hn := hl E S1 ds2 S' q2
        intro ρ2 H2 us r2 e2 d2
        rw [List.append_nil]
        refine ⟨ρ2, S', .loc nn :: ds2, r2, ?_, by simp [hn], p1.start e2⟩
        simp only [DVs]
        exact ⟨_, _, rfl, DV.mono e2 _ _ d1, d2⟩
  | _ => exact p1.elim
theorem ed_meth {n : Nat} {apos : Pos} (T : ClsF X.K c N) (cm : CallG (Meth X.K (He.ga X.K c) m) X.prog X.w X.K X.mg X.base k (n + 1) mf) (hr : Room k X.A) (tk : Takes X W.w) (ho : ED X W o mo) (ha : AD X W (e :: es) ma) (hm : m ∉ N)
    (hl : ∀ E S ds S', ma E S = .ok ds S' → ds.length = n) (hst : starEach (e :: es) X.env = (false, eval e X.env) :: starEach es X.env := by rfl) (hpl : (backTo pos (starEach es X.env)).any (·.1) = false := by rfl) {pl : Sem Bool}
    (ht : eval (.Call (.Attribute o m apos) (e :: es) [] pos) X.env = (do
      let ov ← eval o X.env
      standAt apos.atName
      let (f, first) ← holding [ov] (getMethod ov m pl)
      callWith pos f first (backTo pos (starEach (e :: es) X.env)) (backToKw pos (keywordEach [] X.env))) := by rfl) :
    ED X W (.Call (.Attribute o m apos) (e :: es) [] pos) (mMeth c N mf mo ma) := by
  obtain ⟨f', fd, ps, F, hM, hb⟩ := cm.ex
  exact ed_of (pe_methSD (pl := pl) (E := fun σ c dx H => W.w c dx σ H) ho T.cl hM F hr hb .nil (fun σ => passAt tk σ) ha hst hpl ht) fun σ H Q ρ S E r er p => meth_read (sp := ()) hm σ H Q ρ S E r er hl p
theorem ed_meth0 {apos : Pos} (T : ClsF X.K c N) (cm : CallG (Meth X.K (He.ga X.K c) m) X.prog X.w X.K X.mg X.base k 1 mf) (hr : Room k X.A) (tk : Takes X W.w) (ho : ED X W o mo) (hm : m ∉ N) {pl : Sem Bool}
    (ht : eval (.Call (.Attribute o m apos) [] [] pos) X.env = (do
      let ov ← eval o X.env
      standAt apos.atName
      let (f, first) ← holding [ov] (getMethod ov m pl)
      callWith pos f first (backTo pos (starEach [] X.env)) (backToKw pos (keywordEach [] X.env))) := by rfl) :
    ED X W (.Call (.Attribute o m apos) [] [] pos) (mMeth c N mf mo mNil) := by
  obtain ⟨f', fd, ps, F, hM, hb⟩ := cm.ex
  refine ed_of (pe_methSD0 (pl := pl) (E := fun σ c dx H => W.w c dx σ H) ho T.cl hM F hr hb .nil (fun σ => passAt tk σ) ht) fun σ H Q ρ S E r er p => ?_
  have h := meth_read (X := X) (W := W) (mf := mf) (ma := mNil) (n := 0) (sp := ()) hm σ H Q ρ S E r er len_nil p
  refine tE_imp h fun x H1 ⟨a, dx, fs, ex, ea, l, z⟩ => ⟨a, dx, fs, ex, ea, l, ?_⟩
  obtain ⟨ρ1, S1, E1, r1, er1, z⟩ := z
  exact z ρ1 H1 [] r1 Ext.refl (by simp [DVs])
theorem ed_make {n : Nat} {p : Pos} (M : CallG (Mk X.K (He.ga X.K c)) X.prog X.w X.K X.mg X.base k (n + 1) mf) (hr : Room (k + 1) X.A) (tk : Takes X W.w) (hg : Gl X c) (hm : X.mg c = some (.ref (He.ga X.K c))) (ha : AD X W (e :: es) ma)
    (hl : ∀ E S ds S', ma E S = .ok ds S' → ds.length = n) (hdb : (c == ("__debug__" : Str)) = false := by decide) (he : starEach (e :: es) X.env = (false, eval e X.env) :: starEach es X.env := by rfl) (hpl : (backTo pos (starEach es X.env)).any (·.1) = false := by rfl) :
    ED X W (.Call (.Name c p) (e :: es) [] pos) (mMake c N mf ma) := by
  obtain ⟨f', fd, ps, F, hM, hb⟩ := M.ex
  refine ed_of (pe_makeSD (E := fun σ c dx H => W.w c dx σ H) hM F hr hg hm hb .nil (fun σ => passAt tk σ) ha hdb he hpl) fun σ H Q ρ S E r er p => ?_
  refine ⟨ρ, S, E, r, er, ?_⟩
  unfold mMake at p
  cases q : ma E S with
  | bad => rw [q] at p; exact p.elim
  | ex e S' => rw [q] at p; exact p
  | ok ds S1 =>
    rw [q, bind_ok] at p
    have hn := hl E S ds S1 q
    intro ρ1 H1 us r1 e1 d1 x dx hx hdx hne
    rw [List.append_nil]
    have r2 : Rel X.K ρ1 S1 (upd H1 dx (.own x)) := r1.new hdx
    have x2 : Ext X.K ρ1 H1 ρ1 (upd H1 dx (.own x)) := Ext.new hdx
    have hx2 : (upd H1 dx (.own x)) x = none := by rw [upd_ne (Ne.symm hne)]; exact hx
    have x3 := Ext.alloc (K := X.K) (ρ := ρ1) (o := .ins (He.ga X.K c) dx []) hx2
    have r3 : Rel X.K (ρ1 ++ [x]) (S1 ++ [.ins c N []]) (upd (upd H1 dx (.own x)) x (.ins (He.ga X.K c) dx [])) := r2.alloc hx2 ⟨dx, [], by rw [List.zip_nil_right]; exact upd_same, by simp [DVs]⟩
    have d3 : DV X.K (ρ1 ++ [x]) (upd (upd H1 dx (.own x)) x (.ins (He.ga X.K c) dx [])) (.loc S1.length) (.ref x) := dv_loc r2
    refine ⟨ρ1 ++ [x], S1 ++ [.ins c N []], .loc S1.length :: ds, r3, ?_, by simp [hn], ?_⟩
    · simp only [DVs]
      exact ⟨_, _, rfl, d3, DVs.mono (x2.trans x3) _ _ d1⟩
    · cases q2 : mf (.loc S1.length :: ds) (S1 ++ [.ins c N []]) with
      | bad => rw [q2] at p; exact p.elim
      | ex e S2 =>
        rw [q2] at p
        intro ρ4 H4 cc dd r4 e4 xr
        exact p ρ4 H4 cc dd r4 (e1.trans ((x2.trans x3).trans e4)) xr
      | ok d S2 =>
        rw [q2] at p
        cases d with
        | non =>
          intro ρ4 H4 v r4 e4 dv
          refine ⟨dv_non.mp dv, ?_⟩
          exact p ρ4 H4 _ r4 (e1.trans ((x2.trans x3).trans e4)) (DV.mono e4 _ _ d3)
        | _ => exact p.elim
theorem ed_make0 {p : Pos} (M : CallG (Mk X.K (He.ga X.K c)) X.prog X.w X.K X.mg X.base k 1 mf) (hr : Room (k + 1) X.A) (tk : Takes X W.w) (hg : Gl X c) (hm : X.mg c = some (.ref (He.ga X.K c)))
    (hdb : (c == ("__debug__" : Str)) = false := by decide) : ED X W (.Call (.Name c p) [] [] pos) (mMake c N mf mNil) := by
  obtain ⟨f', fd, ps, F, hM, hb⟩ := M.ex
  refine ed_of (pe_makeSD0 (E := fun σ c dx H => W.w c dx σ H) hM F hr hg hm hb .nil (fun σ => passAt tk σ) hdb) fun σ H Q ρ S E r er p => ?_
  intro x dx hx hdx hne
  have p : Post X.K (DV X.K) ρ H Q (fun c dx H' => W.w c dx σ H') (match mf [.loc S.length] (S ++ [.ins c N []]) with
    | .ok .non S2 => .ok (.loc S.length) S2
    | .ok _ _ => .bad
    | .ex e S2 => .ex e S2
    | .bad => .bad) := p
  have r2 : Rel X.K ρ S (upd H dx (.own x)) := r.new hdx
  have x2 : Ext X.K ρ H ρ (upd H dx (.own x)) := Ext.new hdx
  have hx2 : (upd H dx (.own x)) x = none := by rw [upd_ne (Ne.symm hne)]; exact hx
  have x3 := Ext.alloc (K := X.K) (ρ := ρ) (o := .ins (He.ga X.K c) dx []) hx2
  have r3 : Rel X.K (ρ ++ [x]) (S ++ [.ins c N []]) (upd (upd H dx (.own x)) x (.ins (He.ga X.K c) dx [])) := r2.alloc hx2 ⟨dx, [], by rw [List.zip_nil_right]; exact upd_same, by simp [DVs]⟩
  have d3 : DV X.K (ρ ++ [x]) (upd (upd H dx (.own x)) x (.ins (He.ga X.K c) dx [])) (.loc S.length) (.ref x) := dv_loc r2
  refine ⟨ρ ++ [x], S ++ [.ins c N []], [.loc S.length], r3, DVs.one d3, rfl, ?_⟩
  cases q2 : mf [.loc S.length] (S ++ [.ins c N []]) with
  | bad => rw [q2] at p; exact p.elim
  | ex e S2 =>
    rw [q2] at p
    intro ρ4 H4 cc dd r4 e4 xr
    exact p ρ4 H4 cc dd r4 ((x2.trans x3).trans e4) xr
  | ok d S2 =>
    rw [q2] at p
    cases d with
    | non =>
      intro ρ4 H4 v r4 e4 dv
      refine ⟨dv_non.mp dv, ?_⟩
      exact p ρ4 H4 _ r4 ((x2.trans x3).trans e4) (DV.mono e4 _ _ d3)
    | _ => exact p.elim
theorem ed_prop (T : ClsF X.K c N) (cp : CallG (fun g => ∃ p, PropOf X.K (He.ga X.K c) f p g) X.prog X.w X.K X.mg X.base k 1 mf) (hr : Room (k + 1) X.A) (hx : Passes (L2.CX X.prog X.w) X.nox fun _ _ _ => False) (ho : ED X W o mo)
    (hab : attributeBase o f X.env (eval o X.env) = eval o X.env := by rfl) : ED X W (.Attribute o f pos) (mProp c N mf mo) := by
  obtain ⟨g, fd, ps, F, ⟨pa, hp⟩, hb⟩ := cp.ex
  refine ed_of (pe_prop ho T.cl hp F hr hb .nil hx hab) fun σ H Q ρ S E r er p => ?_
  refine ⟨ρ, S, E, r, er, (Post.bind (R := DV X.K) p).imp fun x H1 ⟨ρ1, S1, d, r1, e1, d1, p1⟩ => ?_⟩
  cases d with
  | loc n =>
    simp only at p1
    cases q : insOf S1[n]? c N with
    | none => rw [q] at p1; exact p1.elim
    | some ds =>
      rw [q] at p1
      simp only at p1
      obtain ⟨a, dx, vs, rfl, _, h2, h3⟩ := ins_read r1 d1 q
      refine ⟨a, dx, _, rfl, h2, ρ1, S1, [.loc n], r1, DVs.one d1, rfl, ?_⟩
      cases q2 : mf [.loc n] S1 with
      | bad => rw [q2] at p1; exact p1.elim
      | ex e S2 => rw [q2] at p1; exact p1.elim
      | ok d2 S2 => rw [q2] at p1; exact p1
  | _ => exact p1.elim
end
/-! ### weakest preconditions -/
def OkIns (o : Option Ob) (c : Str) (N : List Str) (Q : List D → Prop) (_u : Tg Q Q := .mk) : Prop := match insOf o c N with
  | some ds => Q ds
  | none => False
def OkNon (d : D) (Q : Prop) : Prop := match d with
  | .non => Q
  | _ => False
section
variable {Q : D → Sto → Prop} {P P' : Prop} {N B C : EC} {R : D → Sto → Prop} {X : Exn → Sto → Prop} {XE : Exn → EC} {E : Evn} {S : Sto} {o v : ME} {ma : MA} {c : Str} {F : List Str} {i : Nat} {mf : MF}
theorem w_ins {ds : List D} {Q : List D → Prop} : OkIns (some (.ins c F ds)) c F Q = Q ds := by unfold OkIns; rw [insOf_ins]
theorem w_non {P : Prop} : OkNon .non P = P := rfl
theorem w_fld : OkO (mFld c F i o E S) Q X = OkO (o E S) (fun x S1 => OkLoc x fun n => OkIns S1[n]? c F fun ds => OkP ds[i]? fun d => Q d S1) X := by
  unfold mFld; simp only [w_bind]; refine OkO_fun fun x S1 => ?_
  cases x <;> first | rfl | skip
  simp only [OkLoc, OkIns]
  rename_i n
  cases insOf S1[n]? c F with
  | none => rfl
  | some ds => simp only; cases ds[i]? <;> rfl
theorem w_putF : OkS (mPutF c F i o v E S) N R XE B C = OkO (v E S) (fun y S1 => OkO (o E S1) (fun x S2 => OkLoc x fun n => OkIns S2[n]? c F fun ds => OkP (setI i y ds) fun es => OkN (S2.set n (.ins c F es)) fun S3 => N E S3) (fun e S1 => XE e E S1)) (fun e S1 => XE e E S1) := by
  unfold mPutF; simp only [w_toS]; refine OkO_fun fun y S1 => ?_; refine w_toS.trans (OkO_fun fun x S2 => ?_)
  cases x <;> first | rfl | skip
  simp only [OkLoc, OkIns]
  rename_i n
  cases insOf S2[n]? c F with
  | none => rfl
  | some ds => simp only; cases setI i y ds <;> rfl
theorem w_augF {g : Sto → D → D → Option D} : OkS (mAugF c F i g o v E S) N R XE B C = OkO (o E S) (fun x S1 => OkLoc x fun n => OkIns S1[n]? c F fun ds => OkP ds[i]? fun old => OkO (v E S1) (fun y S2 => OkP (g S2 old y) fun z => OkIns S2[n]? c F fun ds2 => OkP (setI i z ds2) fun es => OkN (S2.set n (.ins c F es)) fun S3 => N E S3) (fun e S1 => XE e E S1)) (fun e S1 => XE e E S1) := by
  unfold mAugF; simp only [w_toS]; refine OkO_fun fun x S1 => ?_
  cases x <;> first | rfl | skip
  simp only [OkLoc, OkIns]
  rename_i n
  cases insOf S1[n]? c F with
  | none => rfl
  | some ds =>
    simp only
    cases ds[i]? with
    | none => rfl
    | some old =>
      simp only [OkP, w_toS]
      refine OkO_fun fun y S2 => ?_
      cases g S2 old y with
      | none => rfl
      | some z =>
        simp only
        cases insOf S2[n]? c F with
        | none => rfl
        | some ds2 => simp only; cases setI i z ds2 <;> rfl
theorem w_meth : OkO (mMeth c F mf o ma E S) Q X = OkO (o E S) (fun x S1 => OkLoc x fun n => OkIns S1[n]? c F fun _ => OkO (ma E S1) (fun ds S2 => OkO (mf (.loc n :: ds) S2) Q X) X) X := by
  unfold mMeth; simp only [w_bind]; refine OkO_fun fun x S1 => ?_
  cases x <;> first | rfl | skip
  simp only [OkLoc, OkIns]
  rename_i n
  cases insOf S1[n]? c F with
  | none => rfl
  | some ds => simp only [w_bind]
theorem w_prop : OkO (mProp c F mf o E S) Q X = OkO (o E S) (fun x S1 => OkLoc x fun n => OkIns S1[n]? c F fun _ => OkO (mf [.loc n] S1) Q (fun _ _ => False)) X := by
  unfold mProp; simp only [w_bind]; refine OkO_fun fun x S1 => ?_
  cases x <;> first | rfl | skip
  simp only [OkLoc, OkIns]
  rename_i n
  cases insOf S1[n]? c F with
  | none => rfl
  | some ds => simp only; cases mf [.loc n] S1 <;> rfl
theorem w_make : OkO (mMake c F mf ma E S) Q X = OkO (ma E S) (fun ds S1 => OkN (S1 ++ [.ins c F []]) fun S2 => OkO (mf (.loc S1.length :: ds) S2) (fun d S3 => OkNon d (Q (.loc S1.length) S3)) X) X := by
  unfold mMake; simp only [w_bind]; refine OkO_fun fun ds S1 => ?_
  simp only [OkN]
  cases mf (.loc S1.length :: ds) (S1 ++ [.ins c F []]) with
  | bad => rfl
  | ex e S2 => rfl
  | ok d S2 => cases d <;> rfl
theorem setI_0n {y : D} : setI 0 y [] = some [y] := rfl
theorem setI_0c {y a : D} {r : List D} : setI 0 y (a :: r) = some (y :: r) := rfl
theorem setI_s {i : Nat} {y a : D} {r : List D} : setI (i + 1) y (a :: r) = (setI i y r).map (a :: ·) := rfl
end
end PD
namespace PD
open PySem PySem.Spec PyProof PyProof.Rows L2
/-- an operator in place, as an attribute's store wants it -/
theorem inopR {X : Cx} {op : Operator} {r : R2} (h : OpR X (inplaceOp op) r) : InOp X op r := fun pins s σ H x y u v Q I rx ry q => h pins s σ H x y u v Q I rx ry q
end PD

/-! PyG4: enumerate of a text. -/
namespace PD
open PySem PySem.Spec PyProof PyProof.Rows L2
theorem meets_enumB {v : Value} {o : Obj} {H : Heap → Prop} (B : Begins v o H) :
    Meets (Builtin.«enumerate.__new__» ⟨[.type "enumerate", v], []⟩) (fun _ R s => H s.heap ∧
      R (.ok (.ret (.ref (s.heap.push o).objs.size))) { s with heap := (s.heap.push o).push { cls := .type "enumerate", data := .fields #[.none, .bool false, .ref s.heap.objs.size, rawInt 0, .none, .none] } }) :=
  .of_wp fun prog w A R s h => by
    obtain ⟨hp, g, d, tk, os⟩ := s; obtain ⟨h1, h⟩ := h
    have hsub := sub_enumerate
    have q1 : ∀ {A' : Around} {E : Value → Shared → Prop} {Q : Value → Shared → Prop}, Q (.ref hp.objs.size) ⟨hp.push o, g, d, tk, os⟩ → wpAny (model prog w) A' (pyIter v) Q E ⟨hp, g, d, tk, os⟩ :=
      fun q => B.iter prog w _ _ ⟨hp, g, d, tk, os⟩ _ h1 q
    wp_walk using q1
    refine wpAny_stack_any fun st => wpAny_pure ?_
    split
    · rename_i c _ _ _ _ _
      cases (c == Value.type "enumerate")
      · wp_walk using q1
        exact ⟨_, rfl, h⟩
      · wp_walk using q1
        exact ⟨_, rfl, h⟩
    · wp_walk using q1
      exact ⟨_, rfl, h⟩
theorem call_enumB {prog : Program} {w : World} {A : Around} {E : Value → Shared → Prop} {s : Shared} {v : Value} {o : Obj} {H : Heap → Prop} {Q : Value → Shared → Prop} (B : Begins v o H) (h1 : H s.heap)
    (h : ∀ h', IsEnum h' (s.heap.objs.size + 1) s.heap.objs.size 0 .none → h'.get? s.heap.objs.size = some o → h'.objs.size = s.heap.objs.size + 2 →
      (∀ b o, s.heap.get? b = some o → h'.get? b = some o) → Q (.ref (s.heap.objs.size + 1)) { s with heap := h' }) :
    wpAny (model prog w) A (call (.type "enumerate") [v]) Q E s := by
  refine callType_new F.called_enumerate (by decide) (F.typeCall_enumerate_1 _) (F.newCall_enumerate_1 _) (fun obj => F.args_object_init_2 obj _) F.entry_enumerate_new
    (meets_enumB B) ⟨h1, ?_⟩
  have hz : (s.heap.push o).objs.size = s.heap.objs.size + 1 := Heap.size_push ..
  show _ ∧ _
  rw [hz]
  have he : IsEnum ((s.heap.push o).push { cls := .type "enumerate", data := .fields #[.none, .bool false, .ref s.heap.objs.size, rawInt 0, .none, .none] }) (s.heap.objs.size + 1) s.heap.objs.size 0 .none := by
    have := Heap.get?_push_size (s.heap.push o) (o := { cls := .type "enumerate", data := .fields #[.none, .bool false, .ref s.heap.objs.size, rawInt 0, .none, .none] }) rfl
    rw [hz] at this; exact this
  refine ⟨⟨_, he, rfl⟩, h _ he (Heap.get?_push_of_some _ (Heap.get?_push_size _ B.free)) (by rw [Heap.size_push, hz]) fun b o x => Heap.get?_push_of_some _ (Heap.get?_push_of_some _ x)⟩
/-- the signs of a text, each in a new pair -/
def ItS (x : Str) : It :=
  ⟨fun i _ => i < x.cps.size, fun i H v H' => ∃ T c, v = .ref T ∧ H T = none ∧ H' = upd H T (.tup [.int (i : Nat), .str ⟨#[c]⟩]) ∧ x.cps[i]? = some c, fun i _ => i = x.cps.size⟩
theorem turn_enumS {P : Program} {w : World} {K : PySem.W.Frag} {elts : List Expr} {kk : Nat} {tpos : Pos} {x : Str} {t : Tok} (e it : Addr) :
    Turn P w K (.Tuple elts kk tpos) (ItS x) [e, it] e (fun i h => (∃ old, IsEnum h e it ((i : Nat) : Int) old) ∧ h.IsStrIter it (strIterType x) x t i ∧ e ≠ it) where
  mem := by simp
  obj := fun i h st b hb => by
    obtain ⟨⟨old, he⟩, ⟨o, ho, hc, hd⟩, _⟩ := st
    have e' : b = e ∨ b = it := by simpa using hb
    rcases e' with z | z
    · rw [z]; exact ⟨_, he, fun v q => nomatch q⟩
    · rw [z]; exact ⟨o, ho, fun v q => by rw [hd] at q; cases q⟩
  keep := fun i h h' st k => let ⟨⟨old, he⟩, ⟨o, ho, hr⟩, hne⟩ := st; ⟨⟨old, k e (by simp) _ he⟩, ⟨o, k it (by simp) o ho, hr⟩, hne⟩
  item := by
    intro X hP hw hK hc i pins s σ H E I hf st hg
    subst hP hw hK
    obtain ⟨⟨old, he⟩, hit, hne⟩ := st
    have hlt : i < x.cps.size := hg
    have hel : e < s.heap.objs.size := Heap.lt_size he
    have hil : it < s.heap.objs.size := by obtain ⟨_, q, _⟩ := hit; exact Heap.lt_size q
    have D : Draws X.prog X.w X.A.in1 it [it] x.cps.size (fun i v => ∃ c u, x.cps[i]? = some c ∧ v = .str ⟨#[c]⟩ u) (fun i h => h.IsStrIter it (strIterType x) x t i) := Draws.text (by show X.A.handled = none; exact I.ok.hd hc) it x t
    refine wpAny_pyNext_enum_itemD D he hit hlt hne (by simp [hne]) fun y h' tk hP ho hst hT hsz hk => ?_
    obtain ⟨c, u, hcu, rfl⟩ := hP
    refine ⟨_, rfl, wpAny_letOwnedTupleGo_enum (s := { s with heap := h', toks := tk + 1 }) ho fun h'' he' sb => ?_⟩
    have hT2 : h''.get? s.heap.objs.size = some { cls := .type "tuple", data := .seq #[.int i tk, .str ⟨#[c]⟩ u] } := (sb.2 _ (Nat.ne_of_gt hel)).trans hT
    have new : ObjOk X.prog X.w (upd H s.heap.objs.size (.tup [.int (i : Nat), .str ⟨#[c]⟩])) h'' s.heap.objs.size (.tup [.int (i : Nat), .str ⟨#[c]⟩]) :=
      ⟨by show 2 ≤ sizeLine; decide, [.int i tk, .str ⟨#[c]⟩ u], .cons ⟨_, rfl⟩ (.cons ⟨_, rfl⟩ .nil), ⟨_, hT2, rfl, _, rfl⟩⟩
    have I1 : Inv X pins σ (upd H s.heap.objs.size (.tup [.int (i : Nat), .str ⟨#[c]⟩])) { s with heap := h'', toks := tk + 1 } :=
      I.turnedNew (ch := [e, it]) (fun b ob hb q => (sb.2 b (fun z => hb (by simp [z]))).trans (hk b ob (fun z => hb (by simp [z])) (fun z => hb (by simp [z])) q)) hf (Nat.le_refl _) new
    refine ⟨.ref s.heap.objs.size, _, I1, rfl, ⟨_, c, rfl, I.hok.fresh (Nat.le_refl _), rfl, hcu⟩, ⟨⟨.str ⟨#[c]⟩ u, ?_⟩, ?_, hne⟩, fun b hb => ?_⟩
    · have e1 : ((i + 1 : Nat) : Int) = (i : Int) + 1 := by omega
      rw [e1]; exact he'
    · obtain ⟨o, q1, q2⟩ := hst
      exact ⟨o, (sb.2 it (Ne.symm hne)).trans q1, q2⟩
    · have hb' : b < s.heap.objs.size := by
        have e' : b = e ∨ b = it := by simpa using hb
        rcases e' with z | z
        · rw [z]; exact hel
        · rw [z]; exact hil
      rw [upd_ne (Nat.ne_of_lt hb')]
      exact (hf b hb).1
  done := by
    intro X hP hw hK hc i pins s σ H E I hf st hg
    subst hP hw hK
    obtain ⟨⟨old, he⟩, hit, hne⟩ := st
    have hi : i = x.cps.size := hg
    subst hi
    obtain ⟨f0, f1, f2, f3, f4, f5⟩ := hf it (by simp)
    have D : Draws X.prog X.w X.A.in1 it [it] x.cps.size (fun i v => ∃ c u, x.cps[i]? = some c ∧ v = .str ⟨#[c]⟩ u) (fun i h => h.IsStrIter it (strIterType x) x t i) := Draws.text (by show X.A.handled = none; exact I.ok.hd hc) it x t
    exact wpAny_pyNext_enum_endD D he hit fun h' eb => ⟨rfl, I.turned (t' := s.toks) (fun b o hb q => eb b o hb q) f0 f1 f3 f4 f5⟩
  self := fun A i s Q E st h => let ⟨⟨_, he⟩, _⟩ := st; wpAny_pyIter_enum he h
def tEnumS (ta : TA) : TI := fun σ H R => ta σ H fun vs H1 => ∃ x, vs = [.str x] ∧ R (ItS x) H1
theorem pi_enumS {X : Cx} {e : Expr} {ta : TA} {p pos tpos : Pos} {elts : List Expr} {kk : Nat} (hg : Gl X "enumerate") (hm : X.mg "enumerate" = none) (ha : PA X [e] ta) (hs : starEach [e] X.env = [(false, eval e X.env)] := by rfl) :
    PI X (.Tuple elts kk tpos) (.Call (.Name "enumerate" p) [e] [] pos) (tEnumS ta) := by
  refine ⟨fun pins s σ H R I h => ?_⟩
  refine Call_ (ld_blt I hg hm boot_enumerate (PyProof.Rows.callWith_type1 (thn (ha.run pos pins s σ H _ I h) fun us s1 ⟨vs, H1, I1, r1, q1⟩ => ?_) hs rfl))
  obtain ⟨x, ex, q⟩ := q1
  subst ex
  cases r1 with
  | cons r rr =>
    cases rr
    obtain ⟨t, rfl⟩ := r
    refine call_enumB (begins_text x t) trivial fun h' he hit hsz hk => wpAny_pyIter_enum he ?_
    have I2 : Inv X pins σ H1 { s1 with heap := h' } := I1.kept (t' := s1.toks) hk
    refine ⟨s1.heap.objs.size + 1, [s1.heap.objs.size + 1, s1.heap.objs.size], _, _, H1, rfl, I2, turn_enumS (x := x) (t := t) (s1.heap.objs.size + 1) s1.heap.objs.size,
      ⟨⟨.none, he⟩, ⟨_, hit, rfl, rfl⟩, Nat.succ_ne_self _⟩, fun b hb => ?_, q⟩
    have e' : b = s1.heap.objs.size + 1 ∨ b = s1.heap.objs.size := by simpa using hb
    have hle : s1.heap.objs.size ≤ b := by
      rcases e' with z | z
      · rw [z]; exact Nat.le_add_right _ _
      · rw [z]; exact Nat.le_refl _
    exact I1.fpOk hle (I1.hok.fresh hle)
def iEnumS (ma : MA) : MI := fun E S => (ma E S).bind fun ds S1 => match ds with
  | [.str z] => .ok ⟨enumD (z.map fun c => .str [c]), none⟩ S1
  | _ => .bad
section
variable {X : Cx} {W : WW X.K} {pos : Pos}
theorem walks_enumS {ρ : List Addr} {H : Hp} {z : Tx} : Walks X.K ρ H ⟨enumD (z.map fun c => D.str [c]), none⟩ (ItS ⟨z.toArray⟩) := by
  intro ρ1 S H1 r e c
  refine ⟨fun i d hd => ?_, by show _ = z.toArray.size; rw [enumD_len]; simp⟩
  obtain ⟨x, hx, rfl⟩ := enumD_get hd
  rw [List.getElem?_map, Option.map_eq_some_iff] at hx
  obtain ⟨c, hc, rfl⟩ := hx
  have hi := (List.getElem?_eq_some_iff.mp hc).1
  refine ⟨by show i < z.toArray.size; simpa using hi, fun y H' hy => ?_⟩
  obtain ⟨T, c2, rfl, hT, rfl, hz⟩ := hy
  have e2 : c2 = c := by
    have h2 : z[i]? = some c2 := by simpa using hz
    rw [hc] at h2; exact (Option.some.inj h2).symm
  subst e2
  exact ⟨r.new hT, Ext.new hT, pair_ok r hT (by simp [DV, sv])⟩
theorem id_enumS {e : Expr} {ma : MA} {p tpos : Pos} {elts : List Expr} {kk : Nat} (hg : Gl X "enumerate") (hm : X.mg "enumerate" = none) (ha : AD X W [e] ma)
    (hs : starEach [e] X.env = [(false, eval e X.env)] := by rfl) : ID X W (.Tuple elts kk tpos) (.Call (.Name "enumerate" p) [e] [] pos) (iEnumS ma) := by
  refine PI.impI (pi_enumS hg hm ha hs) fun σ H R ρ S E r er p => ?_
  refine ⟨ρ, S, E, r, er, (Post.bind (R := DVs X.K) p).imp fun vs H1 ⟨ρ1, S1, ds, r1, e1, d1, p1⟩ => ?_⟩
  split at p1
  · obtain ⟨u, rfl, h1⟩ := dvs1 d1
    rw [dv_str] at h1; subst h1
    exact ⟨_, rfl, p1 ρ1 H1 _ r1 Ext.refl walks_enumS⟩
  · exact p1.elim
end
section
variable {QI : ItD → Sto → Prop} {X : Exn → Sto → Prop} {E : Evn} {S : Sto} {ma : MA}
def OkEnS (ds : List D) (Q : ItD → Prop) (_u : Tg Q Q := .mk) : Prop := match ds with
  | [.str z] => Q ⟨enumD (z.map fun c => .str [c]), none⟩
  | _ => False
theorem w_enumS : OkO (iEnumS ma E S) QI X = OkO (ma E S) (fun ds S1 => OkEnS ds fun i => QI i S1) X := by
  unfold iEnumS; simp only [w_bind]; refine OkO_fun fun ds S1 => ?_
  unfold OkEnS
  split <;> rfl
theorem w_enS {z : Tx} {Q : ItD → Prop} : OkEnS [.str z] Q = Q ⟨enumD (z.map fun c => .str [c]), none⟩ := rfl
end
end PD
namespace PD
open PySem PySem.Spec PyProof PyProof.Rows L2
/-! ### list(text) -/
def rListS : List V → Hp → VK → Prop := fun xs H Q => ∃ x : Str, xs = [.str x] ∧ x.cps.size ≤ sizeLine ∧ ∀ q, H q = none → Q (.ref q) (upd H q (.lst (x.cps.toList.map fun c => V.str ⟨#[c]⟩)))
theorem call_listS {X : Cx} (hc : X.calm = true) : CallR X (.type "list") rListS := by
  intro pins s σ H xs us Q I r h
  obtain ⟨x, e, hz, q⟩ := h
  subst e
  obtain ⟨u, eu, rx⟩ := vals1 r
  subst eu
  obtain ⟨t, rfl⟩ := (show ∃ t, u = Value.str x t from rx)
  refine call_list_str (I.ok.hd hc) x t (fun h' tk acc' c' hkeep hS hacc => ?_) hz
  refine ⟨.ref s.heap.objs.size, upd H s.heap.objs.size (.lst (x.cps.toList.map fun c => V.str ⟨#[c]⟩)), I.laid hkeep (Nat.le_refl _) (show ObjOk X.prog X.w _ _ _ (.lst (x.cps.toList.map fun c => V.str ⟨#[c]⟩)) from ⟨?_, acc'.toList, c', ?_, ?_⟩), rfl, q _ (I.hok.fresh (Nat.le_refl _))⟩
  · rw [List.length_map]; simpa using hz
  · have el : acc'.toList.length = acc'.size := by simp
    refine vals_of_at (by rw [List.length_map, el, hacc.1]; simp) fun j y w h1 h2 => ?_
    obtain ⟨c, u, hcu, rfl⟩ := hacc.2 j w (by rw [← Array.getElem?_toList]; exact h2)
    have e1 : y = V.str ⟨#[c]⟩ := by
      rw [List.getElem?_map] at h1
      have : x.cps.toList[j]? = some c := by rw [Array.getElem?_toList]; exact hcu
      rw [this] at h1
      exact (Option.some.inj h1).symm
    subst e1
    exact ⟨u, rfl⟩
  · simpa using hS
open Classical in
noncomputable def mListS (a : MA) : ME := fun E S => (a E S).bind fun ds S1 => match ds with
  | [.str z] => if sizeOk z.length then .ok (.loc S1.length) (S1 ++ [.lst (z.map fun c => .str [c])]) else .bad
  | _ => .bad
section
variable {X : Cx} {W : WW X.K} {pos : Pos}
theorem dvs_chars {K : PySem.W.Frag} {ρ : List Addr} {H : Hp} : ∀ z : Tx, DVs K ρ H (z.map fun c => D.str [c]) (z.map fun c => V.str ⟨#[c]⟩)
  | [] => by simp [DVs]
  | c :: z => by
    simp only [List.map_cons, DVs]
    exact ⟨_, _, rfl, by simp [DV, sv], dvs_chars z⟩
theorem ed_listS {x : Str} {e : Expr} {p : Pos} {ms : MA} (hx : x = "list") (hc : X.calm = true) (hg : Gl X x) (hm : X.mg x = none) (ha : AD X W [e] ms) (he : starEach [e] X.env = (false, eval e X.env) :: starEach [] X.env := by rfl) (hpl : (backTo pos (starEach [] X.env)).any (·.1) = false := by rfl) :
    ED X W (.Call (.Name x p) [e] [] pos) (mListS ms) := by
  subst hx
  refine ed_of (pe_callTy (es := []) (call_listS hc) hg hm boot_list ha (by decide) (by decide) he hpl) fun σ H Q ρ S E r er p => ?_
  refine ⟨ρ, S, E, r, er, (Post.bind (R := DVs X.K) p).imp fun vs H1 ⟨ρ1, S1, ds, r1, e1, d1, p1⟩ => ?_⟩
  split at p1
  · rename_i z
    obtain ⟨u, rfl, h1⟩ := dvs1 d1
    rw [dv_str] at h1; subst h1
    by_cases hl : sizeOk z.length
    · rw [if_pos hl] at p1
      refine ⟨⟨z.toArray⟩, rfl, by show z.toArray.size ≤ _; rw [List.size_toArray]; exact hl, fun q hq => ?_⟩
      have e1 : (z.toArray.toList.map fun c => V.str ⟨#[c]⟩) = z.map fun c => V.str ⟨#[c]⟩ := by simp
      show Q (.ref q) (upd H1 q (.lst (z.toArray.toList.map fun c => V.str ⟨#[c]⟩)))
      rw [e1]
      exact p1 (ρ1 ++ [q]) _ _ (r1.alloc hq ⟨_, upd_same, dvs_chars z⟩) (Ext.alloc hq) (dv_loc r1)
    · rw [if_neg hl] at p1; exact p1.elim
  · exact p1.elim
end
section
variable {Q : D → Sto → Prop} {X : Exn → Sto → Prop} {E : Evn} {S : Sto} {ma : MA}
def OkLs (ds : List D) (Q : Tx → Prop) (_u : Tg Q Q := .mk) : Prop := match ds with
  | [.str z] => Q z
  | _ => False
theorem w_listS : OkO (mListS ma E S) Q X = OkO (ma E S) (fun ds S1 => OkLs ds fun z => sizeOk z.length ∧ OkN (S1 ++ [.lst (z.map fun c => .str [c])]) fun S2 => Q (.loc S1.length) S2) X := by
  unfold mListS; simp only [w_bind]; refine OkO_fun fun ds S1 => ?_
  unfold OkLs
  split
  · exact w_itebad (inst := Classical.propDecidable _)
  · rfl
theorem w_ls {z : Tx} {Q : Tx → Prop} : OkLs [.str z] Q = Q z := rfl
end
end PD

/-! PyG5: own errors with fields: raised, read, asked for their class. -/
namespace PD
open PySem PySem.Spec PyProof PyProof.Rows L2
/-! ### what the written part says of such a class -/
def oexB (K : PySem.W.Frag) (C : Addr) : Bool := (match K.lookup C with
  | some ⟨.type "type", _, .cls cd, sl⟩ => (match cd.mro, sl.toList with
    | .ref C' :: bm, [_, _, _, _, some (.builtin n), _] => decide (C' = C) && (decide (n = "ValueError.__new__") && (!cd.hasDel && (cd.hasDict && PySem.HandSPX.refsVE bm)))
    | _, _ => false)
  | _ => false) && (decide (PySem.W.findIn K (.ref C) "__setattr__" = some (some (.builtin "object.__setattr__"))) && (decide (PySem.W.subIn K (.ref C) (.type "BaseException") = some true) &&
    (decide (PySem.W.typeIn K (.ref C) = some (.type "type")) && PySem.W.keepIn K (.ref C))))
theorem oexB_ok {K : PySem.W.Frag} {C : Addr} (h : oexB K C = true) : OexC K C := by
  unfold oexB at h
  obtain ⟨h1, h⟩ := He.ba h
  obtain ⟨h2, h⟩ := He.ba h
  obtain ⟨h3, h⟩ := He.ba h
  obtain ⟨h4, h5⟩ := He.ba h
  refine ⟨?_, of_decide_eq_true h2, of_decide_eq_true h3, of_decide_eq_true h4, h5⟩
  split at h1
  · rename_i dd cd sl ho
    split at h1
    · rename_i C' bm k0 k1 k2 k3 n k5 hm hs
      obtain ⟨q1, h1⟩ := He.ba h1
      obtain ⟨q2, h1⟩ := He.ba h1
      obtain ⟨q3, h1⟩ := He.ba h1
      obtain ⟨q4, q5⟩ := He.ba h1
      obtain rfl := of_decide_eq_true q1
      obtain rfl := of_decide_eq_true q2
      obtain ⟨nm, bs, mro, ns, qn, hd, sn, sub, ab, col, del⟩ := cd
      dsimp only at hm q3 q4
      simp only [Bool.not_eq_true'] at q3
      subst hm q3 q4
      have hsl : sl = #[k0, k1, k2, k3, some (.builtin "ValueError.__new__"), k5] := by
        obtain ⟨l⟩ := sl
        simp only at hs
        rw [hs]
      subst hsl
      exact ⟨nm, qn, ns, bs, bm, sn, sub, ab, col, dd, k0, k1, k2, k3, k5, ho, q5⟩
    · cases h1
  · cases h1
/-- a class with such an __init__: fields f1, f2 stored in this order; the dict holds N = [f2, f1] -/
structure ExX (K : PySem.W.Frag) (mg : Str → Option Value) (x : String) (N : List Str) (qual : Str) (params : Arguments) (body : List Stmt) (scope : Scope) (ps : List Str) : Prop where
  g : mg (x : Str) = some (.ref (He.ga K x))
  o : OexC K (He.ga K x)
  no : ∀ f ∈ N, PySem.W.findIn K (.ref (He.ga K x)) f = some none
  made : ∃ fI fd, PySem.W.findIn K (.ref (He.ga K x)) "__init__" = some (some (.ref fI)) ∧ PySem.W.typeIn K (.ref fI) = some (.type "function") ∧ FunD K "__init__" qual params body scope [] [] fI fd ∧ Binds K fd ps []
def spO1 (K : PySem.W.Frag) (C : Addr) (f1 : Str) : Sp := fun vs H Q _ => ∃ (a : Addr) (y1 : V), vs = [.ref a, y1] ∧ OexC K C ∧ PySem.W.findIn K (.ref C) f1 = some none ∧ H a = some (exo a C none) ∧
  ∀ d, H d = none → d ≠ a → Q .non (upd (upd H d (exd d [(f1, y1)])) a (exo a C (some d)))
def spO2 (K : PySem.W.Frag) (C : Addr) (f1 f2 : Str) : Sp := fun vs H Q _ => ∃ (a : Addr) (y1 y2 : V), vs = [.ref a, y1, y2] ∧ OexC K C ∧ PySem.W.findIn K (.ref C) f1 = some none ∧ PySem.W.findIn K (.ref C) f2 = some none ∧ H a = some (exo a C none) ∧
  ∀ d, H d = none → d ≠ a → Q .non (upd (upd (upd H d (exd d [(f1, y1)])) a (exo a C (some d))) d (exd d [(f2, y2), (f1, y1)]))
structure ExF (P : Program) (w : World) (K : PySem.W.Frag) (mg : Str → Option Value) (base : Heap) (x : String) (N : List Str) (sp : Sp) : Prop where
  g : mg (x : Str) = some (.ref (He.ga K x))
  o : OexC K (He.ga K x)
  no : ∀ f ∈ N, PySem.W.findIn K (.ref (He.ga K x)) f = some none
  made : ∃ fI fd ps, PySem.W.findIn K (.ref (He.ga K x)) "__init__" = some (some (.ref fI)) ∧ PySem.W.typeIn K (.ref fI) = some (.type "function") ∧ FnOk P w K mg base CX0 1 fI fd ps sp ∧ Binds K fd ps []
section
variable {P : Program} {w : World} {K : PySem.W.Frag} {mg : Str → Option Value} {base : Heap} {x : String} {qual : Str} {params : Arguments} {body : List Stmt} {scope : Scope} {f1 f2 a1 a2 : Str}
/-- def __init__(self, a1): self.f1 = a1 -/
theorem exF1_of (X : ExX K mg x [f1] qual params body scope ["self", a1]) (Sc : FnScope ["self", a1] ["self", a1] scope)
    (hs : ∀ (cdv : Value) (A : Around) (outer : List Env) (s : Shared) (H : Hp) (E : XK) (f : Addr), PSs (cxOf CX0 P w K mg base ["self", a1] qual scope f cdv A outer s H E) body (tOst K f1 (tVar 0) (tVar 1))) :
    ExF P w K mg base x [f1] (spO1 K (He.ga K x) f1) := by
  obtain ⟨g, o, no, fI, fd, h1, h2, F, B⟩ := X
  refine ⟨g, o, no, fI, fd, _, h1, h2, F.ok Sc (fun vs H Q E h => ?_) (fun cdv A outer s H vs Q E hr h => ?_), B⟩
  · obtain ⟨a, y1, rfl, _⟩ := h
    rfl
  · obtain ⟨a, y1, rfl, o1, n1, ha, q⟩ := h
    refine ⟨_, hs cdv A outer s H E fI, ?_⟩
    refine ⟨y1, rfl, .ref a, rfl, a, He.ga K x, rfl, o1, n1, .inl ⟨ha, fun dx hd hne => ?_⟩⟩
    exact q dx hd hne
theorem exF2_of (X : ExX K mg x [f2, f1] qual params body scope ["self", a1, a2]) (Sc : FnScope ["self", a1, a2] ["self", a1, a2] scope)
    (hs : ∀ (cdv : Value) (A : Around) (outer : List Env) (s : Shared) (H : Hp) (E : XK) (f : Addr), PSs (cxOf CX0 P w K mg base ["self", a1, a2] qual scope f cdv A outer s H E) body (tSeq (tOst K f1 (tVar 0) (tVar 1)) (tOst K f2 (tVar 0) (tVar 2)))) :
    ExF P w K mg base x [f2, f1] (spO2 K (He.ga K x) f1 f2) := by
  obtain ⟨g, o, no, fI, fd, h1, h2, F, B⟩ := X
  refine ⟨g, o, no, fI, fd, _, h1, h2, F.ok Sc (fun vs H Q E h => ?_) (fun cdv A outer s H vs Q E hr h => ?_), B⟩
  · obtain ⟨a, y1, y2, rfl, _⟩ := h
    rfl
  · obtain ⟨a, y1, y2, rfl, o1, n1, n2, ha, q⟩ := h
    refine ⟨_, hs cdv A outer s H E fI, ?_⟩
    refine ⟨y1, rfl, .ref a, rfl, a, He.ga K x, rfl, o1, n1, .inl ⟨ha, fun dx hd hne => ?_⟩⟩
    refine ⟨y2, rfl, .ref a, rfl, a, He.ga K x, rfl, o1, n2, .inr ⟨dx, [(f1, y1)], upd_same, ?_, by simp, ?_⟩⟩
    · rw [upd_ne hne, upd_same]
    · exact q dx hd hne
end
end PD
namespace PD
open PySem PySem.Spec PyProof PyProof.Rows L2
/-- raise X(..): the fields stand in the dict behind one another, the last one first -/
def mRaiseF (x : String) (N : List Str) (a : MA) : MS := fun E S => (a E S).toS E fun ds S1 => .ex ⟨.own x, some (N, ds.reverse)⟩ E S1
theorem dic_end {H : Hp} {a d C : Addr} {fs gs : List (Str × V)} (ha : H a = none) (hda : d ≠ a) : upd (del (upd (upd (upd H a (exo a C none)) d (exd d gs)) a (exo a C (some d))) a) d (.xd fs) = upd H d (.xd fs) := by
  funext b
  by_cases h1 : b = d
  · subst h1; rw [upd_same, upd_same]
  · rw [upd_ne h1, upd_ne h1]
    by_cases h2 : b = a
    · subst h2; rw [del_same, ha]
    · rw [del_ne h2, upd_ne h2, upd_ne h1, upd_ne h2]
theorem dic_end2 {H : Hp} {a d C : Addr} {fs gs hs : List (Str × V)} (ha : H a = none) (hda : d ≠ a) : upd (del (upd (upd (upd (upd H a (exo a C none)) d (exd d gs)) a (exo a C (some d))) d (exd d hs)) a) d (.xd fs) = upd H d (.xd fs) := by
  funext b
  by_cases h1 : b = d
  · subst h1; rw [upd_same, upd_same]
  · rw [upd_ne h1, upd_ne h1]
    by_cases h2 : b = a
    · subst h2; rw [del_same, ha]
    · rw [del_ne h2, upd_ne h1, upd_ne h2, upd_ne h1, upd_ne h2]
section
variable {X : Cx} {W : WW X.K} {pos : Pos} {x : String} {f1 f2 : Str} {e e2 : Expr} {es : List Expr} {ma : MA} {p p2 : Pos}
theorem dvs_one {K : PySem.W.Frag} {ρ : List Addr} {H : Hp} {ds : List D} {vs : List V} (h : DVs K ρ H ds vs) (hl : ds.length = 1) : ∃ d v, ds = [d] ∧ vs = [v] ∧ DV K ρ H d v := by
  match ds, hl with
  | [d], _ => obtain ⟨v, rfl, h1⟩ := dvs1 h; exact ⟨d, v, rfl, rfl, h1⟩
theorem dvs_two {K : PySem.W.Frag} {ρ : List Addr} {H : Hp} {ds : List D} {vs : List V} (h : DVs K ρ H ds vs) (hl : ds.length = 2) : ∃ d d2 v v2, ds = [d, d2] ∧ vs = [v, v2] ∧ DV K ρ H d v ∧ DV K ρ H d2 v2 := by
  match ds, hl with
  | [d, d2], _ => obtain ⟨v, v2, rfl, h1, h2⟩ := dvs2 h; exact ⟨d, d2, v, v2, rfl, rfl, h1, h2⟩
theorem sd_raiseF1 (c : ExF X.prog X.w X.K X.mg X.base x [f1] (spO1 X.K (He.ga X.K x) f1)) (hc : X.calm = true) (hr : Room 2 X.A) (tk : Takes X W.w) (hg : Gl X (x : Str)) (ha : AD X W [e] ma) (hl : ∀ E S ds S', ma E S = .ok ds S' → ds.length = 1)
    (hdb : ((x : Str) == ("__debug__" : Str)) = false := by decide) (he : starEach [e] X.env = (false, eval e X.env) :: starEach [] X.env := by rfl) (hpl : (backTo p2 (starEach [] X.env)).any (·.1) = false := by rfl) :
    SD X W (.Raise (some (.Call (.Name (x : Str) p) [e] [] p2)) none pos) (mRaiseF x [f1] ma) := by
  obtain ⟨g, o, no, fI, fd, ps, h1, h2, F, B⟩ := c
  refine sd_of (ps_raise hc tk (pmk_oex o h1 h2 F hr B .nil (pass0 (X := X)) hg g ha hdb he hpl)) fun D σ H ρ S E r er p => ?_
  refine ⟨ρ, S, E, r, er, ?_⟩
  unfold mRaiseF at p
  cases q : ma E S with
  | bad => rw [q] at p; exact p.elim
  | ex e S' => rw [q] at p; exact fun ρ' H' c dx r' x' xr => p ρ' H' σ c dx r' x' (er.mono x') xr
  | ok ds S1 =>
    rw [q] at p
    have hn := hl E S ds S1 q
    intro ρ1 H1 vs r1 x1 d1
    obtain ⟨dd, v, rfl, rfl, hv⟩ := dvs_one d1 hn
    refine ⟨by simp, fun a hfa => ?_⟩
    refine ⟨a, v, rfl, o, no f1 (by simp), upd_same, fun d hd hne => ?_⟩
    have hd1 : H1 d = none := by rw [upd_ne hne] at hd; exact hd
    refine ⟨rfl, d, [(f1, v)], upd_same, by rw [upd_ne hne, upd_same], hd1, ?_⟩
    rw [dic_end hfa hne]
    refine p ρ1 _ σ _ _ (r1.new hd1) (x1.trans (Ext.new hd1)) ((er.mono x1).mono (Ext.new hd1)) ⟨rfl, d, [v], rfl, ?_, ?_⟩
    · rw [upd_same]; rfl
    · exact DVs.one (DV.mono (Ext.new hd1) _ _ hv)
theorem sd_raiseF2 (c : ExF X.prog X.w X.K X.mg X.base x [f2, f1] (spO2 X.K (He.ga X.K x) f1 f2)) (hc : X.calm = true) (hr : Room 2 X.A) (tk : Takes X W.w) (hg : Gl X (x : Str)) (ha : AD X W (e :: es) ma) (hl : ∀ E S ds S', ma E S = .ok ds S' → ds.length = 2)
    (hdb : ((x : Str) == ("__debug__" : Str)) = false := by decide) (he : starEach (e :: es) X.env = (false, eval e X.env) :: starEach es X.env := by rfl) (hpl : (backTo p2 (starEach es X.env)).any (·.1) = false := by rfl) :
    SD X W (.Raise (some (.Call (.Name (x : Str) p) (e :: es) [] p2)) none pos) (mRaiseF x [f2, f1] ma) := by
  obtain ⟨g, o, no, fI, fd, ps, h1, h2, F, B⟩ := c
  refine sd_of (ps_raise hc tk (pmk_oex o h1 h2 F hr B .nil (pass0 (X := X)) hg g ha hdb he hpl)) fun D σ H ρ S E r er p => ?_
  refine ⟨ρ, S, E, r, er, ?_⟩
  unfold mRaiseF at p
  cases q : ma E S with
  | bad => rw [q] at p; exact p.elim
  | ex e S' => rw [q] at p; exact fun ρ' H' c dx r' x' xr => p ρ' H' σ c dx r' x' (er.mono x') xr
  | ok ds S1 =>
    rw [q] at p
    have hn := hl E S ds S1 q
    intro ρ1 H1 vs r1 x1 d1
    obtain ⟨dd, dd2, v, v2, rfl, rfl, hv, hv2⟩ := dvs_two d1 hn
    refine ⟨by simp, fun a hfa => ?_⟩
    refine ⟨a, v, v2, rfl, o, no f1 (by simp), no f2 (by simp), upd_same, fun d hd hne => ?_⟩
    have hd1 : H1 d = none := by rw [upd_ne hne] at hd; exact hd
    refine ⟨rfl, d, [(f2, v2), (f1, v)], by rw [upd_ne (Ne.symm hne), upd_same], upd_same, hd1, ?_⟩
    rw [dic_end2 hfa hne]
    refine p ρ1 _ σ _ _ (r1.new hd1) (x1.trans (Ext.new hd1)) ((er.mono x1).mono (Ext.new hd1)) ⟨rfl, d, [v2, v], rfl, ?_, ?_⟩
    · rw [upd_same]; rfl
    · show DVs X.K ρ1 _ [dd2, dd] [v2, v]
      simp only [DVs]
      exact ⟨v2, [v], rfl, DV.mono (Ext.new hd1) _ _ hv2, v, [], rfl, DV.mono (Ext.new hd1) _ _ hv, rfl⟩
end
/-! ### a field of the caught error -/
open Classical in
noncomputable def mExF (e : Exn) (x : String) (N : List Str) (i : Nat) : ME := fun _ S => match e.fs with
  | some (N', ds) => if e.cls = .own x ∧ N' = N then (match ds[i]? with
    | some d => .ok d S
    | none => .bad) else .bad
  | none => .bad
section
variable {X : Cx} {W : WW X.K} {pos : Pos}
theorem ed_exf {e : Exn} {d : Option Addr} {a : Addr} {oe : Obj} {pn : List (Addr × Obj)} {i j : Nat} {c : String} {N : List Str} {f : Str} {en : Expr} (hz : Zc (e.cls.val X.K) d oe) (hv : ∃ vs, oe.data = .fields vs) (T : XfC X.K (He.ga X.K c))
    (hN : N.Nodup) (hi : N[j]? = some f) (hno : PySem.W.findIn X.K (.ref (He.ga X.K c)) f = some none) (hn : PE (X.suite a ((a, oe) :: pn)) en (tVar i)) (hb : attributeBase en f X.env (eval en X.env) = eval en X.env := by rfl) :
    ED (X.suite a ((a, oe) :: pn)) (WS X W e (e.cls.val X.K) d (some (i, a)) : WW X.K) (.Attribute en f pos) (mExF e c N j) := by
  refine ⟨fun pins s σ H Q I h => ?_⟩
  obtain ⟨ρ, S, E, r, er, q⟩ := h
  unfold mExF at q
  cases q1 : e.fs with
  | none => rw [q1] at q; exact q.elim
  | some fs =>
    rw [q1] at q
    obtain ⟨N', ds⟩ := fs
    simp only at q
    by_cases hc : e.cls = .own c ∧ N' = N
    · rw [if_pos hc] at q
      obtain ⟨hcl, rfl⟩ := hc
      cases q2 : ds[j]? with
      | none => rw [q2] at q; exact q.elim
      | some d2 =>
        rw [q2] at q
        have h1 := er.1.1.2
        rw [q1] at h1
        obtain ⟨dd, vs, hd, hx, dv⟩ := h1
        obtain ⟨v, hv2, dv2⟩ := dv.get q2
        rw [hcl] at hz
        refine (pe_xf (X := X) (te := tVar i) (cls := .ref (He.ga X.K c)) (d := d) T hno hz hv hn hb).run pins s σ H Q I ?_
        exact ⟨.ref a, er.2.1 i a rfl, rfl, rfl, dd, _, v, hd, hx, by rw [zip_lookup hN hi]; exact hv2, q ρ H v r Ext.refl dv2⟩
    · rw [if_neg hc] at q; exact q.elim
end
/-! ### isinstance of a caught error that has a dict -/
end PD
namespace PySem.W
open PySem PySem.Spec PySem.Calls PyProof.Rows
section
variable {prog : Program} {w : World} {A : Around} {E : Value → Shared → Prop} {s : Shared} {K : Frag} {x D : Addr} {ox oD : Obj}
theorem kin_classD {Q : Option Value → Shared → Prop} (hga : findIn K (.ref D) "__getattribute__" = some (some (.builtin "BaseException.__getattribute__"))) (hgt : findIn K (.ref D) "__getattr__" = some none) (hsub : subIn K (.ref D) (.type "BaseException") = some true)
    (hdct : hasDictIn K D = true) (ha : findIn K (.ref D) "__class__" = some (some (.builtin "object.__class__")))
    (hn : specialIn K (.builtin "object.__class__") "__get__" = some (some (.builtin "getset_descriptor.__get__"))) (htk : takesIn K (.builtin "object.__class__") = some true) (hm : mroIn K D (.type "object") = some true)
    (X : K.In s.heap) (I : InstAt s.heap x ox D (some oD)) (h : Q (some (.ref D)) { s with toks := s.toks + 1 }) : wpAny (model prog w) A (getAttr? (.ref x) "__class__") Q E s := by
  have hf : findObj K D (some oD) "__class__" = some (.bind (.builtin "getset_descriptor.__get__") (.builtin "object.__class__")) := findObj_data (by obtain ⟨cd, hc, _⟩ := any_some hdct; rw [hc]; rfl) ha hn htk
  obtain ⟨hp, g, d, t, os⟩ := s
  have L0 := I.type (M := model prog w)
  have L1 := looks_findIn (M := model prog w) X hga
  have L2 := looks_findIn (M := model prog w) X hgt
  have L3 := looks_find (M := model prog w) X I hf
  have sub : Looks (model prog w) hp (isInstance (.ref x) (.type "BaseException")) true := L0.andThen (looks_subIn X hsub)
  have hx0 : (false && onTheHeap (Value.builtin "BaseException.__getattribute__")) = false := rfl
  have hx2 : (Value.builtin "BaseException.__getattribute__" == Value.builtin "object.__getattribute__") = false := by decide +kernel
  have hx1 : (onTheHeap (Value.ref D) && Value.builtin "BaseException.__getattribute__" == Value.builtin "object.__getattribute__") = false := by rw [hx2]; rfl
  unfold getAttr? getAttrBy? getAttrBy
  refine wpAny_bind (wpAny_mkText (wpAny_bind (wpAny_attempt (wpAny_holding (wpAny_bind (L0.at (wpAny_bind (L1.at ?_))))))))
  show wpAny _ _ (if (onTheHeap (Value.ref D) && Value.builtin "BaseException.__getattribute__" == Value.builtin "object.__getattribute__") = true then _ else _) _ _ _
  rw [hx1, if_neg Bool.false_ne_true]
  unfold getAttrByItsOwn hookBefore
  refine wpAny_bind ?_
  rw [if_pos (show onTheHeap (Value.ref D) = true from rfl)]
  refine L2.at ?_
  refine wpAny_bind (wpAny_attempt (wpAny_holding ?_))
  unfold callGetattribute
  rw [hx0, if_neg Bool.false_ne_true]
  unfold boundAndCalled
  rw [PySem.F.excAttr_ValueError.ga.bind (.ref x)]
  refine wpAny_bind (wpAny_pure ?_)
  show wpAny _ _ (call (.builtin "BaseException.__getattribute__") [.ref x, .str "__class__" t]) _ _ _
  refine wpAny_call (codeAny_call_builtin PySem.F.excAttr_ValueError.ga.plain PySem.F.entry_bexc_ga ?_)
  refine @check_slot (model prog w) _ _ ⟨hp, g, d, t + 1, os⟩ "BaseException.__getattribute__" "BaseException" "__getattribute__" (.ref x) [.str "__class__" t] [] _ (by decide +kernel) (by decide +kernel) sub (PySem.F.args_bexc_ga (.ref x) (.str "__class__" t)) ?_
  unfold Builtin.«object.__getattribute__»
  refine wpAny_bind (wpAny_of_eq (a := ((Value.ref x : Value), [Value.str "__class__" t])) (by first | rfl | (simp only [slotArgs]; rfl)) ?_)
  refine wpAny_bind (wpAny_pure (wpAny_bind (L0.at (wpAny_bind (L3.at ?_)))))
  show wpAny _ _ (holding [Value.builtin "object.__class__"] (call (.builtin "getset_descriptor.__get__") [.builtin "object.__class__", .ref x, .ref D]) >>= ret) _ _ _
  refine wpAny_bind (wpAny_holding (wpAny_call (class_get (s := ⟨hp, g, d, t + 1, os⟩) (ox := ox) (od := some oD) X I hm ?_)))
  refine wpAny_pure ?_
  show wpAny _ _ (handedOut (.ref D)) _ _ _
  rw [handedOut_of (v := .ref D) rfl]
  first
    | exact wpAny_pure (wpAny_pure h)
    | exact wpAny_pure h
    | exact wpAny_pure (wpAny_bind (wpAny_pure (wpAny_pure h)))
theorem handS_kitx_excD (hga : findIn K (.ref D) "__getattribute__" = some (some (.builtin "BaseException.__getattribute__"))) (hgt : findIn K (.ref D) "__getattr__" = some none) (hsub : subIn K (.ref D) (.type "BaseException") = some true) (hdct : hasDictIn K D = true) (ha : findIn K (.ref D) "__class__" = some (some (.builtin "object.__class__")))
    (hn : specialIn K (.builtin "object.__class__") "__get__" = some (some (.builtin "getset_descriptor.__get__"))) (htk : takesIn K (.builtin "object.__class__") = some true) (hm : mroIn K D (.type "object") = some true) :
    KitX K (.ref x) (.ref D) (fun h => InstAt h x ox D (some oD)) where
  ty := fun _ _ _ I => I.type
  it := fun _ _ X _ => by
    obtain ⟨cdD, hcD, _⟩ := any_some hdct
    unfold clsIn at hcD
    split at hcD
    · rename_i c' d' cd' sl' ho
      intro A' Q' E' s' k q
      unfold isType loadHead
      exact wpAny_bind (wpAny_loadPart (k _ _ (X _ _ ho)) (wpAny_pure q))
    · cases hcD
  ne := fun h tp dd its n sl X htp => by
    obtain ⟨cdD, hcD, _⟩ := any_some hdct
    refine Bool.eq_false_iff.mpr fun q => ?_
    have e : D = tp := Value.ref.inj (beq_iff_eq.mp q)
    subst e
    unfold clsIn at hcD
    split at hcD
    · rename_i c' d' cd' sl' ho
      have z := (X _ _ ho).symm.trans htp
      cases z
    · cases hcD
  ca := fun X I k => kin_classD hga hgt hsub hdct ha hn htk hm X I k
end
end PySem.W
namespace PD
open PySem PySem.Spec PyProof PyProof.Rows L2
def rIsDx (K : PySem.W.Frag) (D a dd : Addr) : List V → Hp → VK → Prop := fun xs H Q => ∃ (c : V) (cv : Value) (b : Bool) (fs : List (Str × V)), xs = [.ref a, c] ∧ (∀ u, RelV c u → u = cv) ∧ PySem.W.kitOne K (.ref D) cv = some b ∧ H dd = some (.xd fs) ∧ Q (.bl b) H
theorem call_isD {X : Cx} {a D dd : Addr} {oe : Obj} {pn : List (Addr × Obj)} (C : ExcC X.K D) (hz : Zc (.ref D) (some dd) oe) (hf : ∃ vs, oe.data = .fields vs) : CallR (X.suite a ((a, oe) :: pn)) (.builtin "isinstance") (rIsDx X.K D a dd) := by
  intro pins s σ H xs us Q I r h
  obtain ⟨c, cv, b, fs, rfl, hcv, e, hx, q⟩ := h
  cases r with
  | cons rx rr =>
    cases rr with
    | cons rt rr =>
      cases rr
      cases rx
      have ec := hcv _ rt
      subst ec
      obtain ⟨hget, _⟩ := I.pin (a, oe) (List.mem_append.mpr (.inl List.mem_cons_self))
      obtain ⟨vs, hv⟩ := hf
      have hx2 : ObjOk X.prog X.w H s.heap dd (.xd fs) := I.hok dd _ hx
      obtain ⟨mA, hns, hr⟩ := hx2
      obtain ⟨od, ho, hl⟩ := lookIn_ns hns
      have J : PySem.W.InstAt s.heap a oe D (some od) := ⟨hget, hz.1, by unfold PySem.W.notCls; rw [hv] <;> rfl, by rw [hz.2]; exact ho⟩
      exact PySem.W.kia_one (PySem.W.handS_kitx_excD C.hg C.hk C.hs C.hd C.ha C.hn C.ht C.hm) I.kIn J e (fun z => nomatch z) fun tk => ⟨.bl b, H, I.kept (t' := tk) fun _ _ z => z, rfl, q⟩
/-- isinstance of a caught error with fields, by a table -/
def mExIsD (e : Exn) (tbl : List (String × Bool)) : ME := fun _ S => match e.fs with
  | none => .bad
  | some _ => (match takesE tbl e with
    | some b => .ok (.bl b) S
    | none => .bad)
structure IsOkV (K : PySem.W.Frag) (cv : Value) (tbl : List (String × Bool)) : Prop where
  all : ∀ p ∈ tbl, ExcC K (He.ga K p.1) ∧ PySem.W.kitOne K (.ref (He.ga K p.1)) cv = some p.2
section
variable {X : Cx} {W : WW X.K} {pos : Pos}
theorem ed_exisD {e : Exn} {d : Option Addr} {a : Addr} {oe : Obj} {pn : List (Addr × Obj)} {i : Nat} {cV : V} {cv : Value} {tbl : List (String × Bool)} {en ec : Expr} {p : Pos} (hz : Zc (e.cls.val X.K) d oe) (hv : ∃ vs, oe.data = .fields vs) (ht : IsOkV X.K cv tbl)
    (hg : Gl X "isinstance") (hm : X.mg "isinstance" = none) (hn : PE (X.suite a ((a, oe) :: pn)) en (tVar i)) (hc : PE (X.suite a ((a, oe) :: pn)) ec (tC cV)) (hcv : ∀ u, RelV cV u → u = cv)
    (hs1 : starEach (en :: [ec]) X.env = (false, eval en X.env) :: starEach [ec] X.env := by rfl) (hs2 : starEach (ec :: []) X.env = (false, eval ec X.env) :: starEach [] X.env := by rfl) (hpl : (backTo pos (starEach [ec] X.env)).any (·.1) = false := by rfl) :
    ED (X.suite a ((a, oe) :: pn)) (WS X W e (e.cls.val X.K) d (some (i, a)) : WW X.K) (.Call (.Name "isinstance" p) [en, ec] [] pos) (mExIsD e tbl) := by
  refine ⟨fun pins s σ H Q I h => ?_⟩
  obtain ⟨ρ, S, E, r, er, q⟩ := h
  unfold mExIsD at q
  cases q1 : e.fs with
  | none => rw [q1] at q; exact q.elim
  | some fs =>
    rw [q1] at q
    cases q2 : takesE tbl e with
    | none => rw [q2] at q; exact q.elim
    | some b =>
      rw [q2] at q
      obtain ⟨y, hy, hmem⟩ := takesE_some q2
      obtain ⟨hC, hk⟩ := ht.all _ hmem
      have h1 := er.1.1.2
      rw [q1] at h1
      obtain ⟨dd, vs, hd, hx, dv⟩ := h1
      subst hd
      rw [hy] at hz
      have C : CallR (X.suite a ((a, oe) :: pn)) (.builtin "isinstance") (rIsDx X.K (He.ga X.K y) a dd) := call_isD hC hz hv
      refine PE.run (pe_callB (X := X.suite a ((a, oe) :: pn)) C hg hm boot_isinstance (pa_cons (X := X.suite a ((a, oe) :: pn)) hn (pa_cons (X := X.suite a ((a, oe) :: pn)) hc pa_nil hs2) hs1) (he := hs1) (hpl := hpl)) pins s σ H Q I ?_
      refine ⟨.ref a, er.2.1 i a rfl, ?_⟩
      exact ⟨cV, cv, b, _, rfl, hcv, hk, hx, q ρ H _ r Ext.refl (by simp [DV])⟩
end
/-! ### weakest preconditions -/
section
variable {Q : D → Sto → Prop} {N B C : EC} {R : D → Sto → Prop} {X : Exn → Sto → Prop} {XE : Exn → EC} {E : Evn} {S : Sto} {ma : MA} {x : String} {F : List Str} {i : Nat}
theorem w_raiseF : OkS (mRaiseF x F ma E S) N R XE B C = OkO (ma E S) (fun ds S1 => XE ⟨.own x, some (F, ds.reverse)⟩ E S1) (fun e S1 => XE e E S1) := by
  unfold mRaiseF; exact w_toS.trans rfl
theorem w_exf {ds : List D} : OkO (mExF ⟨.own x, some (F, ds)⟩ x F i E S) Q X = OkP ds[i]? fun d => Q d S := by
  unfold mExF
  simp only [and_self, if_true]
  cases ds[i]? <;> rfl
theorem w_exisD {tbl : List (String × Bool)} {p : List Str × List D} : OkO (mExIsD ⟨.own x, some p⟩ tbl E S) Q X = OkP (takesE tbl ⟨.own x, some p⟩) fun b => Q (.bl b) S := by
  unfold mExIsD
  simp only
  cases takesE tbl ⟨.own x, some p⟩ <;> rfl
theorem w_trimX {o : Out D} (h : OkO o (fun d S' => ∃ T, S' = S ++ T ∧ lb S.length d = true ∧ Q d S) (fun e S' => lbE S.length e ∧ ∃ T, S' = S ++ T ∧ X e S)) : OkO (trim S o) Q X := by
  cases o with
  | ok d S' =>
    obtain ⟨T, rfl, h1, h2⟩ := h
    rw [trim_ok h1]
    exact h2
  | ex e S' =>
    obtain ⟨h0, T, rfl, h2⟩ := h
    unfold trim
    simp only
    rw [if_pos ⟨by simp, h0⟩]
    exact h2
  | bad => exact h
end
end PD
namespace PD
open PySem PySem.Spec PyProof PyProof.Rows L2
section
variable {P : Program} {w : World} {K : PySem.W.Frag} {mg : Str → Option Value} {base : Heap} {k : Nat}
theorem callF_zeroN {x : Str} {params : Arguments} {body : List Stmt} {scope : Scope} {ps : List Str} {n : Nat} (F : FD K mg x params body scope ps) : CallF P w K mg base k x n (fun _ _ => .bad) := by
  obtain ⟨f, fd, F, hm, b⟩ := F.ex
  have no : ∀ vs H Q E, ¬ spM K n (fun _ _ => .bad) vs H Q E := fun vs H Q E h => by
    obtain ⟨ρ, S, ds, r, dv, hl, p⟩ := h
    exact p
  exact ⟨f, fd, ps, ⟨fun vs H Q E h => absurd h (no vs H Q E), fun A outer s H args us vs Q E _ _ _ _ h => absurd h (no vs H Q E)⟩, hm, F.kp, b⟩
theorem callG_zeroN {R : Addr → Prop} {x qual : Str} {params : Arguments} {body : List Stmt} {scope : Scope} {ps : List Str} {n : Nat} (F : FG R K x qual params body scope ps) : CallG R P w K mg base k n (fun _ _ => .bad) := by
  obtain ⟨f, fd, F, hm, b⟩ := F.ex
  have no : ∀ vs H Q E, ¬ spM K n (fun _ _ => .bad) vs H Q E := fun vs H Q E h => by
    obtain ⟨ρ, S, ds, r, dv, hl, p⟩ := h
    exact p
  exact ⟨f, fd, ps, ⟨fun vs H Q E h => absurd h (no vs H Q E), fun A outer s H args us vs Q E _ _ _ _ h => absurd h (no vs H Q E)⟩, hm, b⟩
end
theorem lv_ge : ∀ k, 2 ≤ lv k
  | 0 => Nat.le_refl _
  | k + 1 => by have := lv_ge k; show 2 ≤ lv k + 2; omega
end PD
namespace PD
open PySem PySem.Spec PyProof PyProof.Rows L2
def kitVB (K : PySem.W.Frag) (x : String) (cv : Value) (b : Bool) : Bool := decide (PySem.W.kitOne K (.ref (He.ga K x)) cv = some b)
theorem kitVB_ok {K : PySem.W.Frag} {x : String} {cv : Value} {b : Bool} (h : kitVB K x cv b = true) : PySem.W.kitOne K (.ref (He.ga K x)) cv = some b := of_decide_eq_true h
end PD

namespace Law
open PySem PySem.Spec PyProof.Rows L2 PD
/-! ### the text by places -/
def top (i : Nat) : Stmt := PySem.Challenge.pw_cardwright_k23_moves_and_stores.main.body.getD i (.Pass ⟨0, 0, 0, 0⟩)
abbrev s_is_printable : Stmt := top 6
abbrev s_are_figures : Stmt := top 7
abbrev s_normal : Stmt := top 9
abbrev s_power : Stmt := top 10
abbrev s_aligned : Stmt := top 11
abbrev s_quotient : Stmt := top 12
abbrev s_units_at : Stmt := top 13
abbrev s_fits : Stmt := top 14
abbrev s_size_of : Stmt := top 16
abbrev s_is_signed : Stmt := top 17
abbrev s_digits_in : Stmt := top 18
abbrev s_trimmed : Stmt := top 21
abbrev s_suits : Stmt := top 22
abbrev s__body : Stmt := top 23
abbrev s__with_sign : Stmt := top 24
abbrev s_written : Stmt := top 25
abbrev s__halves : Stmt := top 26
abbrev s_reading : Stmt := top 27
abbrev s_holds : Stmt := top 28
abbrev s_value_of : Stmt := top 29
abbrev s_padded : Stmt := top 31
abbrev s_can_move : Stmt := top 32
abbrev s_figures_of : Stmt := top 33
abbrev s_stored : Stmt := top 34
abbrev s_cut_to : Stmt := top 35
abbrev s_moved : Stmt := top 36
abbrev s__law_cell : Stmt := top 38
abbrev s__law_rich : Stmt := top 39
abbrev s__law_word : Stmt := top 40
abbrev s__law_decimal : Stmt := top 41
abbrev s__law_number : Stmt := top 42
abbrev s__law_picture : Stmt := top 43
abbrev s__law_size : Stmt := top 44
abbrev s__law_figures : Stmt := top 45
abbrev s__law_body : Stmt := top 46
abbrev s__law_written : Stmt := top 47
abbrev s__law_units : Stmt := top 48
abbrev s__law_side : Stmt := top 49
abbrev s__law_can : Stmt := top 50
abbrev s__law_content : Stmt := top 51
abbrev s__law_value : Stmt := top 52
abbrev s__law_cut : Stmt := top 53
abbrev s__law_pad : Stmt := top 54
abbrev s__law_stored : Stmt := top 55
abbrev s__law_moved : Stmt := top 56
abbrev s_law : Stmt := top 57
def K_TEXTS : List (Tx × D) := [([44], (.str [44])), ([98], (.str [32])), ([48], (.str [48])), ([47], (.str [47]))]
/-- the defs as plain functions -/
structure Tab where
  is_printable : MF
  are_figures : MF
  normal : MF
  power : MF
  aligned : MF
  quotient : MF
  units_at : MF
  fits : MF
  size_of : MF
  is_signed : MF
  digits_in : MF
  trimmed : MF
  suits : MF
  _body : MF
  _with_sign : MF
  written : MF
  _halves : MF
  reading : MF
  holds : MF
  value_of : MF
  padded : MF
  can_move : MF
  figures_of : MF
  stored : MF
  cut_to : MF
  moved : MF
  _law_cell : MF
  _law_rich : MF
  _law_word : MF
  _law_decimal : MF
  _law_number : MF
  _law_picture : MF
  _law_size : MF
  _law_figures : MF
  _law_body : MF
  _law_written : MF
  _law_units : MF
  _law_side : MF
  _law_can : MF
  _law_content : MF
  _law_value : MF
  _law_cut : MF
  _law_pad : MF
  _law_stored : MF
  _law_moved : MF
  law : MF
def Tab.bad : Tab := ⟨fun _ _ => .bad, fun _ _ => .bad, fun _ _ => .bad, fun _ _ => .bad, fun _ _ => .bad, fun _ _ => .bad, fun _ _ => .bad, fun _ _ => .bad, fun _ _ => .bad, fun _ _ => .bad, fun _ _ => .bad, fun _ _ => .bad, fun _ _ => .bad, fun _ _ => .bad, fun _ _ => .bad, fun _ _ => .bad, fun _ _ => .bad, fun _ _ => .bad, fun _ _ => .bad, fun _ _ => .bad, fun _ _ => .bad, fun _ _ => .bad, fun _ _ => .bad, fun _ _ => .bad, fun _ _ => .bad, fun _ _ => .bad, fun _ _ => .bad, fun _ _ => .bad, fun _ _ => .bad, fun _ _ => .bad, fun _ _ => .bad, fun _ _ => .bad, fun _ _ => .bad, fun _ _ => .bad, fun _ _ => .bad, fun _ _ => .bad, fun _ _ => .bad, fun _ _ => .bad, fun _ _ => .bad, fun _ _ => .bad, fun _ _ => .bad, fun _ _ => .bad, fun _ _ => .bad, fun _ _ => .bad, fun _ _ => .bad, fun _ _ => .bad⟩
/- ['value', 'character'] -/
noncomputable def l_is_printable_1 (C : Tab) : MS := (mIf (mOr (asB (mBin gLt (mVar 1) (mC (.str [32])))) (mOr (asB (mBin gGt (mVar 1) (mC (.str [126])))) (asB (mBin gEq (mB gOrd (mCons (mVar 1) mNil)) (mC (.int 37)))))) (mRet (mC (.bl false))) mSkip)
noncomputable def b_is_printable (C : Tab) : MS := (mSeq (mIf (mNot (asB (mB gIsi (mCons (mVar 0) (mCons (mC (.ty "str")) mNil))))) (mRet (mC (.bl false))) mSkip)
    (mSeq (mFor (iAny (mVar 0)) (gN 1) (l_is_printable_1 C))
    (mRet (mC (.bl true)))))
/- ['value', 'character'] -/
noncomputable def l_are_figures_1 (C : Tab) : MS := (mIf (asB (mBin gNotIn (mVar 1) (mC (.str [48, 49, 50, 51, 52, 53, 54, 55, 56, 57])))) (mRet (mC (.bl false))) mSkip)
noncomputable def b_are_figures (C : Tab) : MS := (mSeq (mIf (mOr (mNot (asB (mB gIsi (mCons (mVar 0) (mCons (mC (.ty "str")) mNil))))) (asB (mBin gEq (mVar 0) (mC (.str []))))) (mRet (mC (.bl false))) mSkip)
    (mSeq (mFor (iAny (mVar 0)) (gN 1) (l_are_figures_1 C))
    (mRet (mC (.bl true)))))
/- ['units', 'scale'] -/
noncomputable def w_normal_1 (C : Tab) : MT := (mAnd (asB (mBin gGt (mVar 1) (mC (.int 0)))) (asB (mBin gEq (mBin gMulA (mBin gDiv (mVar 0) (mC (.int 10))) (mC (.int 10))) (mVar 0))))
noncomputable def l_normal_1 (C : Tab) : MS := (mSeq (mSet 0 (mBin gDiv (mVar 0) (mC (.int 10))))
    (mAug 1 gMns (mC (.int 1))))
noncomputable def b_normal (C : Tab) : MS := (mSeq (mWhile (w_normal_1 C) (l_normal_1 C))
    (mRet (mTup (mCons (mVar 0) (mCons (mVar 1) mNil)))))
/- ['exponent', 'result', '_'] -/
noncomputable def l_power_1 (C : Tab) : MS := (mAug 1 gMul (mC (.int 10)))
noncomputable def b_power (C : Tab) : MS := (mSeq (mSet 1 (mC (.int 1)))
    (mSeq (mFor (iRange1 (mCons (mVar 0) mNil)) (gN 2) (l_power_1 C))
    (mRet (mVar 1))))
/- ['number', 'scale'] -/
noncomputable def b_aligned (C : Tab) : MS := (mRet (mBin gMulA (mBin gIx (mVar 0) (mC (.int 0))) (mCall C.power (mCons (mBin gMns (mVar 1) (mBin gIx (mVar 0) (mC (.int 1)))) mNil))))
/- ['above', 'below', 'is_rounded', 'size'] -/
noncomputable def b_quotient (C : Tab) : MS := (mSeq (mSet 3 (mBin gDiv (mB gAbs (mCons (mVar 0) mNil)) (mB gAbs (mCons (mVar 1) mNil))))
    (mSeq (mIf (mAnd (asB (mVar 2)) (asB (mBin gGe (mBin gMulA (mC (.int 2)) (mBin gMns (mB gAbs (mCons (mVar 0) mNil)) (mBin gMulA (mVar 3) (mB gAbs (mCons (mVar 1) mNil))))) (mB gAbs (mCons (mVar 1) mNil))))) (mAug 3 gAddA (mC (.int 1))) mSkip)
    (mSeq (mIf (asB (mBin gNe (mBin gLt (mVar 0) (mC (.int 0))) (mBin gLt (mVar 1) (mC (.int 0))))) (mRet (mUn gNeg (mVar 3))) mSkip)
    (mRet (mVar 3)))))
/- ['a', 'scale', 'is_rounded'] -/
noncomputable def b_units_at (C : Tab) : MS := (mSeq (mIf (asB (mBin gLe (mBin gIx (mVar 0) (mC (.int 1))) (mVar 1))) (mRet (mCall C.aligned (mCons (mVar 0) (mCons (mVar 1) mNil)))) mSkip)
    (mRet (mCall C.quotient (mCons (mBin gIx (mVar 0) (mC (.int 0))) (mCons (mCall C.power (mCons (mBin gMns (mBin gIx (mVar 0) (mC (.int 1))) (mVar 1)) mNil)) (mCons (mVar 2) mNil))))))
/- ['units', 'digits'] -/
noncomputable def b_fits (C : Tab) : MS := (mRet (mBin gLt (mB gAbs (mCons (mVar 0) mNil)) (mCall C.power (mCons (mVar 1) mNil))))
/- ['picture'] -/
noncomputable def b_size_of (C : Tab) : MS := (mSeq (mIf (asB (mBin gEq (mBin gIx (mVar 0) (mC (.int 0))) (mC (.str [116, 101, 120, 116])))) (mRet (mBin gIx (mVar 0) (mC (.int 1)))) mSkip)
    (mSeq (mIf (asB (mBin gEq (mBin gIx (mVar 0) (mC (.int 0))) (mC (.str [110, 117, 109, 98, 101, 114])))) (mRet (mBin gAdd (mBin gAdd (mB gIntA (mCons (mBin gIx (mVar 0) (mC (.int 1))) mNil)) (mBin gIx (mVar 0) (mC (.int 2)))) (mBin gIx (mVar 0) (mC (.int 3))))) mSkip)
    (mRet (mBin gAdd (mB gLen (mCons (mBin gIx (mVar 0) (mC (.int 1))) mNil)) (mB gLen (mCons (mSM gLstrip (mBin gIx (mVar 0) (mC (.int 4))) (mCons (mC (.str [46])) mNil)) mNil))))))
/- ['picture'] -/
noncomputable def b_is_signed (C : Tab) : MS := (mSeq (mIf (asB (mBin gEq (mBin gIx (mVar 0) (mC (.int 0))) (mC (.str [110, 117, 109, 98, 101, 114])))) (mRet (mBin gIx (mVar 0) (mC (.int 1)))) mSkip)
    (mRet (mAndV (mBin gEq (mBin gIx (mVar 0) (mC (.int 0))) (mC (.str [101, 100, 105, 116, 101, 100]))) (mBin gNe (mBin gIx (mVar 0) (mC (.int 4))) (mC (.str []))))))
/- ['picture'] -/
noncomputable def b_digits_in (C : Tab) : MS := (mSeq (mIf (asB (mBin gEq (mBin gIx (mVar 0) (mC (.int 0))) (mC (.str [116, 101, 120, 116])))) (mRaise ⟨.own "BadPicture", none⟩) mSkip)
    (mRet (mTup (mCons (mBin gIx (mVar 0) (mC (.int 2))) (mCons (mBin gIx (mVar 0) (mC (.int 3))) mNil)))))
/- ['picture', 'units', 'size', 'limit', 'whole', 'fraction'] -/
noncomputable def q_trimmed_1 (C : Tab) : MS := (mSeq (mIf (mAnd (asB (mBin gLt (mVar 1) (mC (.int 0)))) (asB (mCall C.is_signed (mCons (mVar 0) mNil)))) (mRet (mUn gNeg (mVar 2))) mSkip)
    (mRet (mVar 2)))
noncomputable def b_trimmed (C : Tab) : MS := (mSeq (mAsg (mCall C.digits_in (mCons (mVar 0) mNil)) (gT 2 (gsCons (gN 4) (gsCons (gN 5) gsNil))))
    (mSeq (mSet 2 (mB gAbs (mCons (mVar 1) mNil)))
    (mSeq (mSet 3 (mCall C.power (mCons (mBin gAdd (mVar 4) (mVar 5)) mNil)))
    (mSeq (mAug 2 gMns (mBin gMulA (mBin gDiv (mVar 2) (mVar 3)) (mVar 3)))
    (q_trimmed_1 C)))))
/- ['picture', 'units', 'whole', 'fraction'] -/
noncomputable def b_suits (C : Tab) : MS := (mSeq (mAsg (mCall C.digits_in (mCons (mVar 0) mNil)) (gT 2 (gsCons (gN 2) (gsCons (gN 3) gsNil))))
    (mRet (mAndV (mCall C.fits (mCons (mVar 1) (mCons (mBin gAdd (mVar 2) (mVar 3)) mNil))) (mOrV (mBin gGe (mVar 1) (mC (.int 0))) (mCall C.is_signed (mCons (mVar 0) mNil))))))
/- ['marks', 'figures', 'hiding', 'filler', 'parts', 'at', 'mark', 'figure'] -/
noncomputable def l__body_1 (C : Tab) : MS := (mIf (asB (mBin gEq (mVar 6) (mC (.str [46])))) (mSeq (mSet 2 (mC (.bl false)))
    (mDrop (mLM gAppend (mVar 4) (mCons (mVar 6) mNil)))) (mIf (asB (mBin (gTin "TEXTS" K_TEXTS) (mVar 6) (mC (.glo "TEXTS")))) (mDrop (mLM gAppend (mVar 4) (mCons (mIfE (asB (mVar 2)) (mVar 3) (mBin (gTget "TEXTS" K_TEXTS) (mC (.glo "TEXTS")) (mVar 6))) mNil))) (mSeq (mSet 7 (mBin gIx (mVar 1) (mVar 5)))
    (mSeq (mAug 5 gAddA (mC (.int 1)))
    (mSeq (mSet 2 (mAndV (mVar 2) (mAndV (mBin gNe (mVar 6) (mC (.str [57]))) (mBin gEq (mVar 7) (mC (.str [48]))))))
    (mDrop (mLM gAppend (mVar 4) (mCons (mIfE (asB (mVar 2)) (mVar 3) (mVar 7)) mNil))))))))
noncomputable def q__body_1 (C : Tab) : MS := (mSeq (mFor (iAny (mVar 0)) (gN 6) (l__body_1 C))
    (mRet (mSM gJoin (mC (.str [])) (mCons (mVar 4) mNil))))
noncomputable def b__body (C : Tab) : MS := (mSeq (mSet 2 (mBin gNe (mBin gIx (mVar 0) (mC (.int 0))) (mC (.str [57]))))
    (mSeq (mSet 3 (mIfE (asB (mBin gEq (mBin gIx (mVar 0) (mC (.int 0))) (mC (.str [42])))) (mC (.str [42])) (mC (.str [32]))))
    (mSeq (mSet 4 (mLoc mNil))
    (mSeq (mSet 5 (mC (.int 0)))
    (q__body_1 C)))))
/- ['body', 'sign', 'is_negative', 'mark'] -/
noncomputable def q__with_sign_1 (C : Tab) : MS := (mSeq (mIf (asB (mSM gStarts (mVar 1) (mCons (mC (.str [46])) mNil))) (mRet (mBin gAdd (mVar 0) (mVar 3))) mSkip)
    (mRet (mBin gAdd (mVar 3) (mVar 0))))
noncomputable def b__with_sign (C : Tab) : MS := (mSeq (mIf (asB (mBin gEq (mVar 1) (mC (.str [])))) (mRet (mVar 0)) mSkip)
    (mSeq (mIf (mOr (asB (mBin gEq (mVar 1) (mC (.str [99, 114])))) (asB (mBin gEq (mVar 1) (mC (.str [100, 98]))))) (mRet (mBin gAdd (mVar 0) (mIfE (asB (mVar 2)) (mSM gUpper (mVar 1) mNil) (mC (.str [32, 32]))))) mSkip)
    (mSeq (mSet 3 (mIfE (asB (mVar 2)) (mC (.str [45])) (mC (.str [32]))))
    (mSeq (mIf (mAnd (mNot (asB (mVar 2))) (asB (mSM gEnds (mVar 1) (mCons (mC (.str [43])) mNil)))) (mSet 3 (mC (.str [43]))) mSkip)
    (q__with_sign_1 C)))))
/- ['picture', 'units', 'figures', 'whole', 'fraction'] -/
noncomputable def q_written_1 (C : Tab) : MS := (mSeq (mIf (mNot (asB (mBin gIx (mVar 0) (mC (.int 1))))) (mRet (mVar 2)) mSkip)
    (mRet (mBin gAdd (mIfE (asB (mBin gLt (mVar 1) (mC (.int 0)))) (mC (.str [45])) (mC (.str [43]))) (mVar 2))))
noncomputable def b_written (C : Tab) : MS := (mSeq (mIf (mNot (asB (mCall C.suits (mCons (mVar 0) (mCons (mVar 1) mNil))))) (mRaise ⟨.own "BadPicture", none⟩) mSkip)
    (mSeq (mAsg (mCall C.digits_in (mCons (mVar 0) mNil)) (gT 2 (gsCons (gN 3) (gsCons (gN 4) gsNil))))
    (mSeq (mSet 2 (mSM gZfill (mB gStr (mCons (mB gAbs (mCons (mVar 1) mNil)) mNil)) (mCons (mBin gAdd (mVar 3) (mVar 4)) mNil)))
    (mSeq (mIf (asB (mBin gEq (mBin gIx (mVar 0) (mC (.int 0))) (mC (.str [101, 100, 105, 116, 101, 100])))) (mRet (mCall C._with_sign (mCons (mCall C._body (mCons (mBin gIx (mVar 0) (mC (.int 1))) (mCons (mVar 2) mNil))) (mCons (mBin gIx (mVar 0) (mC (.int 4))) (mCons (mBin gLt (mVar 1) (mC (.int 0))) mNil))))) mSkip)
    (q_written_1 C)))))
/- ['picture', 'text', 'sign'] -/
noncomputable def b__halves (C : Tab) : MS := (mSeq (mSet 2 (mIfE (asB (mBin gEq (mBin gIx (mVar 0) (mC (.int 0))) (mC (.str [110, 117, 109, 98, 101, 114])))) (mC (.str [45])) (mBin gIx (mVar 0) (mC (.int 4)))))
    (mSeq (mIf (mNot (asB (mCall C.is_signed (mCons (mVar 0) mNil)))) (mRet (mTup (mCons (mVar 1) (mCons (mC (.bl false)) mNil)))) mSkip)
    (mSeq (mIf (mOr (asB (mBin gEq (mVar 2) (mC (.str [99, 114])))) (asB (mBin gEq (mVar 2) (mC (.str [100, 98]))))) (mRet (mTup (mCons (mSl gSl (mVar 1) mNoPart (mPart (mUn gNeg (mC (.int 2))))) (mCons (mBin gEq (mSl gSl (mVar 1) (mPart (mUn gNeg (mC (.int 2)))) mNoPart) (mSM gUpper (mVar 2) mNil)) mNil)))) mSkip)
    (mSeq (mIf (asB (mSM gStarts (mVar 2) (mCons (mC (.str [46])) mNil))) (mRet (mTup (mCons (mSl gSl (mVar 1) mNoPart (mPart (mUn gNeg (mC (.int 1))))) (mCons (mBin gEq (mSl gSl (mVar 1) (mPart (mUn gNeg (mC (.int 1)))) mNoPart) (mC (.str [45]))) mNil)))) mSkip)
    (mRet (mTup (mCons (mSl gSl (mVar 1) (mPart (mC (.int 1))) mNoPart) (mCons (mBin gEq (mSl gSl (mVar 1) mNoPart (mPart (mC (.int 1)))) (mC (.str [45]))) mNil))))))))
/- ['picture', 'text', 'figures', 'units', 'body', 'is_negative', 'found', 'mark', 'sign'] -/
noncomputable def q_reading_1 (C : Tab) : MS := (mSeq (mIf (mNot (asB (mCall C.are_figures (mCons (mVar 2) mNil)))) (mRet (mC .non)) mSkip)
    (mSeq (mSet 3 (mIfE (asB (mVar 5)) (mUn gNeg (mB gIntA (mCons (mVar 2) mNil))) (mB gIntA (mCons (mVar 2) mNil))))
    (mSeq (mIf (mOr (mNot (asB (mCall C.suits (mCons (mVar 0) (mCons (mVar 3) mNil))))) (asB (mBin gNe (mCall C.written (mCons (mVar 0) (mCons (mVar 3) mNil))) (mVar 1)))) (mRet (mC .non)) mSkip)
    (mRet (mVar 3)))))
noncomputable def b_reading (C : Tab) : MS := (mSeq (mIf (asB (mBin gNe (mB gLen (mCons (mVar 1) mNil)) (mCall C.size_of (mCons (mVar 0) mNil)))) (mRet (mC .non)) mSkip)
    (mSeq (mAsg (mCall C._halves (mCons (mVar 0) (mCons (mVar 1) mNil))) (gT 2 (gsCons (gN 4) (gsCons (gN 5) gsNil))))
    (mSeq (mSet 2 (mVar 4))
    (mSeq (mIf (asB (mBin gEq (mBin gIx (mVar 0) (mC (.int 0))) (mC (.str [101, 100, 105, 116, 101, 100])))) (mSeq (mSet 6 (mComp (iZip (mCons (mBin gIx (mVar 0) (mC (.int 1))) (mCons (mVar 4) mNil))) false [7, 8] [7, 8] (asB (mBin gIn (mVar 7) (mC (.str [122, 42, 57])))) (mVar 8)))
    (mSet 2 (mRepl [42] [48] (mRepl [32] [48] (mSM gJoin (mC (.str [])) (mCons (mVar 6) mNil)))))) mSkip)
    (q_reading_1 C)))))
/- ['picture', 'text'] -/
noncomputable def b_holds (C : Tab) : MS := (mSeq (mIf (mOr (mNot (asB (mCall C.is_printable (mCons (mVar 1) mNil)))) (asB (mBin gNe (mB gLen (mCons (mVar 1) mNil)) (mCall C.size_of (mCons (mVar 0) mNil))))) (mRet (mC (.bl false))) mSkip)
    (mRet (mOrV (mBin gEq (mBin gIx (mVar 0) (mC (.int 0))) (mC (.str [116, 101, 120, 116]))) (mBin gNotN (mCall C.reading (mCons (mVar 0) (mCons (mVar 1) mNil))) (mC .non)))))
/- ['picture', 'text', 'units'] -/
noncomputable def b_value_of (C : Tab) : MS := (mSeq (mSet 2 (mCall C.reading (mCons (mVar 0) (mCons (mVar 1) mNil))))
    (mSeq (mIf (asB (mBin gIsN (mVar 2) (mC .non))) (mRaise ⟨.own "BadPicture", none⟩) mSkip)
    (mRet (mCall C.normal (mCons (mVar 2) (mCons (mBin gIx (mCall C.digits_in (mCons (mVar 0) mNil)) (mC (.int 1))) mNil))))))
/- ['text', 'size'] -/
noncomputable def b_padded (C : Tab) : MS := (mRet (mSl gSl (mSM gLjust (mVar 0) (mCons (mVar 1) mNil)) mNoPart (mPart (mVar 1))))
/- ['source', 'target'] -/
noncomputable def b_can_move (C : Tab) : MS := (mSeq (mIf (asB (mBin gEq (mBin gIx (mVar 0) (mC (.int 0))) (mC (.str [103, 114, 111, 117, 112])))) (mRet (mOrV (mBin gEq (mVar 1) (mVar 0)) (mBin gEq (mBin gIx (mVar 1) (mC (.int 0))) (mC (.str [116, 101, 120, 116]))))) mSkip)
    (mSeq (mIf (asB (mBin gEq (mBin gIx (mVar 1) (mC (.int 0))) (mC (.str [103, 114, 111, 117, 112])))) (mRet (mC (.bl false))) mSkip)
    (mSeq (mIf (asB (mBin gEq (mBin gIx (mVar 1) (mC (.int 0))) (mC (.str [116, 101, 120, 116])))) (mRet (mOrV (mBin gIn (mBin gIx (mVar 0) (mC (.int 0))) (mTup (mCons (mC (.str [115, 116, 114, 105, 110, 103])) (mCons (mC (.str [116, 101, 120, 116])) (mCons (mC (.str [101, 100, 105, 116, 101, 100])) mNil))))) (mAndV (mBin gEq (mBin gIx (mVar 0) (mC (.int 0))) (mC (.str [110, 117, 109, 98, 101, 114]))) (mBin gEq (mBin gIx (mVar 0) (mC (.int 3))) (mC (.int 0)))))) mSkip)
    (mRet (mBin gIn (mBin gIx (mVar 0) (mC (.int 0))) (mTup (mCons (mC (.str [100, 101, 99, 105, 109, 97, 108])) (mCons (mC (.str [110, 117, 109, 98, 101, 114])) (mCons (mC (.str [101, 100, 105, 116, 101, 100])) mNil)))))))))
/- ['picture', 'text'] -/
noncomputable def b_figures_of (C : Tab) : MS := (mRet (mIfE (asB (mBin gIx (mVar 0) (mC (.int 1)))) (mSl gSl (mVar 1) (mPart (mC (.int 1))) mNoPart) (mVar 1)))
/- ['target', 'value', 'is_rounded', 'units'] -/
noncomputable def b_stored (C : Tab) : MS := (mSeq (mSet 3 (mCall C.units_at (mCons (mVar 1) (mCons (mBin gIx (mCall C.digits_in (mCons (mVar 0) mNil)) (mC (.int 1))) (mCons (mVar 2) mNil)))))
    (mSeq (mIf (mNot (asB (mCall C.suits (mCons (mVar 0) (mCons (mVar 3) mNil))))) (mRet (mC .non)) mSkip)
    (mRet (mCall C.written (mCons (mVar 0) (mCons (mVar 3) mNil))))))
/- ['target', 'value'] -/
noncomputable def b_cut_to (C : Tab) : MS := (mRet (mCall C.written (mCons (mVar 0) (mCons (mCall C.trimmed (mCons (mVar 0) (mCons (mCall C.units_at (mCons (mVar 1) (mCons (mBin gIx (mCall C.digits_in (mCons (mVar 0) mNil)) (mC (.int 1))) (mCons (mC (.bl false)) mNil)))) mNil))) mNil))))
/- ['source', 'content', 'target'] -/
noncomputable def b_moved (C : Tab) : MS := (mSeq (mIf (asB (mBin gEq (mBin gIx (mVar 2) (mC (.int 0))) (mC (.str [103, 114, 111, 117, 112])))) (mRet (mVar 1)) mSkip)
    (mSeq (mIf (asB (mBin gEq (mBin gIx (mVar 2) (mC (.int 0))) (mC (.str [116, 101, 120, 116])))) (mSeq (mIf (asB (mBin gEq (mBin gIx (mVar 0) (mC (.int 0))) (mC (.str [110, 117, 109, 98, 101, 114])))) (mSet 1 (mCall C.figures_of (mCons (mVar 0) (mCons (mVar 1) mNil)))) mSkip)
    (mRet (mCall C.padded (mCons (mVar 1) (mCons (mBin gIx (mVar 2) (mC (.int 1))) mNil))))) mSkip)
    (mSeq (mIf (asB (mBin gEq (mBin gIx (mVar 0) (mC (.int 0))) (mC (.str [100, 101, 99, 105, 109, 97, 108])))) (mRet (mCall C.cut_to (mCons (mVar 2) (mCons (mVar 1) mNil)))) mSkip)
    (mRet (mCall C.cut_to (mCons (mVar 2) (mCons (mCall C.value_of (mCons (mVar 0) (mCons (mVar 1) mNil))) mNil)))))))
/- ['script', 'k'] -/
noncomputable def b__law_cell (C : Tab) : MS := (mSeq (mIf (asB (mBin gLt (mVar 1) (mB gLen (mCons (mVar 0) mNil)))) (mRet (mB gIntA (mCons (mBin gIx (mVar 0) (mVar 1)) mNil))) mSkip)
    (mRet (mC (.int 0))))
/- ['cell', 'k', 'mixed'] -/
noncomputable def b__law_rich (C : Tab) : MS := (mSeq (mIf (asB (mBin gGe (mVar 0) (mBin gPow (mC (.int 10)) (mC (.int 18))))) (mRet (mB gIntA (mCons (mVar 0) mNil))) mSkip)
    (mSeq (mSet 2 (mBin gMod (mB gIntA (mCons (mBin gAdd (mBin gAdd (mBin gMulA (mVar 0) (mC (.int 48271))) (mBin gMulA (mVar 1) (mC (.int 69621)))) (mC (.int 11))) mNil)) (mC (.int 2147483647))))
    (mRet (mBin gAdd (mBin gMulA (mVar 2) (mC (.int 2147483629))) (mBin gMod (mB gIntA (mCons (mBin gAdd (mBin gMulA (mVar 2) (mC (.int 16807))) (mVar 0)) mNil)) (mC (.int 2147483629)))))))
/- ['size', 'chars', 'seed', 'word', 'rest', 'k'] -/
noncomputable def l__law_word_1 (C : Tab) : MS := (mSeq (mSet 3 (mBin gAdd (mVar 3) (mBin gIx (mVar 1) (mBin gMod (mB gIntA (mCons (mVar 4) mNil)) (mB gLen (mCons (mVar 1) mNil))))))
    (mSet 4 (mBin gDiv (mVar 4) (mB gLen (mCons (mVar 1) mNil)))))
noncomputable def b__law_word (C : Tab) : MS := (mSeq (mSet 3 (mC (.str [])))
    (mSeq (mSet 4 (mB gIntA (mCons (mVar 2) mNil)))
    (mSeq (mFor (iRange1 (mCons (mVar 0) mNil)) (gN 5) (l__law_word_1 C))
    (mRet (mVar 3)))))
/- ['units', 'scale', 'k'] -/
noncomputable def l__law_decimal_1 (C : Tab) : MS := (mIf (asB (mBin gEq (mBin gMod (mB gIntA (mCons (mVar 0) mNil)) (mC (.int 10))) (mC (.int 0)))) (mSeq (mSet 0 (mBin gDiv (mVar 0) (mC (.int 10))))
    (mSet 1 (mBin gMns (mVar 1) (mC (.int 1))))) (mRet (mTup (mCons (mVar 0) (mCons (mVar 1) mNil)))))
noncomputable def b__law_decimal (C : Tab) : MS := (mSeq (mFor (iRange1 (mCons (mVar 1) mNil)) (gN 2) (l__law_decimal_1 C))
    (mRet (mTup (mCons (mVar 0) (mCons (mVar 1) mNil)))))
/- ['rich', 'choice', 'rest'] -/
noncomputable def b__law_number (C : Tab) : MS := (mSeq (mSet 1 (mBin gMod (mVar 0) (mC (.int 6))))
    (mSeq (mSet 2 (mBin gDiv (mVar 0) (mC (.int 6))))
    (mSeq (mIf (asB (mBin gEq (mVar 1) (mC (.int 0)))) (mRet (mCall C._law_decimal (mCons (mBin gIx (mLst (mCons (mC (.int 0)) (mCons (mC (.int 1)) (mCons (mUn gNeg (mC (.int 1))) (mCons (mC (.int 10)) (mCons (mUn gNeg (mC (.int 100))) (mCons (mC (.int 5)) mNil))))))) (mBin gMod (mVar 2) (mC (.int 6)))) (mCons (mBin gMod (mBin gDiv (mVar 2) (mC (.int 6))) (mC (.int 3))) mNil)))) mSkip)
    (mSeq (mIf (asB (mBin gLt (mVar 1) (mC (.int 4)))) (mRet (mCall C._law_decimal (mCons (mBin gMns (mBin gMod (mVar 2) (mC (.int 20001))) (mC (.int 10000))) (mCons (mBin gMod (mBin gDiv (mVar 2) (mC (.int 20001))) (mC (.int 5))) mNil)))) mSkip)
    (mRet (mCall C._law_decimal (mCons (mBin gMns (mBin gMod (mVar 2) (mBin gMulA (mC (.int 2)) (mBin gPow (mC (.int 10)) (mC (.int 18))))) (mBin gPow (mC (.int 10)) (mC (.int 18)))) (mCons (mBin gMod (mBin gDiv (mVar 2) (mBin gPow (mC (.int 10)) (mC (.int 15)))) (mC (.int 19))) mNil))))))))
/- ['rich', 'choice', 'rest', 'body', 'fraction', 'sign', 'digits', 'whole', 'mark'] -/
noncomputable def q__law_picture_1 (C : Tab) : MS := (mSeq (mSet 6 (mB gLen (mCons (mComp (iAny (mVar 3)) true [8] [8] (asB (mBin gIn (mVar 8) (mC (.str [122, 42, 57])))) (mVar 8)) mNil)))
    (mSeq (mIf (mAnd (asB (mBin gEq (mVar 5) (mC (.str [])))) (asB (mBin gIn (mVar 3) (mLst (mCons (mC (.str [57])) (mCons (mC (.str [57, 57])) mNil)))))) (mSet 5 (mC (.str [45]))) mSkip)
    (mRet (mTup (mCons (mC (.str [101, 100, 105, 116, 101, 100])) (mCons (mVar 3) (mCons (mBin gMns (mVar 6) (mVar 4)) (mCons (mVar 4) (mCons (mVar 5) mNil)))))))))
noncomputable def q__law_picture_2 (C : Tab) : MS := (mSeq (mSet 3 (mBin gIx (mLst (mCons (mC (.str [122, 122, 57])) (mCons (mC (.str [122, 122, 122])) (mCons (mC (.str [122, 57])) (mCons (mC (.str [57])) (mCons (mC (.str [42, 42, 42])) (mCons (mC (.str [42, 42, 57])) (mCons (mC (.str [122, 122, 44, 122, 122, 57])) (mCons (mC (.str [42, 42, 44, 42, 42, 42])) (mCons (mC (.str [57, 57, 47, 57, 57])) (mCons (mC (.str [122, 44, 122, 122, 57, 98, 57])) (mCons (mC (.str [57, 98, 57])) (mCons (mC (.str [122, 48, 122])) (mCons (mC (.str [57, 57])) (mCons (mC (.str [122, 98, 57])) mNil))))))))))))))) (mBin gMod (mVar 2) (mC (.int 14)))))
    (mSeq (mSet 4 (mBin gMod (mBin gDiv (mVar 2) (mC (.int 14))) (mC (.int 4))))
    (mSeq (mIf (asB (mBin gGt (mVar 4) (mC (.int 0)))) (mSet 3 (mBin gAdd (mBin gAdd (mVar 3) (mC (.str [46]))) (mSl gSl (mC (.str [57, 57, 57])) mNoPart (mPart (mVar 4))))) mSkip)
    (mSeq (mSet 5 (mBin gIx (mLst (mCons (mC (.str [])) (mCons (mC (.str [45])) (mCons (mC (.str [43])) (mCons (mC (.str [46, 45])) (mCons (mC (.str [46, 43])) (mCons (mC (.str [99, 114])) (mCons (mC (.str [100, 98])) (mCons (mC (.str [])) mNil))))))))) (mBin gMod (mBin gDiv (mVar 2) (mC (.int 56))) (mC (.int 8)))))
    (q__law_picture_1 C)))))
noncomputable def b__law_picture (C : Tab) : MS := (mSeq (mSet 1 (mBin gMod (mVar 0) (mC (.int 8))))
    (mSeq (mSet 2 (mBin gDiv (mVar 0) (mC (.int 8))))
    (mSeq (mIf (asB (mBin gEq (mVar 1) (mC (.int 0)))) (mRet (mTup (mCons (mC (.str [116, 101, 120, 116])) (mCons (mBin gAdd (mC (.int 1)) (mBin gMod (mVar 2) (mC (.int 12)))) mNil)))) mSkip)
    (mSeq (mIf (asB (mBin gLt (mVar 1) (mC (.int 3)))) (mSeq (mSet 7 (mBin gMod (mVar 2) (mC (.int 5))))
    (mRet (mTup (mCons (mC (.str [110, 117, 109, 98, 101, 114])) (mCons (mBin gEq (mBin gMod (mBin gDiv (mVar 2) (mC (.int 5))) (mC (.int 2))) (mC (.int 1))) (mCons (mB gMax2 (mCons (mVar 7) (mCons (mBin gMns (mC (.int 1)) (mBin gMod (mBin gDiv (mVar 2) (mC (.int 10))) (mC (.int 3)))) mNil))) (mCons (mBin gMod (mBin gDiv (mVar 2) (mC (.int 10))) (mC (.int 3))) mNil))))))) mSkip)
    (q__law_picture_2 C)))))
/- ['picture'] -/
noncomputable def b__law_size (C : Tab) : MS := (mSeq (mIf (asB (mBin gEq (mBin gIx (mVar 0) (mC (.int 0))) (mC (.str [116, 101, 120, 116])))) (mRet (mBin gIx (mVar 0) (mC (.int 1)))) mSkip)
    (mSeq (mIf (asB (mBin gEq (mBin gIx (mVar 0) (mC (.int 0))) (mC (.str [110, 117, 109, 98, 101, 114])))) (mRet (mBin gAdd (mBin gAdd (mB gIntA (mCons (mBin gIx (mVar 0) (mC (.int 1))) mNil)) (mBin gIx (mVar 0) (mC (.int 2)))) (mBin gIx (mVar 0) (mC (.int 3))))) mSkip)
    (mRet (mBin gAdd (mB gLen (mCons (mBin gIx (mVar 0) (mC (.int 1))) mNil)) (mDget2 (mDisp [((mC (.str [])), (mC (.int 0))), ((mC (.str [99, 114])), (mC (.int 2))), ((mC (.str [100, 98])), (mC (.int 2)))]) (mBin gIx (mVar 0) (mC (.int 4))) (mC (.int 1)))))))
/- ['units', 'size', 'figures', 'k'] -/
noncomputable def l__law_figures_1 (C : Tab) : MS := (mIf (asB (mBin gLt (mB gLen (mCons (mVar 2) mNil)) (mVar 1))) (mSet 2 (mBin gAdd (mC (.str [48])) (mVar 2))) mSkip)
noncomputable def b__law_figures (C : Tab) : MS := (mSeq (mSet 2 (mB gStr (mCons (mB gAbs (mCons (mVar 0) mNil)) mNil)))
    (mSeq (mFor (iRange1 (mCons (mVar 1) mNil)) (gN 3) (l__law_figures_1 C))
    (mRet (mVar 2))))
/- ['marks', 'figures', 'hiding', 'filler', 'text', 'at', 'mark'] -/
noncomputable def l__law_body_1 (C : Tab) : MS := (mIf (asB (mBin gIn (mVar 6) (mC (.str [44, 98, 48, 47])))) (mSet 4 (mBin gAdd (mVar 4) (mIfE (asB (mVar 2)) (mVar 3) (mDget2 (mDisp [((mC (.str [98])), (mC (.str [32])))]) (mVar 6) (mVar 6))))) (mIf (asB (mBin gEq (mVar 6) (mC (.str [46])))) (mSeq (mSet 2 (mC (.bl false)))
    (mSet 4 (mBin gAdd (mVar 4) (mC (.str [46]))))) (mSeq (mIf (mOr (asB (mBin gEq (mVar 6) (mC (.str [57])))) (asB (mBin gNe (mBin gIx (mVar 1) (mVar 5)) (mC (.str [48]))))) (mSet 2 (mC (.bl false))) mSkip)
    (mSeq (mSet 4 (mBin gAdd (mVar 4) (mIfE (asB (mVar 2)) (mVar 3) (mBin gIx (mVar 1) (mVar 5)))))
    (mSet 5 (mBin gAdd (mVar 5) (mC (.int 1))))))))
noncomputable def q__law_body_1 (C : Tab) : MS := (mSeq (mFor (iAny (mVar 0)) (gN 6) (l__law_body_1 C))
    (mRet (mVar 4)))
noncomputable def b__law_body (C : Tab) : MS := (mSeq (mSet 2 (mBin gNe (mBin gIx (mVar 0) (mC (.int 0))) (mC (.str [57]))))
    (mSeq (mSet 3 (mIfE (asB (mBin gEq (mBin gIx (mVar 0) (mC (.int 0))) (mC (.str [42])))) (mC (.str [42])) (mC (.str [32]))))
    (mSeq (mSet 4 (mC (.str [])))
    (mSeq (mSet 5 (mC (.int 0)))
    (q__law_body_1 C)))))
/- ['picture', 'units', 'figures', 'body', 'sign', 'mark'] -/
noncomputable def q__law_written_1 (C : Tab) : MS := (mSeq (mIf (asB (mBin gEq (mVar 4) (mC (.str [])))) (mRet (mVar 3)) mSkip)
    (mSeq (mIf (mOr (asB (mBin gEq (mVar 4) (mC (.str [99, 114])))) (asB (mBin gEq (mVar 4) (mC (.str [100, 98]))))) (mRet (mBin gAdd (mVar 3) (mIfE (asB (mBin gLt (mVar 1) (mC (.int 0)))) (mSM gUpper (mVar 4) mNil) (mC (.str [32, 32]))))) mSkip)
    (mSeq (mSet 5 (mIfE (asB (mBin gLt (mVar 1) (mC (.int 0)))) (mC (.str [45])) (mBin gDget (mDisp [((mC (.str [45])), (mC (.str [32]))), ((mC (.str [43])), (mC (.str [43])))]) (mBin gIx (mVar 4) (mUn gNeg (mC (.int 1)))))))
    (mRet (mIfE (asB (mBin gEq (mB gLen (mCons (mVar 4) mNil)) (mC (.int 1)))) (mBin gAdd (mVar 5) (mVar 3)) (mBin gAdd (mVar 3) (mVar 5)))))))
noncomputable def b__law_written (C : Tab) : MS := (mSeq (mSet 2 (mCall C._law_figures (mCons (mVar 1) (mCons (mBin gAdd (mBin gIx (mVar 0) (mC (.int 2))) (mBin gIx (mVar 0) (mC (.int 3)))) mNil))))
    (mSeq (mIf (asB (mBin gEq (mBin gIx (mVar 0) (mC (.int 0))) (mC (.str [110, 117, 109, 98, 101, 114])))) (mSeq (mSet 4 (mIfE (asB (mBin gLt (mVar 1) (mC (.int 0)))) (mC (.str [45])) (mC (.str [43]))))
    (mRet (mIfE (asB (mBin gIx (mVar 0) (mC (.int 1)))) (mBin gAdd (mVar 4) (mVar 2)) (mVar 2)))) mSkip)
    (mSeq (mSet 3 (mCall C._law_body (mCons (mBin gIx (mVar 0) (mC (.int 1))) (mCons (mVar 2) mNil))))
    (mSeq (mSet 4 (mBin gIx (mVar 0) (mC (.int 4))))
    (q__law_written_1 C)))))
/- ['picture', 'rich', 'limit', 'k', 'units', 'signed'] -/
noncomputable def l__law_units_1 (C : Tab) : MS := (mSet 2 (mBin gMulA (mVar 2) (mC (.int 10))))
noncomputable def q__law_units_1 (C : Tab) : MS := (mSeq (mSet 5 (mIfE (asB (mBin gEq (mBin gIx (mVar 0) (mC (.int 0))) (mC (.str [110, 117, 109, 98, 101, 114])))) (mBin gIx (mVar 0) (mC (.int 1))) (mBin gNe (mBin gIx (mVar 0) (mC (.int 4))) (mC (.str [])))))
    (mRet (mIfE (mAnd (asB (mVar 5)) (asB (mBin gEq (mBin gMod (mBin gDiv (mVar 1) (mC (.int 9))) (mC (.int 2))) (mC (.int 1))))) (mUn gNeg (mVar 4)) (mVar 4))))
noncomputable def b__law_units (C : Tab) : MS := (mSeq (mSet 2 (mC (.int 1)))
    (mSeq (mFor (iRange1 (mCons (mBin gAdd (mBin gIx (mVar 0) (mC (.int 2))) (mBin gIx (mVar 0) (mC (.int 3)))) mNil)) (gN 3) (l__law_units_1 C))
    (mSeq (mSet 4 (mBin gMod (mVar 1) (mVar 2)))
    (mSeq (mIf (asB (mBin gEq (mBin gMod (mBin gDiv (mVar 1) (mC (.int 3))) (mC (.int 3))) (mC (.int 0)))) (mSet 4 (mBin gMod (mBin gMod (mVar 1) (mC (.int 100))) (mVar 2))) mSkip)
    (q__law_units_1 C)))))
/- ['rich', 'shape', 'k'] -/
noncomputable def l__law_side_1 (C : Tab) : MS := (mDrop (mLM gAppend (mVar 1) (mCons (mCall C._law_picture (mCons (mBin gAdd (mBin gDiv (mVar 0) (mC (.int 27))) (mBin gMulA (mC (.int 11)) (mVar 2))) mNil)) mNil)))
noncomputable def b__law_side (C : Tab) : MS := (mSeq (mIf (asB (mBin gEq (mBin gMod (mVar 0) (mC (.int 9))) (mC (.int 0)))) (mSeq (mSet 1 (mLoc mNil))
    (mSeq (mFor (iRange1 (mCons (mBin gAdd (mC (.int 1)) (mBin gMod (mBin gDiv (mVar 0) (mC (.int 9))) (mC (.int 3)))) mNil)) (gN 2) (l__law_side_1 C))
    (mRet (mTup (mCons (mC (.str [103, 114, 111, 117, 112])) (mCons (mB gTuple (mCons (mVar 1) mNil)) mNil)))))) mSkip)
    (mRet (mCall C._law_picture (mCons (mBin gDiv (mVar 0) (mC (.int 9))) mNil))))
/- ['source', 'target'] -/
noncomputable def b__law_can (C : Tab) : MS := (mSeq (mIf (mAnd (asB (mBin gEq (mBin gIx (mVar 0) (mC (.int 0))) (mC (.str [103, 114, 111, 117, 112])))) (asB (mBin gEq (mBin gIx (mVar 1) (mC (.int 0))) (mC (.str [103, 114, 111, 117, 112]))))) (mRet (mBin gEq (mVar 0) (mVar 1))) mSkip)
    (mSeq (mIf (asB (mBin gEq (mBin gIx (mVar 1) (mC (.int 0))) (mC (.str [116, 101, 120, 116])))) (mRet (mOrV (mBin gIn (mBin gIx (mVar 0) (mC (.int 0))) (mLst (mCons (mC (.str [115, 116, 114, 105, 110, 103])) (mCons (mC (.str [116, 101, 120, 116])) (mCons (mC (.str [101, 100, 105, 116, 101, 100])) (mCons (mC (.str [103, 114, 111, 117, 112])) mNil)))))) (mAndV (mBin gEq (mBin gIx (mVar 0) (mC (.int 0))) (mC (.str [110, 117, 109, 98, 101, 114]))) (mBin gEq (mBin gIx (mVar 0) (mC (.int 3))) (mC (.int 0)))))) mSkip)
    (mRet (mAndV (mBin gNe (mBin gIx (mVar 1) (mC (.int 0))) (mC (.str [103, 114, 111, 117, 112]))) (mBin gIn (mBin gIx (mVar 0) (mC (.int 0))) (mLst (mCons (mC (.str [100, 101, 99, 105, 109, 97, 108])) (mCons (mC (.str [110, 117, 109, 98, 101, 114])) (mCons (mC (.str [101, 100, 105, 116, 101, 100])) mNil)))))))))
/- ['source', 'rich', 'picture'] -/
noncomputable def b__law_content (C : Tab) : MS := (mSeq (mIf (asB (mBin gEq (mBin gIx (mVar 0) (mC (.int 0))) (mC (.str [115, 116, 114, 105, 110, 103])))) (mRet (mCall C._law_word (mCons (mBin gAdd (mC (.int 1)) (mBin gMod (mVar 1) (mC (.int 20)))) (mCons (mC (.str [97, 98, 32, 99, 57, 45])) (mCons (mBin gDiv (mVar 1) (mC (.int 20))) mNil))))) mSkip)
    (mSeq (mIf (asB (mBin gEq (mBin gIx (mVar 0) (mC (.int 0))) (mC (.str [100, 101, 99, 105, 109, 97, 108])))) (mRet (mCall C._law_number (mCons (mVar 1) mNil))) mSkip)
    (mSeq (mIf (asB (mBin gEq (mBin gIx (mVar 0) (mC (.int 0))) (mC (.str [103, 114, 111, 117, 112])))) (mRet (mSM gJoin (mC (.str [])) (mCons (mComp (iAny (mBin gIx (mVar 0) (mC (.int 1)))) true [2] [2] mYes (mCall C._law_content (mCons (mVar 2) (mCons (mBin gAdd (mBin gDiv (mVar 1) (mC (.int 3))) (mC (.int 5))) mNil)))) mNil))) mSkip)
    (mSeq (mIf (asB (mBin gEq (mBin gIx (mVar 0) (mC (.int 0))) (mC (.str [116, 101, 120, 116])))) (mRet (mCall C._law_word (mCons (mBin gIx (mVar 0) (mC (.int 1))) (mCons (mC (.str [97, 98, 32, 99, 57, 45])) (mCons (mBin gDiv (mVar 1) (mC (.int 20))) mNil))))) mSkip)
    (mRet (mCall C._law_written (mCons (mVar 0) (mCons (mCall C._law_units (mCons (mVar 0) (mCons (mVar 1) mNil))) mNil))))))))
/- ['source', 'content', 'rich'] -/
noncomputable def b__law_value (C : Tab) : MS := (mSeq (mIf (asB (mBin gEq (mBin gIx (mVar 0) (mC (.int 0))) (mC (.str [100, 101, 99, 105, 109, 97, 108])))) (mRet (mVar 1)) mSkip)
    (mRet (mCall C._law_decimal (mCons (mCall C._law_units (mCons (mVar 0) (mCons (mVar 2) mNil))) (mCons (mBin gIx (mVar 0) (mC (.int 3))) mNil)))))
/- ['target', 'value', 'units', 'limit', 'k', 'size', 'signed'] -/
noncomputable def l__law_cut_1 (C : Tab) : MS := (mSet 3 (mBin gMulA (mVar 3) (mC (.int 10))))
noncomputable def q__law_cut_1 (C : Tab) : MS := (mSeq (mSet 6 (mIfE (asB (mBin gEq (mBin gIx (mVar 0) (mC (.int 0))) (mC (.str [110, 117, 109, 98, 101, 114])))) (mBin gIx (mVar 0) (mC (.int 1))) (mBin gNe (mBin gIx (mVar 0) (mC (.int 4))) (mC (.str [])))))
    (mRet (mCall C._law_written (mCons (mVar 0) (mCons (mIfE (mAnd (asB (mBin gLt (mVar 2) (mC (.int 0)))) (asB (mVar 6))) (mUn gNeg (mVar 5)) (mVar 5)) mNil)))))
noncomputable def b__law_cut (C : Tab) : MS := (mSeq (mSet 2 (mCall C.units_at (mCons (mVar 1) (mCons (mBin gIx (mVar 0) (mC (.int 3))) (mCons (mC (.bl false)) mNil)))))
    (mSeq (mSet 3 (mC (.int 1)))
    (mSeq (mFor (iRange1 (mCons (mBin gAdd (mBin gIx (mVar 0) (mC (.int 2))) (mBin gIx (mVar 0) (mC (.int 3)))) mNil)) (gN 4) (l__law_cut_1 C))
    (mSeq (mSet 5 (mBin gMod (mB gAbs (mCons (mVar 2) mNil)) (mVar 3)))
    (q__law_cut_1 C)))))
/- ['text', 'size', 'k'] -/
noncomputable def l__law_pad_1 (C : Tab) : MS := (mIf (asB (mBin gLt (mB gLen (mCons (mVar 0) mNil)) (mVar 1))) (mSet 0 (mBin gAdd (mVar 0) (mC (.str [32])))) mSkip)
noncomputable def b__law_pad (C : Tab) : MS := (mSeq (mFor (iRange1 (mCons (mVar 1) mNil)) (gN 2) (l__law_pad_1 C))
    (mRet (mSl gSl (mVar 0) mNoPart (mPart (mVar 1)))))
/- ['target', 'value', 'is_rounded', 'units', 'signed'] -/
noncomputable def b__law_stored (C : Tab) : MS := (mSeq (mSet 3 (mCall C.units_at (mCons (mVar 1) (mCons (mBin gIx (mVar 0) (mC (.int 3))) (mCons (mVar 2) mNil)))))
    (mSeq (mSet 4 (mIfE (asB (mBin gEq (mBin gIx (mVar 0) (mC (.int 0))) (mC (.str [110, 117, 109, 98, 101, 114])))) (mBin gIx (mVar 0) (mC (.int 1))) (mBin gNe (mBin gIx (mVar 0) (mC (.int 4))) (mC (.str [])))))
    (mSeq (mIf (mOr (mAnd (asB (mBin gLt (mVar 3) (mC (.int 0)))) (mNot (asB (mVar 4)))) (mAnd (asB (mBin gNe (mVar 3) (mC (.int 0)))) (asB (mBin gGt (mB gLen (mCons (mB gStr (mCons (mB gAbs (mCons (mVar 3) mNil)) mNil)) mNil)) (mBin gAdd (mBin gIx (mVar 0) (mC (.int 2))) (mBin gIx (mVar 0) (mC (.int 3)))))))) (mRet (mC .non)) mSkip)
    (mRet (mCall C._law_written (mCons (mVar 0) (mCons (mVar 3) mNil)))))))
/- ['source', 'content', 'target', 'rich'] -/
noncomputable def b__law_moved (C : Tab) : MS := (mSeq (mIf (asB (mBin gEq (mBin gIx (mVar 2) (mC (.int 0))) (mC (.str [103, 114, 111, 117, 112])))) (mRet (mVar 1)) mSkip)
    (mSeq (mIf (asB (mBin gNe (mBin gIx (mVar 2) (mC (.int 0))) (mC (.str [116, 101, 120, 116])))) (mRet (mCall C._law_cut (mCons (mVar 2) (mCons (mCall C._law_value (mCons (mVar 0) (mCons (mVar 1) (mCons (mVar 3) mNil)))) mNil)))) mSkip)
    (mSeq (mIf (mAnd (asB (mBin gEq (mBin gIx (mVar 0) (mC (.int 0))) (mC (.str [110, 117, 109, 98, 101, 114])))) (asB (mBin gIx (mVar 0) (mC (.int 1))))) (mSet 1 (mSl gSl (mVar 1) (mPart (mC (.int 1))) mNoPart)) mSkip)
    (mRet (mCall C._law_pad (mCons (mVar 1) (mCons (mBin gIx (mVar 2) (mC (.int 1))) mNil)))))))
/- ['script', 'k', 'rich', 'source', 'target', 'can', 'content', 'picture', 'value', 'size', 'text'] -/
noncomputable def q_law_1 (C : Tab) : MS := (mSeq (mSet 9 (mBin gMod (mBin gDiv (mVar 2) (mC (.int 23))) (mC (.int 12))))
    (mIf (asB (mBin gNe (mCall C.padded (mCons (mC (.str [97, 98, 99, 100, 101])) (mCons (mVar 9) mNil))) (mCall C._law_pad (mCons (mC (.str [97, 98, 99, 100, 101])) (mCons (mVar 9) mNil))))) (mRet (mC (.bl false))) mSkip))
noncomputable def q_law_2 (C : Tab) : MS := (mSeq (mIf (mAnd (asB (mBin gEq (mBin gIx (mVar 3) (mC (.int 0))) (mC (.str [110, 117, 109, 98, 101, 114])))) (asB (mBin gNe (mCall C.figures_of (mCons (mVar 3) (mCons (mVar 6) mNil))) (mIfE (asB (mBin gIx (mVar 3) (mC (.int 1)))) (mSl gSl (mVar 6) (mPart (mC (.int 1))) mNoPart) (mVar 6))))) (mRet (mC (.bl false))) mSkip)
    (mSeq (mSet 7 (mCall C._law_picture (mCons (mBin gDiv (mVar 2) (mC (.int 17))) mNil)))
    (mSeq (mSet 8 (mCall C._law_number (mCons (mBin gDiv (mVar 2) (mC (.int 19))) mNil)))
    (mSeq (mIf (asB (mBin gNe (mBin gIx (mVar 7) (mC (.int 0))) (mC (.str [116, 101, 120, 116])))) (mSeq (mIf (asB (mBin gNe (mCall C.cut_to (mCons (mVar 7) (mCons (mVar 8) mNil))) (mCall C._law_cut (mCons (mVar 7) (mCons (mVar 8) mNil))))) (mRet (mC (.bl false))) mSkip)
    (mIf (asB (mBin gNe (mCall C.stored (mCons (mVar 7) (mCons (mVar 8) (mCons (mBin gEq (mBin gMod (mVar 2) (mC (.int 2))) (mC (.int 0))) mNil)))) (mCall C._law_stored (mCons (mVar 7) (mCons (mVar 8) (mCons (mBin gEq (mBin gMod (mVar 2) (mC (.int 2))) (mC (.int 0))) mNil)))))) (mRet (mC (.bl false))) mSkip)) mSkip)
    (q_law_1 C)))))
noncomputable def q_law_3 (C : Tab) : MS := (mSeq (mSet 5 (mCall C._law_can (mCons (mVar 3) (mCons (mVar 4) mNil))))
    (mSeq (mIf (mOr (mNot (asB (mB gIsi (mCons (mCall C.can_move (mCons (mVar 3) (mCons (mVar 4) mNil))) (mCons (mC (.ty "bool")) mNil))))) (asB (mBin gNe (mCall C.can_move (mCons (mVar 3) (mCons (mVar 4) mNil))) (mVar 5)))) (mRet (mC (.bl false))) mSkip)
    (mSeq (mSet 6 (mCall C._law_content (mCons (mVar 3) (mCons (mBin gDiv (mVar 2) (mC (.int 13))) mNil))))
    (mSeq (mIf (asB (mVar 5)) (mSeq (mSet 10 (mCall C.moved (mCons (mVar 3) (mCons (mVar 6) (mCons (mVar 4) mNil)))))
    (mSeq (mIf (asB (mBin gNe (mVar 10) (mCall C._law_moved (mCons (mVar 3) (mCons (mVar 6) (mCons (mVar 4) (mCons (mBin gDiv (mVar 2) (mC (.int 13))) mNil))))))) (mRet (mC (.bl false))) mSkip)
    (mIf (mAnd (asB (mBin gNe (mBin gIx (mVar 4) (mC (.int 0))) (mC (.str [103, 114, 111, 117, 112])))) (mNot (asB (mCall C.holds (mCons (mVar 4) (mCons (mVar 10) mNil)))))) (mRet (mC (.bl false))) mSkip))) mSkip)
    (q_law_2 C)))))
noncomputable def l_law_1 (C : Tab) : MS := (mSeq (mSet 2 (mCall C._law_rich (mCons (mCall C._law_cell (mCons (mVar 0) (mCons (mVar 1) mNil))) (mCons (mVar 1) mNil))))
    (mSeq (mSet 3 (mBin gIx (mLst (mCons (mTup (mCons (mC (.str [115, 116, 114, 105, 110, 103])) mNil)) (mCons (mTup (mCons (mC (.str [100, 101, 99, 105, 109, 97, 108])) mNil)) (mCons (mCall C._law_side (mCons (mBin gDiv (mVar 2) (mC (.int 3))) mNil)) (mCons (mCall C._law_side (mCons (mBin gDiv (mVar 2) (mC (.int 3))) mNil)) mNil))))) (mBin gMod (mVar 2) (mC (.int 4)))))
    (mSeq (mSet 4 (mCall C._law_side (mCons (mBin gDiv (mVar 2) (mC (.int 1001))) mNil)))
    (mSeq (mIf (mAnd (asB (mBin gEq (mBin gMod (mBin gDiv (mVar 2) (mC (.int 5))) (mC (.int 6))) (mC (.int 0)))) (asB (mBin gEq (mBin gIx (mVar 3) (mC (.int 0))) (mC (.str [103, 114, 111, 117, 112]))))) (mSet 4 (mVar 3)) mSkip)
    (q_law_3 C)))))
noncomputable def b_law (C : Tab) : MS := (mSeq (mFor (iRange1 (mCons (mB gMax2 (mCons (mC (.int 1)) (mCons (mB gMin2 (mCons (mC (.int 14)) (mCons (mB gLen (mCons (mVar 0) mNil)) mNil))) mNil))) mNil)) (gN 1) (l_law_1 C))
    (mRet (mC (.bl true))))
noncomputable def step (C : Tab) : Tab where
  is_printable := runB 2 (b_is_printable C)
  are_figures := runB 2 (b_are_figures C)
  normal := runB 2 (b_normal C)
  power := runB 3 (b_power C)
  aligned := runB 2 (b_aligned C)
  quotient := runB 4 (b_quotient C)
  units_at := runB 3 (b_units_at C)
  fits := runB 2 (b_fits C)
  size_of := runB 1 (b_size_of C)
  is_signed := runB 1 (b_is_signed C)
  digits_in := runB 1 (b_digits_in C)
  trimmed := runB 6 (b_trimmed C)
  suits := runB 4 (b_suits C)
  _body := runT 8 (b__body C)
  _with_sign := runB 4 (b__with_sign C)
  written := runB 5 (b_written C)
  _halves := runB 3 (b__halves C)
  reading := runB 9 (b_reading C)
  holds := runB 2 (b_holds C)
  value_of := runB 3 (b_value_of C)
  padded := runB 2 (b_padded C)
  can_move := runB 2 (b_can_move C)
  figures_of := runB 2 (b_figures_of C)
  stored := runB 4 (b_stored C)
  cut_to := runB 2 (b_cut_to C)
  moved := runB 3 (b_moved C)
  _law_cell := runB 2 (b__law_cell C)
  _law_rich := runB 3 (b__law_rich C)
  _law_word := runB 6 (b__law_word C)
  _law_decimal := runB 3 (b__law_decimal C)
  _law_number := runB 3 (b__law_number C)
  _law_picture := runB 9 (b__law_picture C)
  _law_size := runT 1 (b__law_size C)
  _law_figures := runB 4 (b__law_figures C)
  _law_body := runT 7 (b__law_body C)
  _law_written := runT 6 (b__law_written C)
  _law_units := runB 6 (b__law_units C)
  _law_side := runT 3 (b__law_side C)
  _law_can := runB 2 (b__law_can C)
  _law_content := runB 3 (b__law_content C)
  _law_value := runB 3 (b__law_value C)
  _law_cut := runB 7 (b__law_cut C)
  _law_pad := runB 3 (b__law_pad C)
  _law_stored := runB 5 (b__law_stored C)
  _law_moved := runB 4 (b__law_moved C)
  law := runB 11 (b_law C)
noncomputable def T : Nat → Tab
  | 0 => Tab.bad
  | k + 1 => step (T k)
theorem T_succ (k : Nat) : T (k + 1) = step (T k) := rfl
theorem T_is_printable (k : Nat) : (T (k + 1)).is_printable = runB 2 (b_is_printable (T k)) := by rw [T_succ]; unfold step; rfl
theorem T_are_figures (k : Nat) : (T (k + 1)).are_figures = runB 2 (b_are_figures (T k)) := by rw [T_succ]; unfold step; rfl
theorem T_normal (k : Nat) : (T (k + 1)).normal = runB 2 (b_normal (T k)) := by rw [T_succ]; unfold step; rfl
theorem T_power (k : Nat) : (T (k + 1)).power = runB 3 (b_power (T k)) := by rw [T_succ]; unfold step; rfl
theorem T_aligned (k : Nat) : (T (k + 1)).aligned = runB 2 (b_aligned (T k)) := by rw [T_succ]; unfold step; rfl
theorem T_quotient (k : Nat) : (T (k + 1)).quotient = runB 4 (b_quotient (T k)) := by rw [T_succ]; unfold step; rfl
theorem T_units_at (k : Nat) : (T (k + 1)).units_at = runB 3 (b_units_at (T k)) := by rw [T_succ]; unfold step; rfl
theorem T_fits (k : Nat) : (T (k + 1)).fits = runB 2 (b_fits (T k)) := by rw [T_succ]; unfold step; rfl
theorem T_size_of (k : Nat) : (T (k + 1)).size_of = runB 1 (b_size_of (T k)) := by rw [T_succ]; unfold step; rfl
theorem T_is_signed (k : Nat) : (T (k + 1)).is_signed = runB 1 (b_is_signed (T k)) := by rw [T_succ]; unfold step; rfl
theorem T_digits_in (k : Nat) : (T (k + 1)).digits_in = runB 1 (b_digits_in (T k)) := by rw [T_succ]; unfold step; rfl
theorem T_trimmed (k : Nat) : (T (k + 1)).trimmed = runB 6 (b_trimmed (T k)) := by rw [T_succ]; unfold step; rfl
theorem T_suits (k : Nat) : (T (k + 1)).suits = runB 4 (b_suits (T k)) := by rw [T_succ]; unfold step; rfl
theorem T__body (k : Nat) : (T (k + 1))._body = runT 8 (b__body (T k)) := by rw [T_succ]; unfold step; rfl
theorem T__with_sign (k : Nat) : (T (k + 1))._with_sign = runB 4 (b__with_sign (T k)) := by rw [T_succ]; unfold step; rfl
theorem T_written (k : Nat) : (T (k + 1)).written = runB 5 (b_written (T k)) := by rw [T_succ]; unfold step; rfl
theorem T__halves (k : Nat) : (T (k + 1))._halves = runB 3 (b__halves (T k)) := by rw [T_succ]; unfold step; rfl
theorem T_reading (k : Nat) : (T (k + 1)).reading = runB 9 (b_reading (T k)) := by rw [T_succ]; unfold step; rfl
theorem T_holds (k : Nat) : (T (k + 1)).holds = runB 2 (b_holds (T k)) := by rw [T_succ]; unfold step; rfl
theorem T_value_of (k : Nat) : (T (k + 1)).value_of = runB 3 (b_value_of (T k)) := by rw [T_succ]; unfold step; rfl
theorem T_padded (k : Nat) : (T (k + 1)).padded = runB 2 (b_padded (T k)) := by rw [T_succ]; unfold step; rfl
theorem T_can_move (k : Nat) : (T (k + 1)).can_move = runB 2 (b_can_move (T k)) := by rw [T_succ]; unfold step; rfl
theorem T_figures_of (k : Nat) : (T (k + 1)).figures_of = runB 2 (b_figures_of (T k)) := by rw [T_succ]; unfold step; rfl
theorem T_stored (k : Nat) : (T (k + 1)).stored = runB 4 (b_stored (T k)) := by rw [T_succ]; unfold step; rfl
theorem T_cut_to (k : Nat) : (T (k + 1)).cut_to = runB 2 (b_cut_to (T k)) := by rw [T_succ]; unfold step; rfl
theorem T_moved (k : Nat) : (T (k + 1)).moved = runB 3 (b_moved (T k)) := by rw [T_succ]; unfold step; rfl
theorem T__law_cell (k : Nat) : (T (k + 1))._law_cell = runB 2 (b__law_cell (T k)) := by rw [T_succ]; unfold step; rfl
theorem T__law_rich (k : Nat) : (T (k + 1))._law_rich = runB 3 (b__law_rich (T k)) := by rw [T_succ]; unfold step; rfl
theorem T__law_word (k : Nat) : (T (k + 1))._law_word = runB 6 (b__law_word (T k)) := by rw [T_succ]; unfold step; rfl
theorem T__law_decimal (k : Nat) : (T (k + 1))._law_decimal = runB 3 (b__law_decimal (T k)) := by rw [T_succ]; unfold step; rfl
theorem T__law_number (k : Nat) : (T (k + 1))._law_number = runB 3 (b__law_number (T k)) := by rw [T_succ]; unfold step; rfl
theorem T__law_picture (k : Nat) : (T (k + 1))._law_picture = runB 9 (b__law_picture (T k)) := by rw [T_succ]; unfold step; rfl
theorem T__law_size (k : Nat) : (T (k + 1))._law_size = runT 1 (b__law_size (T k)) := by rw [T_succ]; unfold step; rfl
theorem T__law_figures (k : Nat) : (T (k + 1))._law_figures = runB 4 (b__law_figures (T k)) := by rw [T_succ]; unfold step; rfl
theorem T__law_body (k : Nat) : (T (k + 1))._law_body = runT 7 (b__law_body (T k)) := by rw [T_succ]; unfold step; rfl
theorem T__law_written (k : Nat) : (T (k + 1))._law_written = runT 6 (b__law_written (T k)) := by rw [T_succ]; unfold step; rfl
theorem T__law_units (k : Nat) : (T (k + 1))._law_units = runB 6 (b__law_units (T k)) := by rw [T_succ]; unfold step; rfl
theorem T__law_side (k : Nat) : (T (k + 1))._law_side = runT 3 (b__law_side (T k)) := by rw [T_succ]; unfold step; rfl
theorem T__law_can (k : Nat) : (T (k + 1))._law_can = runB 2 (b__law_can (T k)) := by rw [T_succ]; unfold step; rfl
theorem T__law_content (k : Nat) : (T (k + 1))._law_content = runB 3 (b__law_content (T k)) := by rw [T_succ]; unfold step; rfl
theorem T__law_value (k : Nat) : (T (k + 1))._law_value = runB 3 (b__law_value (T k)) := by rw [T_succ]; unfold step; rfl
theorem T__law_cut (k : Nat) : (T (k + 1))._law_cut = runB 7 (b__law_cut (T k)) := by rw [T_succ]; unfold step; rfl
theorem T__law_pad (k : Nat) : (T (k + 1))._law_pad = runB 3 (b__law_pad (T k)) := by rw [T_succ]; unfold step; rfl
theorem T__law_stored (k : Nat) : (T (k + 1))._law_stored = runB 5 (b__law_stored (T k)) := by rw [T_succ]; unfold step; rfl
theorem T__law_moved (k : Nat) : (T (k + 1))._law_moved = runB 4 (b__law_moved (T k)) := by rw [T_succ]; unfold step; rfl
theorem T_law (k : Nat) : (T (k + 1)).law = runB 11 (b_law (T k)) := by rw [T_succ]; unfold step; rfl
/-- what the module's names stand for -/
structure Gs (P : Program) (w : World) (K : PySem.W.Frag) (mg : Str → Option Value) (base : Heap) (k : Nat) (C : Tab) : Prop where
  c_is_printable : CallF P w K mg base k "is_printable" 1 C.is_printable
  c_are_figures : CallF P w K mg base k "are_figures" 1 C.are_figures
  c_normal : CallF P w K mg base k "normal" 2 C.normal
  c_power : CallF P w K mg base k "power" 1 C.power
  c_aligned : CallF P w K mg base k "aligned" 2 C.aligned
  c_quotient : CallF P w K mg base k "quotient" 3 C.quotient
  c_units_at : CallF P w K mg base k "units_at" 3 C.units_at
  c_fits : CallF P w K mg base k "fits" 2 C.fits
  c_size_of : CallF P w K mg base k "size_of" 1 C.size_of
  c_is_signed : CallF P w K mg base k "is_signed" 1 C.is_signed
  c_digits_in : CallF P w K mg base k "digits_in" 1 C.digits_in
  c_trimmed : CallF P w K mg base k "trimmed" 2 C.trimmed
  c_suits : CallF P w K mg base k "suits" 2 C.suits
  c__body : CallF P w K mg base k "_body" 2 C._body
  c__with_sign : CallF P w K mg base k "_with_sign" 3 C._with_sign
  c_written : CallF P w K mg base k "written" 2 C.written
  c__halves : CallF P w K mg base k "_halves" 2 C._halves
  c_reading : CallF P w K mg base k "reading" 2 C.reading
  c_holds : CallF P w K mg base k "holds" 2 C.holds
  c_value_of : CallF P w K mg base k "value_of" 2 C.value_of
  c_padded : CallF P w K mg base k "padded" 2 C.padded
  c_can_move : CallF P w K mg base k "can_move" 2 C.can_move
  c_figures_of : CallF P w K mg base k "figures_of" 2 C.figures_of
  c_stored : CallF P w K mg base k "stored" 3 C.stored
  c_cut_to : CallF P w K mg base k "cut_to" 2 C.cut_to
  c_moved : CallF P w K mg base k "moved" 3 C.moved
  c__law_cell : CallF P w K mg base k "_law_cell" 2 C._law_cell
  c__law_rich : CallF P w K mg base k "_law_rich" 2 C._law_rich
  c__law_word : CallF P w K mg base k "_law_word" 3 C._law_word
  c__law_decimal : CallF P w K mg base k "_law_decimal" 2 C._law_decimal
  c__law_number : CallF P w K mg base k "_law_number" 1 C._law_number
  c__law_picture : CallF P w K mg base k "_law_picture" 1 C._law_picture
  c__law_size : CallF P w K mg base k "_law_size" 1 C._law_size
  c__law_figures : CallF P w K mg base k "_law_figures" 2 C._law_figures
  c__law_body : CallF P w K mg base k "_law_body" 2 C._law_body
  c__law_written : CallF P w K mg base k "_law_written" 2 C._law_written
  c__law_units : CallF P w K mg base k "_law_units" 2 C._law_units
  c__law_side : CallF P w K mg base k "_law_side" 1 C._law_side
  c__law_can : CallF P w K mg base k "_law_can" 2 C._law_can
  c__law_content : CallF P w K mg base k "_law_content" 2 C._law_content
  c__law_value : CallF P w K mg base k "_law_value" 3 C._law_value
  c__law_cut : CallF P w K mg base k "_law_cut" 2 C._law_cut
  c__law_pad : CallF P w K mg base k "_law_pad" 2 C._law_pad
  c__law_stored : CallF P w K mg base k "_law_stored" 3 C._law_stored
  c__law_moved : CallF P w K mg base k "_law_moved" 4 C._law_moved
  c_law : CallF P w K mg base k "law" 1 C.law
  f_abs : mg "abs" = none
  f_bool : mg "bool" = none
  f_int : mg "int" = none
  f_isinstance : mg "isinstance" = none
  f_len : mg "len" = none
  f_max : mg "max" = none
  f_min : mg "min" = none
  f_ord : mg "ord" = none
  f_range : mg "range" = none
  f_str : mg "str" = none
  f_tuple : mg "tuple" = none
  f_zip : mg "zip" = none
  k_PERCENT : GC K mg "PERCENT" (.int 37)
  k_FIGURES : GC K mg "FIGURES" (.str [48, 49, 50, 51, 52, 53, 54, 55, 56, 57])
  g_BadPicture : ExK K mg "BadPicture"
  g_TEXTS : mg "TEXTS" = some (.ref (He.ga K "TEXTS"))
  tb_TEXTS : TabOk K w "TEXTS" K_TEXTS
theorem sc_is_printable : FnScope ["value", "character"] ["value"] (defScope s_is_printable) := ⟨rfl, rfl, rfl, by decide +kernel, rfl, by decide +kernel, by decide +kernel⟩
theorem d_is_printable {P : Program} {w : World} {K : PySem.W.Frag} {mg : Str → Option Value} {base : Heap} {k : Nat} {C : Tab} {f : Addr} {cdv : Value} {A : Around} {outer : List Env} {s : Shared} {H : Hp} {E : XK}
    (g : Gs P w K mg base k C) (hk : 2 ≤ k) (hr1 : Room (k + 1) (A.deeper (envOfC "is_printable" (defScope s_is_printable) s.heap.objs.size f cdv))) :
    BD (cxOf (L2.CX P w) P w K mg base ["value", "character"] "is_printable" (defScope s_is_printable) f cdv A outer s H E) (WW.of (K := K) fun c d _ H => E c d H) (defBody s_is_printable) (b_is_printable C) := by
  have sc := sc_is_printable
  have hr := hr1.mono (Nat.le_succ k)
  have hr2 := hr.mono hk
  have tk : Takes (cxOf (L2.CX P w) P w K mg base ["value", "character"] "is_printable" (defScope s_is_printable) f cdv A outer s H E) (fun c d _ H => E c d H) := takes_of rfl rfl rfl rfl
  have po := passes_of (X := cxOf (L2.CX P w) P w K mg base ["value", "character"] "is_printable" (defScope s_is_printable) f cdv A outer s H E) rfl
  have hu := hr.units
  have hv := room65 hr
  have hd := room1 hr
  exact (bd_cons (sd_if (td_not (td_val (ed_callB call_isi rp_isi rfl g.f_isinstance boot_isinstance (ad_cons (ed_var (pv 0)) (ad_cons (ed_ty rfl g.f_str boot_str) ad_nil))))) (bd_one (sd_ret ed_bl)) bd_nil)
    (bd_cons (sd_for po rfl (id_any (ed_var (pv 0))) (gd_name (pg_name (i := 1) sc.nd rfl (Or.inl rfl))) (bd_one (sd_if (td_w (wd_or (td_cmp op_ltD rp_lt (ed_var (pv 1)) (ed_str (c := [32]) rfl) (nomark _)) (wd_or (td_cmp op_gtD rp_gt (ed_var (pv 1)) (ed_str (c := [126]) rfl) (nomark _)) (wd_or1 (td_cmp (op_eqA hu) rp_eq (ed_callB call_ord rp_ord rfl g.f_ord boot_ord (ad_cons (ed_var (pv 1)) ad_nil)) (ed_gc rfl g.k_PERCENT) (nomark _)))))) (bd_one (sd_ret ed_bl)) bd_nil)))
    (bd_one (sd_ret ed_bl))))
theorem sc_are_figures : FnScope ["value", "character"] ["value"] (defScope s_are_figures) := ⟨rfl, rfl, rfl, by decide +kernel, rfl, by decide +kernel, by decide +kernel⟩
theorem d_are_figures {P : Program} {w : World} {K : PySem.W.Frag} {mg : Str → Option Value} {base : Heap} {k : Nat} {C : Tab} {f : Addr} {cdv : Value} {A : Around} {outer : List Env} {s : Shared} {H : Hp} {E : XK}
    (g : Gs P w K mg base k C) (hk : 2 ≤ k) (hr1 : Room (k + 1) (A.deeper (envOfC "are_figures" (defScope s_are_figures) s.heap.objs.size f cdv))) :
    BD (cxOf (L2.CX P w) P w K mg base ["value", "character"] "are_figures" (defScope s_are_figures) f cdv A outer s H E) (WW.of (K := K) fun c d _ H => E c d H) (defBody s_are_figures) (b_are_figures C) := by
  have sc := sc_are_figures
  have hr := hr1.mono (Nat.le_succ k)
  have hr2 := hr.mono hk
  have tk : Takes (cxOf (L2.CX P w) P w K mg base ["value", "character"] "are_figures" (defScope s_are_figures) f cdv A outer s H E) (fun c d _ H => E c d H) := takes_of rfl rfl rfl rfl
  have po := passes_of (X := cxOf (L2.CX P w) P w K mg base ["value", "character"] "are_figures" (defScope s_are_figures) f cdv A outer s H E) rfl
  have hu := hr.units
  have hv := room65 hr
  have hd := room1 hr
  exact (bd_cons (sd_if (td_w (wd_or (td_not (td_val (ed_callB call_isi rp_isi rfl g.f_isinstance boot_isinstance (ad_cons (ed_var (pv 0)) (ad_cons (ed_ty rfl g.f_str boot_str) ad_nil))))) (wd_or1 (td_cmp (op_eqA hu) rp_eq (ed_var (pv 0)) (ed_str (c := []) rfl) (nomark _))))) (bd_one (sd_ret ed_bl)) bd_nil)
    (bd_cons (sd_for po rfl (id_any (ed_var (pv 0))) (gd_name (pg_name (i := 1) sc.nd rfl (Or.inl rfl))) (bd_one (sd_if (td_cmp (op_notInA hv) rp_notIn (ed_var (pv 1)) (ed_gc rfl g.k_FIGURES) rfl) (bd_one (sd_ret ed_bl)) bd_nil)))
    (bd_one (sd_ret ed_bl))))
theorem sc_normal : FnScope ["units", "scale"] ["units", "scale"] (defScope s_normal) := ⟨rfl, rfl, rfl, by decide +kernel, rfl, by decide +kernel, by decide +kernel⟩
theorem d_normal {P : Program} {w : World} {K : PySem.W.Frag} {mg : Str → Option Value} {base : Heap} {k : Nat} {C : Tab} {f : Addr} {cdv : Value} {A : Around} {outer : List Env} {s : Shared} {H : Hp} {E : XK}
    (g : Gs P w K mg base k C) (hk : 2 ≤ k) (hr1 : Room (k + 1) (A.deeper (envOfC "normal" (defScope s_normal) s.heap.objs.size f cdv))) :
    BD (cxOf (L2.CX P w) P w K mg base ["units", "scale"] "normal" (defScope s_normal) f cdv A outer s H E) (WW.of (K := K) fun c d _ H => E c d H) (defBody s_normal) (b_normal C) := by
  have sc := sc_normal
  have hr := hr1.mono (Nat.le_succ k)
  have hr2 := hr.mono hk
  have tk : Takes (cxOf (L2.CX P w) P w K mg base ["units", "scale"] "normal" (defScope s_normal) f cdv A outer s H E) (fun c d _ H => E c d H) := takes_of rfl rfl rfl rfl
  have po := passes_of (X := cxOf (L2.CX P w) P w K mg base ["units", "scale"] "normal" (defScope s_normal) f cdv A outer s H E) rfl
  have hu := hr.units
  have hv := room65 hr
  have hd := room1 hr
  exact (bd_cons (sd_while po (td_w (wd_and (td_cmp op_gtD rp_gt (ed_var (pv 1)) ed_int (nomark _)) (wd_and1 (td_cmp (op_eqA hu) rp_eq (ed_bin op_mulA rp_mulA (ed_bin op_fdivW rp_div (ed_var (pv 0)) ed_int) ed_int) (ed_var (pv 0)) (nomark _))))) (bd_cons (sd_set (i := 0) sc.nd rfl (Or.inl rfl) (ed_bin op_fdivW rp_div (ed_var (pv 0)) ed_int))
    (bd_one (sd_aug (i := 1) sc.nd rfl (Or.inl rfl) ed_int ip_sub rp_isub))))
    (bd_one (sd_ret (ed_tup (ad_cons (ed_var (pv 0)) (ad_cons (ed_var (pv 1)) ad_nil))))))
theorem sc_power : FnScope ["exponent", "result", "_"] ["exponent"] (defScope s_power) := ⟨rfl, rfl, rfl, by decide +kernel, rfl, by decide +kernel, by decide +kernel⟩
theorem d_power {P : Program} {w : World} {K : PySem.W.Frag} {mg : Str → Option Value} {base : Heap} {k : Nat} {C : Tab} {f : Addr} {cdv : Value} {A : Around} {outer : List Env} {s : Shared} {H : Hp} {E : XK}
    (g : Gs P w K mg base k C) (hk : 2 ≤ k) (hr1 : Room (k + 1) (A.deeper (envOfC "power" (defScope s_power) s.heap.objs.size f cdv))) :
    BD (cxOf (L2.CX P w) P w K mg base ["exponent", "result", "_"] "power" (defScope s_power) f cdv A outer s H E) (WW.of (K := K) fun c d _ H => E c d H) (defBody s_power) (b_power C) := by
  have sc := sc_power
  have hr := hr1.mono (Nat.le_succ k)
  have hr2 := hr.mono hk
  have tk : Takes (cxOf (L2.CX P w) P w K mg base ["exponent", "result", "_"] "power" (defScope s_power) f cdv A outer s H E) (fun c d _ H => E c d H) := takes_of rfl rfl rfl rfl
  have po := passes_of (X := cxOf (L2.CX P w) P w K mg base ["exponent", "result", "_"] "power" (defScope s_power) f cdv A outer s H E) rfl
  have hu := hr.units
  have hv := room65 hr
  have hd := room1 hr
  exact (bd_cons (sd_set (i := 1) sc.nd rfl (Or.inl rfl) ed_int)
    (bd_cons (sd_for po rfl (id_range1 rfl g.f_range (ad_cons (ed_var (pv 0)) ad_nil)) (gd_name (pg_name (i := 2) sc.nd rfl (Or.inl rfl))) (bd_one (sd_aug (i := 1) sc.nd rfl (Or.inl rfl) ed_int (ipR iop_mulD) rp_imul)))
    (bd_one (sd_ret (ed_var (pv 1))))))
theorem sc_aligned : FnScope ["number", "scale"] ["number", "scale"] (defScope s_aligned) := ⟨rfl, rfl, rfl, by decide +kernel, rfl, by decide +kernel, by decide +kernel⟩
theorem d_aligned {P : Program} {w : World} {K : PySem.W.Frag} {mg : Str → Option Value} {base : Heap} {k : Nat} {C : Tab} {f : Addr} {cdv : Value} {A : Around} {outer : List Env} {s : Shared} {H : Hp} {E : XK}
    (g : Gs P w K mg base k C) (hk : 2 ≤ k) (hr1 : Room (k + 1) (A.deeper (envOfC "aligned" (defScope s_aligned) s.heap.objs.size f cdv))) :
    BD (cxOf (L2.CX P w) P w K mg base ["number", "scale"] "aligned" (defScope s_aligned) f cdv A outer s H E) (WW.of (K := K) fun c d _ H => E c d H) (defBody s_aligned) (b_aligned C) := by
  have sc := sc_aligned
  have hr := hr1.mono (Nat.le_succ k)
  have hr2 := hr.mono hk
  have tk : Takes (cxOf (L2.CX P w) P w K mg base ["number", "scale"] "aligned" (defScope s_aligned) f cdv A outer s H E) (fun c d _ H => E c d H) := takes_of rfl rfl rfl rfl
  have po := passes_of (X := cxOf (L2.CX P w) P w K mg base ["number", "scale"] "aligned" (defScope s_aligned) f cdv A outer s H E) rfl
  have hu := hr.units
  have hv := room65 hr
  have hd := room1 hr
  exact (bd_one (sd_ret (ed_bin op_mulA rp_mulA (ed_ix ix_seq rp_ix (ed_var (pv 0)) ed_int (fun _ _ => rfl)) (ed_call g.c_power hr tk rfl (ad_cons (ed_bin op_sub rp_sub (ed_var (pv 1)) (ed_ix ix_seq rp_ix (ed_var (pv 0)) ed_int (fun _ _ => rfl))) ad_nil) (len_cons len_nil)))))
theorem sc_quotient : FnScope ["above", "below", "is_rounded", "size"] ["above", "below", "is_rounded"] (defScope s_quotient) := ⟨rfl, rfl, rfl, by decide +kernel, rfl, by decide +kernel, by decide +kernel⟩
theorem d_quotient {P : Program} {w : World} {K : PySem.W.Frag} {mg : Str → Option Value} {base : Heap} {k : Nat} {C : Tab} {f : Addr} {cdv : Value} {A : Around} {outer : List Env} {s : Shared} {H : Hp} {E : XK}
    (g : Gs P w K mg base k C) (hk : 2 ≤ k) (hr1 : Room (k + 1) (A.deeper (envOfC "quotient" (defScope s_quotient) s.heap.objs.size f cdv))) :
    BD (cxOf (L2.CX P w) P w K mg base ["above", "below", "is_rounded", "size"] "quotient" (defScope s_quotient) f cdv A outer s H E) (WW.of (K := K) fun c d _ H => E c d H) (defBody s_quotient) (b_quotient C) := by
  have sc := sc_quotient
  have hr := hr1.mono (Nat.le_succ k)
  have hr2 := hr.mono hk
  have tk : Takes (cxOf (L2.CX P w) P w K mg base ["above", "below", "is_rounded", "size"] "quotient" (defScope s_quotient) f cdv A outer s H E) (fun c d _ H => E c d H) := takes_of rfl rfl rfl rfl
  have po := passes_of (X := cxOf (L2.CX P w) P w K mg base ["above", "below", "is_rounded", "size"] "quotient" (defScope s_quotient) f cdv A outer s H E) rfl
  have hu := hr.units
  have hv := room65 hr
  have hd := room1 hr
  exact (bd_cons (sd_set (i := 3) sc.nd rfl (Or.inl rfl) (ed_bin op_fdivW rp_div (ed_callB call_abs rp_abs rfl g.f_abs boot_abs (ad_cons (ed_var (pv 0)) ad_nil)) (ed_callB call_abs rp_abs rfl g.f_abs boot_abs (ad_cons (ed_var (pv 1)) ad_nil))))
    (bd_cons (sd_if (td_w (wd_and (td_val (ed_var (pv 2))) (wd_and1 (td_cmp op_geD rp_ge (ed_bin op_mulA rp_mulA ed_int (ed_bin op_sub rp_sub (ed_callB call_abs rp_abs rfl g.f_abs boot_abs (ad_cons (ed_var (pv 0)) ad_nil)) (ed_bin op_mulA rp_mulA (ed_var (pv 3)) (ed_callB call_abs rp_abs rfl g.f_abs boot_abs (ad_cons (ed_var (pv 1)) ad_nil))))) (ed_callB call_abs rp_abs rfl g.f_abs boot_abs (ad_cons (ed_var (pv 1)) ad_nil)) (nomark _))))) (bd_one (sd_aug (i := 3) sc.nd rfl (Or.inl rfl) ed_int (ipR iop_addD) rp_iadd)) bd_nil)
    (bd_cons (sd_if (td_cmp (op_neA hu) rp_ne (ed_cmp op_ltD rp_lt (ed_var (pv 0)) ed_int (nomark _)) (ed_cmp op_ltD rp_lt (ed_var (pv 1)) ed_int (nomark _)) (nomark _)) (bd_one (sd_ret (ed_un un_neg rp_neg (ed_var (pv 3))))) bd_nil)
    (bd_one (sd_ret (ed_var (pv 3)))))))
theorem sc_units_at : FnScope ["a", "scale", "is_rounded"] ["a", "scale", "is_rounded"] (defScope s_units_at) := ⟨rfl, rfl, rfl, by decide +kernel, rfl, by decide +kernel, by decide +kernel⟩
theorem d_units_at {P : Program} {w : World} {K : PySem.W.Frag} {mg : Str → Option Value} {base : Heap} {k : Nat} {C : Tab} {f : Addr} {cdv : Value} {A : Around} {outer : List Env} {s : Shared} {H : Hp} {E : XK}
    (g : Gs P w K mg base k C) (hk : 2 ≤ k) (hr1 : Room (k + 1) (A.deeper (envOfC "units_at" (defScope s_units_at) s.heap.objs.size f cdv))) :
    BD (cxOf (L2.CX P w) P w K mg base ["a", "scale", "is_rounded"] "units_at" (defScope s_units_at) f cdv A outer s H E) (WW.of (K := K) fun c d _ H => E c d H) (defBody s_units_at) (b_units_at C) := by
  have sc := sc_units_at
  have hr := hr1.mono (Nat.le_succ k)
  have hr2 := hr.mono hk
  have tk : Takes (cxOf (L2.CX P w) P w K mg base ["a", "scale", "is_rounded"] "units_at" (defScope s_units_at) f cdv A outer s H E) (fun c d _ H => E c d H) := takes_of rfl rfl rfl rfl
  have po := passes_of (X := cxOf (L2.CX P w) P w K mg base ["a", "scale", "is_rounded"] "units_at" (defScope s_units_at) f cdv A outer s H E) rfl
  have hu := hr.units
  have hv := room65 hr
  have hd := room1 hr
  exact (bd_cons (sd_if (td_cmp op_leD rp_le (ed_ix ix_seq rp_ix (ed_var (pv 0)) ed_int (fun _ _ => rfl)) (ed_var (pv 1)) (nomark _)) (bd_one (sd_ret (ed_call g.c_aligned hr tk rfl (ad_cons (ed_var (pv 0)) (ad_cons (ed_var (pv 1)) ad_nil)) (len_cons (len_cons len_nil))))) bd_nil)
    (bd_one (sd_ret (ed_call g.c_quotient hr tk rfl (ad_cons (ed_ix ix_seq rp_ix (ed_var (pv 0)) ed_int (fun _ _ => rfl)) (ad_cons (ed_call g.c_power hr tk rfl (ad_cons (ed_bin op_sub rp_sub (ed_ix ix_seq rp_ix (ed_var (pv 0)) ed_int (fun _ _ => rfl)) (ed_var (pv 1))) ad_nil) (len_cons len_nil)) (ad_cons (ed_var (pv 2)) ad_nil))) (len_cons (len_cons (len_cons len_nil)))))))
theorem sc_fits : FnScope ["units", "digits"] ["units", "digits"] (defScope s_fits) := ⟨rfl, rfl, rfl, by decide +kernel, rfl, by decide +kernel, by decide +kernel⟩
theorem d_fits {P : Program} {w : World} {K : PySem.W.Frag} {mg : Str → Option Value} {base : Heap} {k : Nat} {C : Tab} {f : Addr} {cdv : Value} {A : Around} {outer : List Env} {s : Shared} {H : Hp} {E : XK}
    (g : Gs P w K mg base k C) (hk : 2 ≤ k) (hr1 : Room (k + 1) (A.deeper (envOfC "fits" (defScope s_fits) s.heap.objs.size f cdv))) :
    BD (cxOf (L2.CX P w) P w K mg base ["units", "digits"] "fits" (defScope s_fits) f cdv A outer s H E) (WW.of (K := K) fun c d _ H => E c d H) (defBody s_fits) (b_fits C) := by
  have sc := sc_fits
  have hr := hr1.mono (Nat.le_succ k)
  have hr2 := hr.mono hk
  have tk : Takes (cxOf (L2.CX P w) P w K mg base ["units", "digits"] "fits" (defScope s_fits) f cdv A outer s H E) (fun c d _ H => E c d H) := takes_of rfl rfl rfl rfl
  have po := passes_of (X := cxOf (L2.CX P w) P w K mg base ["units", "digits"] "fits" (defScope s_fits) f cdv A outer s H E) rfl
  have hu := hr.units
  have hv := room65 hr
  have hd := room1 hr
  exact (bd_one (sd_ret (ed_cmp op_ltD rp_lt (ed_callB call_abs rp_abs rfl g.f_abs boot_abs (ad_cons (ed_var (pv 0)) ad_nil)) (ed_call g.c_power hr tk rfl (ad_cons (ed_var (pv 1)) ad_nil) (len_cons len_nil)) (nomark _))))
theorem sc_size_of : FnScope ["picture"] ["picture"] (defScope s_size_of) := ⟨rfl, rfl, rfl, by decide +kernel, rfl, by decide +kernel, by decide +kernel⟩
theorem d_size_of {P : Program} {w : World} {K : PySem.W.Frag} {mg : Str → Option Value} {base : Heap} {k : Nat} {C : Tab} {f : Addr} {cdv : Value} {A : Around} {outer : List Env} {s : Shared} {H : Hp} {E : XK}
    (g : Gs P w K mg base k C) (hk : 2 ≤ k) (hr1 : Room (k + 1) (A.deeper (envOfC "size_of" (defScope s_size_of) s.heap.objs.size f cdv))) :
    BD (cxOf (L2.CX P w) P w K mg base ["picture"] "size_of" (defScope s_size_of) f cdv A outer s H E) (WW.of (K := K) fun c d _ H => E c d H) (defBody s_size_of) (b_size_of C) := by
  have sc := sc_size_of
  have hr := hr1.mono (Nat.le_succ k)
  have hr2 := hr.mono hk
  have tk : Takes (cxOf (L2.CX P w) P w K mg base ["picture"] "size_of" (defScope s_size_of) f cdv A outer s H E) (fun c d _ H => E c d H) := takes_of rfl rfl rfl rfl
  have po := passes_of (X := cxOf (L2.CX P w) P w K mg base ["picture"] "size_of" (defScope s_size_of) f cdv A outer s H E) rfl
  have hu := hr.units
  have hv := room65 hr
  have hd := room1 hr
  exact (bd_cons (sd_if (td_cmp (op_eqA hu) rp_eq (ed_ix ix_seq rp_ix (ed_var (pv 0)) ed_int (fun _ _ => rfl)) (ed_str (c := [116, 101, 120, 116]) rfl) (nomark _)) (bd_one (sd_ret (ed_ix ix_seq rp_ix (ed_var (pv 0)) ed_int (fun _ _ => rfl)))) bd_nil)
    (bd_cons (sd_if (td_cmp (op_eqA hu) rp_eq (ed_ix ix_seq rp_ix (ed_var (pv 0)) ed_int (fun _ _ => rfl)) (ed_str (c := [110, 117, 109, 98, 101, 114]) rfl) (nomark _)) (bd_one (sd_ret (ed_bin op_addD rp_add (ed_bin op_addD rp_add (ed_callTy (call_int_str.or call_int1) rp_intA rfl g.f_int boot_int (ad_cons (ed_ix ix_seq rp_ix (ed_var (pv 0)) ed_int (fun _ _ => rfl)) ad_nil)) (ed_ix ix_seq rp_ix (ed_var (pv 0)) ed_int (fun _ _ => rfl))) (ed_ix ix_seq rp_ix (ed_var (pv 0)) ed_int (fun _ _ => rfl))))) bd_nil)
    (bd_one (sd_ret (ed_bin op_addD rp_add (ed_callB call_len rp_len rfl g.f_len boot_len (ad_cons (ed_ix ix_seq rp_ix (ed_var (pv 0)) ed_int (fun _ _ => rfl)) ad_nil)) (ed_callB call_len rp_len rfl g.f_len boot_len (ad_cons (ed_sm PySem.F.slot_str_lstrip PySem.F.type_str_lstrip mt_lstripChars rp_lstrip (ed_ix ix_seq rp_ix (ed_var (pv 0)) ed_int (fun _ _ => rfl)) (ad_cons (ed_str (c := [46]) rfl) ad_nil)) ad_nil)))))))
theorem sc_is_signed : FnScope ["picture"] ["picture"] (defScope s_is_signed) := ⟨rfl, rfl, rfl, by decide +kernel, rfl, by decide +kernel, by decide +kernel⟩
theorem d_is_signed {P : Program} {w : World} {K : PySem.W.Frag} {mg : Str → Option Value} {base : Heap} {k : Nat} {C : Tab} {f : Addr} {cdv : Value} {A : Around} {outer : List Env} {s : Shared} {H : Hp} {E : XK}
    (g : Gs P w K mg base k C) (hk : 2 ≤ k) (hr1 : Room (k + 1) (A.deeper (envOfC "is_signed" (defScope s_is_signed) s.heap.objs.size f cdv))) :
    BD (cxOf (L2.CX P w) P w K mg base ["picture"] "is_signed" (defScope s_is_signed) f cdv A outer s H E) (WW.of (K := K) fun c d _ H => E c d H) (defBody s_is_signed) (b_is_signed C) := by
  have sc := sc_is_signed
  have hr := hr1.mono (Nat.le_succ k)
  have hr2 := hr.mono hk
  have tk : Takes (cxOf (L2.CX P w) P w K mg base ["picture"] "is_signed" (defScope s_is_signed) f cdv A outer s H E) (fun c d _ H => E c d H) := takes_of rfl rfl rfl rfl
  have po := passes_of (X := cxOf (L2.CX P w) P w K mg base ["picture"] "is_signed" (defScope s_is_signed) f cdv A outer s H E) rfl
  have hu := hr.units
  have hv := room65 hr
  have hd := room1 hr
  exact (bd_cons (sd_if (td_cmp (op_eqA hu) rp_eq (ed_ix ix_seq rp_ix (ed_var (pv 0)) ed_int (fun _ _ => rfl)) (ed_str (c := [110, 117, 109, 98, 101, 114]) rfl) (nomark _)) (bd_one (sd_ret (ed_ix ix_seq rp_ix (ed_var (pv 0)) ed_int (fun _ _ => rfl)))) bd_nil)
    (bd_one (sd_ret (ed_and (ed_cmp (op_eqA hu) rp_eq (ed_ix ix_seq rp_ix (ed_var (pv 0)) ed_int (fun _ _ => rfl)) (ed_str (c := [101, 100, 105, 116, 101, 100]) rfl) (nomark _)) (ed_one (ed_cmp (op_neA hu) rp_ne (ed_ix ix_seq rp_ix (ed_var (pv 0)) ed_int (fun _ _ => rfl)) (ed_str (c := []) rfl) (nomark _)))))))
theorem sc_digits_in : FnScope ["picture"] ["picture"] (defScope s_digits_in) := ⟨rfl, rfl, rfl, by decide +kernel, rfl, by decide +kernel, by decide +kernel⟩
theorem d_digits_in {P : Program} {w : World} {K : PySem.W.Frag} {mg : Str → Option Value} {base : Heap} {k : Nat} {C : Tab} {f : Addr} {cdv : Value} {A : Around} {outer : List Env} {s : Shared} {H : Hp} {E : XK}
    (g : Gs P w K mg base k C) (hk : 2 ≤ k) (hr1 : Room (k + 1) (A.deeper (envOfC "digits_in" (defScope s_digits_in) s.heap.objs.size f cdv))) :
    BD (cxOf (L2.CX P w) P w K mg base ["picture"] "digits_in" (defScope s_digits_in) f cdv A outer s H E) (WW.of (K := K) fun c d _ H => E c d H) (defBody s_digits_in) (b_digits_in C) := by
  have sc := sc_digits_in
  have hr := hr1.mono (Nat.le_succ k)
  have hr2 := hr.mono hk
  have tk : Takes (cxOf (L2.CX P w) P w K mg base ["picture"] "digits_in" (defScope s_digits_in) f cdv A outer s H E) (fun c d _ H => E c d H) := takes_of rfl rfl rfl rfl
  have po := passes_of (X := cxOf (L2.CX P w) P w K mg base ["picture"] "digits_in" (defScope s_digits_in) f cdv A outer s H E) rfl
  have hu := hr.units
  have hv := room65 hr
  have hd := room1 hr
  exact (bd_cons (sd_if (td_cmp (op_eqA hu) rp_eq (ed_ix ix_seq rp_ix (ed_var (pv 0)) ed_int (fun _ _ => rfl)) (ed_str (c := [116, 101, 120, 116]) rfl) (nomark _)) (bd_one (sd_raise0 g.g_BadPicture rfl tk rfl)) bd_nil)
    (bd_one (sd_ret (ed_tup (ad_cons (ed_ix ix_seq rp_ix (ed_var (pv 0)) ed_int (fun _ _ => rfl)) (ad_cons (ed_ix ix_seq rp_ix (ed_var (pv 0)) ed_int (fun _ _ => rfl)) ad_nil))))))
theorem sc_trimmed : FnScope ["picture", "units", "size", "limit", "whole", "fraction"] ["picture", "units"] (defScope s_trimmed) := ⟨rfl, rfl, rfl, by decide +kernel, rfl, by decide +kernel, by decide +kernel⟩
theorem d_trimmed {P : Program} {w : World} {K : PySem.W.Frag} {mg : Str → Option Value} {base : Heap} {k : Nat} {C : Tab} {f : Addr} {cdv : Value} {A : Around} {outer : List Env} {s : Shared} {H : Hp} {E : XK}
    (g : Gs P w K mg base k C) (hk : 2 ≤ k) (hr1 : Room (k + 1) (A.deeper (envOfC "trimmed" (defScope s_trimmed) s.heap.objs.size f cdv))) :
    BD (cxOf (L2.CX P w) P w K mg base ["picture", "units", "size", "limit", "whole", "fraction"] "trimmed" (defScope s_trimmed) f cdv A outer s H E) (WW.of (K := K) fun c d _ H => E c d H) (defBody s_trimmed) (b_trimmed C) := by
  have sc := sc_trimmed
  have hr := hr1.mono (Nat.le_succ k)
  have hr2 := hr.mono hk
  have tk : Takes (cxOf (L2.CX P w) P w K mg base ["picture", "units", "size", "limit", "whole", "fraction"] "trimmed" (defScope s_trimmed) f cdv A outer s H E) (fun c d _ H => E c d H) := takes_of rfl rfl rfl rfl
  have po := passes_of (X := cxOf (L2.CX P w) P w K mg base ["picture", "units", "size", "limit", "whole", "fraction"] "trimmed" (defScope s_trimmed) f cdv A outer s H E) rfl
  have hu := hr.units
  have hv := room65 hr
  have hd := room1 hr
  exact (bd_cons (sd_asg (ed_call g.c_digits_in hr tk rfl (ad_cons (ed_var (pv 0)) ad_nil) (len_cons len_nil)) (gd_tup rfl (gds_cons (gd_name (pg_name (i := 4) sc.nd rfl (Or.inl rfl))) (gds_cons (gd_name (pg_name (i := 5) sc.nd rfl (Or.inl rfl))) gds_nil))))
    (bd_cons (sd_set (i := 2) sc.nd rfl (Or.inl rfl) (ed_callB call_abs rp_abs rfl g.f_abs boot_abs (ad_cons (ed_var (pv 1)) ad_nil)))
    (bd_cons (sd_set (i := 3) sc.nd rfl (Or.inl rfl) (ed_call g.c_power hr tk rfl (ad_cons (ed_bin op_addD rp_add (ed_var (pv 4)) (ed_var (pv 5))) ad_nil) (len_cons len_nil)))
    (bd_cons (sd_aug (i := 2) sc.nd rfl (Or.inl rfl) (ed_bin op_mulA rp_mulA (ed_bin op_fdivW rp_div (ed_var (pv 2)) (ed_var (pv 3))) (ed_var (pv 3))) ip_sub rp_isub)
    (bd_cons (sd_if (td_w (wd_and (td_cmp op_ltD rp_lt (ed_var (pv 1)) ed_int (nomark _)) (wd_and1 (td_val (ed_call g.c_is_signed hr tk rfl (ad_cons (ed_var (pv 0)) ad_nil) (len_cons len_nil)))))) (bd_one (sd_ret (ed_un un_neg rp_neg (ed_var (pv 2))))) bd_nil)
    (bd_one (sd_ret (ed_var (pv 2)))))))))
theorem sc_suits : FnScope ["picture", "units", "whole", "fraction"] ["picture", "units"] (defScope s_suits) := ⟨rfl, rfl, rfl, by decide +kernel, rfl, by decide +kernel, by decide +kernel⟩
theorem d_suits {P : Program} {w : World} {K : PySem.W.Frag} {mg : Str → Option Value} {base : Heap} {k : Nat} {C : Tab} {f : Addr} {cdv : Value} {A : Around} {outer : List Env} {s : Shared} {H : Hp} {E : XK}
    (g : Gs P w K mg base k C) (hk : 2 ≤ k) (hr1 : Room (k + 1) (A.deeper (envOfC "suits" (defScope s_suits) s.heap.objs.size f cdv))) :
    BD (cxOf (L2.CX P w) P w K mg base ["picture", "units", "whole", "fraction"] "suits" (defScope s_suits) f cdv A outer s H E) (WW.of (K := K) fun c d _ H => E c d H) (defBody s_suits) (b_suits C) := by
  have sc := sc_suits
  have hr := hr1.mono (Nat.le_succ k)
  have hr2 := hr.mono hk
  have tk : Takes (cxOf (L2.CX P w) P w K mg base ["picture", "units", "whole", "fraction"] "suits" (defScope s_suits) f cdv A outer s H E) (fun c d _ H => E c d H) := takes_of rfl rfl rfl rfl
  have po := passes_of (X := cxOf (L2.CX P w) P w K mg base ["picture", "units", "whole", "fraction"] "suits" (defScope s_suits) f cdv A outer s H E) rfl
  have hu := hr.units
  have hv := room65 hr
  have hd := room1 hr
  exact (bd_cons (sd_asg (ed_call g.c_digits_in hr tk rfl (ad_cons (ed_var (pv 0)) ad_nil) (len_cons len_nil)) (gd_tup rfl (gds_cons (gd_name (pg_name (i := 2) sc.nd rfl (Or.inl rfl))) (gds_cons (gd_name (pg_name (i := 3) sc.nd rfl (Or.inl rfl))) gds_nil))))
    (bd_one (sd_ret (ed_and (ed_call g.c_fits hr tk rfl (ad_cons (ed_var (pv 1)) (ad_cons (ed_bin op_addD rp_add (ed_var (pv 2)) (ed_var (pv 3))) ad_nil)) (len_cons (len_cons len_nil))) (ed_one (ed_or (ed_cmp op_geD rp_ge (ed_var (pv 1)) ed_int (nomark _)) (ed_one (ed_call g.c_is_signed hr tk rfl (ad_cons (ed_var (pv 0)) ad_nil) (len_cons len_nil)))))))))
theorem sc__body : FnScope ["marks", "figures", "hiding", "filler", "parts", "at", "mark", "figure"] ["marks", "figures"] (defScope s__body) := ⟨rfl, rfl, rfl, by decide +kernel, rfl, by decide +kernel, by decide +kernel⟩
theorem d__body {P : Program} {w : World} {K : PySem.W.Frag} {mg : Str → Option Value} {base : Heap} {k : Nat} {C : Tab} {f : Addr} {cdv : Value} {A : Around} {outer : List Env} {s : Shared} {H : Hp} {E : XK}
    (g : Gs P w K mg base k C) (hk : 2 ≤ k) (hr1 : Room (k + 1) (A.deeper (envOfC "_body" (defScope s__body) s.heap.objs.size f cdv))) :
    BD (cxOf (L2.CX P w) P w K mg base ["marks", "figures", "hiding", "filler", "parts", "at", "mark", "figure"] "_body" (defScope s__body) f cdv A outer s H E) (WW.of (K := K) fun c d _ H => E c d H) (defBody s__body) (b__body C) := by
  have sc := sc__body
  have hr := hr1.mono (Nat.le_succ k)
  have hr2 := hr.mono hk
  have tk : Takes (cxOf (L2.CX P w) P w K mg base ["marks", "figures", "hiding", "filler", "parts", "at", "mark", "figure"] "_body" (defScope s__body) f cdv A outer s H E) (fun c d _ H => E c d H) := takes_of rfl rfl rfl rfl
  have po := passes_of (X := cxOf (L2.CX P w) P w K mg base ["marks", "figures", "hiding", "filler", "parts", "at", "mark", "figure"] "_body" (defScope s__body) f cdv A outer s H E) rfl
  have hu := hr.units
  have hv := room65 hr
  have hd := room1 hr
  exact (bd_cons (sd_set (i := 2) sc.nd rfl (Or.inl rfl) (ed_cmp (op_neA hu) rp_ne (ed_ix ix_seq rp_ix (ed_var (pv 0)) ed_int (fun _ _ => rfl)) (ed_str (c := [57]) rfl) (nomark _)))
    (bd_cons (sd_set (i := 3) sc.nd rfl (Or.inl rfl) (ed_if (td_cmp (op_eqA hu) rp_eq (ed_ix ix_seq rp_ix (ed_var (pv 0)) ed_int (fun _ _ => rfl)) (ed_str (c := [42]) rfl) (nomark _)) (ed_str (c := [42]) rfl) (ed_str (c := [32]) rfl)))
    (bd_cons (sd_set (i := 4) sc.nd rfl (Or.inl rfl) (ed_loc ad_nil))
    (bd_cons (sd_set (i := 5) sc.nd rfl (Or.inl rfl) ed_int)
    (bd_cons (sd_for po rfl (id_any (ed_var (pv 0))) (gd_name (pg_name (i := 6) sc.nd rfl (Or.inl rfl))) (bd_one (sd_if (td_cmp (op_eqA hu) rp_eq (ed_var (pv 6)) (ed_str (c := [46]) rfl) (nomark _)) (bd_cons (sd_set (i := 2) sc.nd rfl (Or.inl rfl) ed_bl)
    (bd_one (sd_expr (ed_lm PySem.F.slot_list_append PySem.F.type_list_append mt_append rp_append (ed_var (pv 4)) (ad_cons (ed_var (pv 6)) ad_nil))))) (bd_one (sd_if (td_tin g.tb_TEXTS (ed_var (pv 6)) (ed_glo rfl g.g_TEXTS) rfl) (bd_one (sd_expr (ed_lm PySem.F.slot_list_append PySem.F.type_list_append mt_append rp_append (ed_var (pv 4)) (ad_cons (ed_if (td_val (ed_var (pv 2))) (ed_var (pv 3)) (ed_tget g.tb_TEXTS (ed_glo rfl g.g_TEXTS) (ed_var (pv 6)) (fun _ _ => rfl))) ad_nil)))) (bd_cons (sd_set (i := 7) sc.nd rfl (Or.inl rfl) (ed_ix ix_seq rp_ix (ed_var (pv 1)) (ed_var (pv 5)) (fun _ _ => rfl)))
    (bd_cons (sd_aug (i := 5) sc.nd rfl (Or.inl rfl) ed_int (ipR iop_addD) rp_iadd)
    (bd_cons (sd_set (i := 2) sc.nd rfl (Or.inl rfl) (ed_and (ed_var (pv 2)) (ed_and (ed_cmp (op_neA hu) rp_ne (ed_var (pv 6)) (ed_str (c := [57]) rfl) (nomark _)) (ed_one (ed_cmp (op_eqA hu) rp_eq (ed_var (pv 7)) (ed_str (c := [48]) rfl) (nomark _))))))
    (bd_one (sd_expr (ed_lm PySem.F.slot_list_append PySem.F.type_list_append mt_append rp_append (ed_var (pv 4)) (ad_cons (ed_if (td_val (ed_var (pv 2))) (ed_var (pv 3)) (ed_var (pv 7))) ad_nil))))))))))))
    (bd_one (sd_ret (ed_sm PySem.F.slot_str_join PySem.F.type_str_join mt_join rp_join (ed_str (c := []) rfl) (ad_cons (ed_var (pv 4)) ad_nil)))))))))
theorem sc__with_sign : FnScope ["body", "sign", "is_negative", "mark"] ["body", "sign", "is_negative"] (defScope s__with_sign) := ⟨rfl, rfl, rfl, by decide +kernel, rfl, by decide +kernel, by decide +kernel⟩
theorem d__with_sign {P : Program} {w : World} {K : PySem.W.Frag} {mg : Str → Option Value} {base : Heap} {k : Nat} {C : Tab} {f : Addr} {cdv : Value} {A : Around} {outer : List Env} {s : Shared} {H : Hp} {E : XK}
    (g : Gs P w K mg base k C) (hk : 2 ≤ k) (hr1 : Room (k + 1) (A.deeper (envOfC "_with_sign" (defScope s__with_sign) s.heap.objs.size f cdv))) :
    BD (cxOf (L2.CX P w) P w K mg base ["body", "sign", "is_negative", "mark"] "_with_sign" (defScope s__with_sign) f cdv A outer s H E) (WW.of (K := K) fun c d _ H => E c d H) (defBody s__with_sign) (b__with_sign C) := by
  have sc := sc__with_sign
  have hr := hr1.mono (Nat.le_succ k)
  have hr2 := hr.mono hk
  have tk : Takes (cxOf (L2.CX P w) P w K mg base ["body", "sign", "is_negative", "mark"] "_with_sign" (defScope s__with_sign) f cdv A outer s H E) (fun c d _ H => E c d H) := takes_of rfl rfl rfl rfl
  have po := passes_of (X := cxOf (L2.CX P w) P w K mg base ["body", "sign", "is_negative", "mark"] "_with_sign" (defScope s__with_sign) f cdv A outer s H E) rfl
  have hu := hr.units
  have hv := room65 hr
  have hd := room1 hr
  exact (bd_cons (sd_if (td_cmp (op_eqA hu) rp_eq (ed_var (pv 1)) (ed_str (c := []) rfl) (nomark _)) (bd_one (sd_ret (ed_var (pv 0)))) bd_nil)
    (bd_cons (sd_if (td_w (wd_or (td_cmp (op_eqA hu) rp_eq (ed_var (pv 1)) (ed_str (c := [99, 114]) rfl) (nomark _)) (wd_or1 (td_cmp (op_eqA hu) rp_eq (ed_var (pv 1)) (ed_str (c := [100, 98]) rfl) (nomark _))))) (bd_one (sd_ret (ed_bin op_addD rp_add (ed_var (pv 0)) (ed_if (td_val (ed_var (pv 2))) (ed_sm0 PySem.F.slot_str_upper PySem.F.type_str_upper mt_upper rp_upper (ed_var (pv 1))) (ed_str (c := [32, 32]) rfl))))) bd_nil)
    (bd_cons (sd_set (i := 3) sc.nd rfl (Or.inl rfl) (ed_if (td_val (ed_var (pv 2))) (ed_str (c := [45]) rfl) (ed_str (c := [32]) rfl)))
    (bd_cons (sd_if (td_w (wd_and (td_not (td_val (ed_var (pv 2)))) (wd_and1 (td_val (ed_sm PySem.F.slot_str_endswith PySem.F.type_str_endswith mt_endswith rp_ends (ed_var (pv 1)) (ad_cons (ed_str (c := [43]) rfl) ad_nil)))))) (bd_one (sd_set (i := 3) sc.nd rfl (Or.inl rfl) (ed_str (c := [43]) rfl))) bd_nil)
    (bd_cons (sd_if (td_val (ed_sm PySem.F.slot_str_startswith PySem.F.type_str_startswith mt_startswith rp_starts (ed_var (pv 1)) (ad_cons (ed_str (c := [46]) rfl) ad_nil))) (bd_one (sd_ret (ed_bin op_addD rp_add (ed_var (pv 0)) (ed_var (pv 3))))) bd_nil)
    (bd_one (sd_ret (ed_bin op_addD rp_add (ed_var (pv 3)) (ed_var (pv 0))))))))))
theorem sc_written : FnScope ["picture", "units", "figures", "whole", "fraction"] ["picture", "units"] (defScope s_written) := ⟨rfl, rfl, rfl, by decide +kernel, rfl, by decide +kernel, by decide +kernel⟩
theorem d_written {P : Program} {w : World} {K : PySem.W.Frag} {mg : Str → Option Value} {base : Heap} {k : Nat} {C : Tab} {f : Addr} {cdv : Value} {A : Around} {outer : List Env} {s : Shared} {H : Hp} {E : XK}
    (g : Gs P w K mg base k C) (hk : 2 ≤ k) (hr1 : Room (k + 1) (A.deeper (envOfC "written" (defScope s_written) s.heap.objs.size f cdv))) :
    BD (cxOf (L2.CX P w) P w K mg base ["picture", "units", "figures", "whole", "fraction"] "written" (defScope s_written) f cdv A outer s H E) (WW.of (K := K) fun c d _ H => E c d H) (defBody s_written) (b_written C) := by
  have sc := sc_written
  have hr := hr1.mono (Nat.le_succ k)
  have hr2 := hr.mono hk
  have tk : Takes (cxOf (L2.CX P w) P w K mg base ["picture", "units", "figures", "whole", "fraction"] "written" (defScope s_written) f cdv A outer s H E) (fun c d _ H => E c d H) := takes_of rfl rfl rfl rfl
  have po := passes_of (X := cxOf (L2.CX P w) P w K mg base ["picture", "units", "figures", "whole", "fraction"] "written" (defScope s_written) f cdv A outer s H E) rfl
  have hu := hr.units
  have hv := room65 hr
  have hd := room1 hr
  exact (bd_cons (sd_if (td_not (td_val (ed_call g.c_suits hr tk rfl (ad_cons (ed_var (pv 0)) (ad_cons (ed_var (pv 1)) ad_nil)) (len_cons (len_cons len_nil))))) (bd_one (sd_raise0 g.g_BadPicture rfl tk rfl)) bd_nil)
    (bd_cons (sd_asg (ed_call g.c_digits_in hr tk rfl (ad_cons (ed_var (pv 0)) ad_nil) (len_cons len_nil)) (gd_tup rfl (gds_cons (gd_name (pg_name (i := 3) sc.nd rfl (Or.inl rfl))) (gds_cons (gd_name (pg_name (i := 4) sc.nd rfl (Or.inl rfl))) gds_nil))))
    (bd_cons (sd_set (i := 2) sc.nd rfl (Or.inl rfl) (ed_sm PySem.F.slot_str_zfill PySem.F.type_str_zfill mt_zfill rp_zfill (ed_callTy call_str_int rp_str rfl g.f_str boot_str (ad_cons (ed_callB call_abs rp_abs rfl g.f_abs boot_abs (ad_cons (ed_var (pv 1)) ad_nil)) ad_nil)) (ad_cons (ed_bin op_addD rp_add (ed_var (pv 3)) (ed_var (pv 4))) ad_nil)))
    (bd_cons (sd_if (td_cmp (op_eqA hu) rp_eq (ed_ix ix_seq rp_ix (ed_var (pv 0)) ed_int (fun _ _ => rfl)) (ed_str (c := [101, 100, 105, 116, 101, 100]) rfl) (nomark _)) (bd_one (sd_ret (ed_call g.c__with_sign hr tk rfl (ad_cons (ed_call g.c__body hr tk rfl (ad_cons (ed_ix ix_seq rp_ix (ed_var (pv 0)) ed_int (fun _ _ => rfl)) (ad_cons (ed_var (pv 2)) ad_nil)) (len_cons (len_cons len_nil))) (ad_cons (ed_ix ix_seq rp_ix (ed_var (pv 0)) ed_int (fun _ _ => rfl)) (ad_cons (ed_cmp op_ltD rp_lt (ed_var (pv 1)) ed_int (nomark _)) ad_nil))) (len_cons (len_cons (len_cons len_nil)))))) bd_nil)
    (bd_cons (sd_if (td_not (td_val (ed_ix ix_seq rp_ix (ed_var (pv 0)) ed_int (fun _ _ => rfl)))) (bd_one (sd_ret (ed_var (pv 2)))) bd_nil)
    (bd_one (sd_ret (ed_bin op_addD rp_add (ed_if (td_cmp op_ltD rp_lt (ed_var (pv 1)) ed_int (nomark _)) (ed_str (c := [45]) rfl) (ed_str (c := [43]) rfl)) (ed_var (pv 2))))))))))
theorem sc__halves : FnScope ["picture", "text", "sign"] ["picture", "text"] (defScope s__halves) := ⟨rfl, rfl, rfl, by decide +kernel, rfl, by decide +kernel, by decide +kernel⟩
theorem d__halves {P : Program} {w : World} {K : PySem.W.Frag} {mg : Str → Option Value} {base : Heap} {k : Nat} {C : Tab} {f : Addr} {cdv : Value} {A : Around} {outer : List Env} {s : Shared} {H : Hp} {E : XK}
    (g : Gs P w K mg base k C) (hk : 2 ≤ k) (hr1 : Room (k + 1) (A.deeper (envOfC "_halves" (defScope s__halves) s.heap.objs.size f cdv))) :
    BD (cxOf (L2.CX P w) P w K mg base ["picture", "text", "sign"] "_halves" (defScope s__halves) f cdv A outer s H E) (WW.of (K := K) fun c d _ H => E c d H) (defBody s__halves) (b__halves C) := by
  have sc := sc__halves
  have hr := hr1.mono (Nat.le_succ k)
  have hr2 := hr.mono hk
  have tk : Takes (cxOf (L2.CX P w) P w K mg base ["picture", "text", "sign"] "_halves" (defScope s__halves) f cdv A outer s H E) (fun c d _ H => E c d H) := takes_of rfl rfl rfl rfl
  have po := passes_of (X := cxOf (L2.CX P w) P w K mg base ["picture", "text", "sign"] "_halves" (defScope s__halves) f cdv A outer s H E) rfl
  have hu := hr.units
  have hv := room65 hr
  have hd := room1 hr
  exact (bd_cons (sd_set (i := 2) sc.nd rfl (Or.inl rfl) (ed_if (td_cmp (op_eqA hu) rp_eq (ed_ix ix_seq rp_ix (ed_var (pv 0)) ed_int (fun _ _ => rfl)) (ed_str (c := [110, 117, 109, 98, 101, 114]) rfl) (nomark _)) (ed_str (c := [45]) rfl) (ed_ix ix_seq rp_ix (ed_var (pv 0)) ed_int (fun _ _ => rfl))))
    (bd_cons (sd_if (td_not (td_val (ed_call g.c_is_signed hr tk rfl (ad_cons (ed_var (pv 0)) ad_nil) (len_cons len_nil)))) (bd_one (sd_ret (ed_tup (ad_cons (ed_var (pv 1)) (ad_cons ed_bl ad_nil))))) bd_nil)
    (bd_cons (sd_if (td_w (wd_or (td_cmp (op_eqA hu) rp_eq (ed_var (pv 2)) (ed_str (c := [99, 114]) rfl) (nomark _)) (wd_or1 (td_cmp (op_eqA hu) rp_eq (ed_var (pv 2)) (ed_str (c := [100, 98]) rfl) (nomark _))))) (bd_one (sd_ret (ed_tup (ad_cons (ed_sl sl_any rp_sl (ed_var (pv 1)) od_none (od_some (ed_un un_neg rp_neg ed_int))) (ad_cons (ed_cmp (op_eqA hu) rp_eq (ed_sl sl_any rp_sl (ed_var (pv 1)) (od_some (ed_un un_neg rp_neg ed_int)) od_none) (ed_sm0 PySem.F.slot_str_upper PySem.F.type_str_upper mt_upper rp_upper (ed_var (pv 2))) (nomark _)) ad_nil))))) bd_nil)
    (bd_cons (sd_if (td_val (ed_sm PySem.F.slot_str_startswith PySem.F.type_str_startswith mt_startswith rp_starts (ed_var (pv 2)) (ad_cons (ed_str (c := [46]) rfl) ad_nil))) (bd_one (sd_ret (ed_tup (ad_cons (ed_sl sl_any rp_sl (ed_var (pv 1)) od_none (od_some (ed_un un_neg rp_neg ed_int))) (ad_cons (ed_cmp (op_eqA hu) rp_eq (ed_sl sl_any rp_sl (ed_var (pv 1)) (od_some (ed_un un_neg rp_neg ed_int)) od_none) (ed_str (c := [45]) rfl) (nomark _)) ad_nil))))) bd_nil)
    (bd_one (sd_ret (ed_tup (ad_cons (ed_sl sl_any rp_sl (ed_var (pv 1)) (od_some ed_int) od_none) (ad_cons (ed_cmp (op_eqA hu) rp_eq (ed_sl sl_any rp_sl (ed_var (pv 1)) od_none (od_some ed_int)) (ed_str (c := [45]) rfl) (nomark _)) ad_nil)))))))))
theorem sc_reading : FnScope ["picture", "text", "figures", "units", "body", "is_negative", "found", "mark", "sign"] ["picture", "text"] (defScope s_reading) := ⟨rfl, rfl, rfl, by decide +kernel, rfl, by decide +kernel, by decide +kernel⟩
theorem d_reading {P : Program} {w : World} {K : PySem.W.Frag} {mg : Str → Option Value} {base : Heap} {k : Nat} {C : Tab} {f : Addr} {cdv : Value} {A : Around} {outer : List Env} {s : Shared} {H : Hp} {E : XK}
    (g : Gs P w K mg base k C) (hk : 2 ≤ k) (hr1 : Room (k + 1) (A.deeper (envOfC "reading" (defScope s_reading) s.heap.objs.size f cdv))) :
    BD (cxOf (L2.CX P w) P w K mg base ["picture", "text", "figures", "units", "body", "is_negative", "found", "mark", "sign"] "reading" (defScope s_reading) f cdv A outer s H E) (WW.of (K := K) fun c d _ H => E c d H) (defBody s_reading) (b_reading C) := by
  have sc := sc_reading
  have hr := hr1.mono (Nat.le_succ k)
  have hr2 := hr.mono hk
  have tk : Takes (cxOf (L2.CX P w) P w K mg base ["picture", "text", "figures", "units", "body", "is_negative", "found", "mark", "sign"] "reading" (defScope s_reading) f cdv A outer s H E) (fun c d _ H => E c d H) := takes_of rfl rfl rfl rfl
  have po := passes_of (X := cxOf (L2.CX P w) P w K mg base ["picture", "text", "figures", "units", "body", "is_negative", "found", "mark", "sign"] "reading" (defScope s_reading) f cdv A outer s H E) rfl
  have hu := hr.units
  have hv := room65 hr
  have hd := room1 hr
  exact (bd_cons (sd_if (td_cmp (op_neA hu) rp_ne (ed_callB call_len rp_len rfl g.f_len boot_len (ad_cons (ed_var (pv 1)) ad_nil)) (ed_call g.c_size_of hr tk rfl (ad_cons (ed_var (pv 0)) ad_nil) (len_cons len_nil)) (nomark _)) (bd_one (sd_ret ed_non)) bd_nil)
    (bd_cons (sd_asg (ed_call g.c__halves hr tk rfl (ad_cons (ed_var (pv 0)) (ad_cons (ed_var (pv 1)) ad_nil)) (len_cons (len_cons len_nil))) (gd_tup rfl (gds_cons (gd_name (pg_name (i := 4) sc.nd rfl (Or.inl rfl))) (gds_cons (gd_name (pg_name (i := 5) sc.nd rfl (Or.inl rfl))) gds_nil))))
    (bd_cons (sd_set (i := 2) sc.nd rfl (Or.inl rfl) (ed_var (pv 4)))
    (bd_cons (sd_if (td_cmp (op_eqA hu) rp_eq (ed_ix ix_seq rp_ix (ed_var (pv 0)) ed_int (fun _ _ => rfl)) (ed_str (c := [101, 100, 105, 116, 101, 100]) rfl) (nomark _)) (bd_cons (sd_setLc (i := 6) (own := [("mark", 7), ("sign", 8)]) rfl sc.nd rfl rfl (id_zip rfl g.f_zip (ad_cons (ed_ix ix_seq rp_ix (ed_var (pv 0)) ed_int (fun _ _ => rfl)) (ad_cons (ed_var (pv 4)) ad_nil))) (blkOk_by (N := ["picture", "text", "figures", "units", "body", "is_negative", "found", "mark", "sign"]) (sc := defScope s_reading) (by decide +kernel)) rfl (by decide) (fun s_ H_ C_ cl_ fp_ => (pg_tup rfl (pgs_cons (pg_name (i := 7) sc.nd rfl (Or.inl rfl)) (pgs_cons (pg_name (i := 8) sc.nd rfl (Or.inl rfl)) pgs_nil)))) (fun s_ H_ C_ cl_ fp_ => (pd_one (td_cmp (op_inA hv) rp_in (ed_var (pv 7)) (ed_str (c := [122, 42, 57]) rfl) rfl))) (fun s_ H_ C_ cl_ fp_ => (ed_var (pv 8))))
    (bd_one (sd_set (i := 2) sc.nd rfl (Or.inl rfl) (ekd_ed (ekd_replK (ekd_replK (ekd_sm PySem.F.slot_str_join PySem.F.type_str_join mt_join rp_join (ekd_str (c := []) rfl) (ad_cons (ed_var (pv 6)) ad_nil)) rfl rfl (by decide)) rfl rfl (by decide)))))) bd_nil)
    (bd_cons (sd_if (td_not (td_val (ed_call g.c_are_figures hr tk rfl (ad_cons (ed_var (pv 2)) ad_nil) (len_cons len_nil)))) (bd_one (sd_ret ed_non)) bd_nil)
    (bd_cons (sd_set (i := 3) sc.nd rfl (Or.inl rfl) (ed_if (td_val (ed_var (pv 5))) (ed_un un_neg rp_neg (ed_callTy (call_int_str.or call_int1) rp_intA rfl g.f_int boot_int (ad_cons (ed_var (pv 2)) ad_nil))) (ed_callTy (call_int_str.or call_int1) rp_intA rfl g.f_int boot_int (ad_cons (ed_var (pv 2)) ad_nil))))
    (bd_cons (sd_if (td_w (wd_or (td_not (td_val (ed_call g.c_suits hr tk rfl (ad_cons (ed_var (pv 0)) (ad_cons (ed_var (pv 3)) ad_nil)) (len_cons (len_cons len_nil))))) (wd_or1 (td_cmp (op_neA hu) rp_ne (ed_call g.c_written hr tk rfl (ad_cons (ed_var (pv 0)) (ad_cons (ed_var (pv 3)) ad_nil)) (len_cons (len_cons len_nil))) (ed_var (pv 1)) (nomark _))))) (bd_one (sd_ret ed_non)) bd_nil)
    (bd_one (sd_ret (ed_var (pv 3)))))))))))
theorem sc_holds : FnScope ["picture", "text"] ["picture", "text"] (defScope s_holds) := ⟨rfl, rfl, rfl, by decide +kernel, rfl, by decide +kernel, by decide +kernel⟩
theorem d_holds {P : Program} {w : World} {K : PySem.W.Frag} {mg : Str → Option Value} {base : Heap} {k : Nat} {C : Tab} {f : Addr} {cdv : Value} {A : Around} {outer : List Env} {s : Shared} {H : Hp} {E : XK}
    (g : Gs P w K mg base k C) (hk : 2 ≤ k) (hr1 : Room (k + 1) (A.deeper (envOfC "holds" (defScope s_holds) s.heap.objs.size f cdv))) :
    BD (cxOf (L2.CX P w) P w K mg base ["picture", "text"] "holds" (defScope s_holds) f cdv A outer s H E) (WW.of (K := K) fun c d _ H => E c d H) (defBody s_holds) (b_holds C) := by
  have sc := sc_holds
  have hr := hr1.mono (Nat.le_succ k)
  have hr2 := hr.mono hk
  have tk : Takes (cxOf (L2.CX P w) P w K mg base ["picture", "text"] "holds" (defScope s_holds) f cdv A outer s H E) (fun c d _ H => E c d H) := takes_of rfl rfl rfl rfl
  have po := passes_of (X := cxOf (L2.CX P w) P w K mg base ["picture", "text"] "holds" (defScope s_holds) f cdv A outer s H E) rfl
  have hu := hr.units
  have hv := room65 hr
  have hd := room1 hr
  exact (bd_cons (sd_if (td_w (wd_or (td_not (td_val (ed_call g.c_is_printable hr tk rfl (ad_cons (ed_var (pv 1)) ad_nil) (len_cons len_nil)))) (wd_or1 (td_cmp (op_neA hu) rp_ne (ed_callB call_len rp_len rfl g.f_len boot_len (ad_cons (ed_var (pv 1)) ad_nil)) (ed_call g.c_size_of hr tk rfl (ad_cons (ed_var (pv 0)) ad_nil) (len_cons len_nil)) (nomark _))))) (bd_one (sd_ret ed_bl)) bd_nil)
    (bd_one (sd_ret (ed_or (ed_cmp (op_eqA hu) rp_eq (ed_ix ix_seq rp_ix (ed_var (pv 0)) ed_int (fun _ _ => rfl)) (ed_str (c := [116, 101, 120, 116]) rfl) (nomark _)) (ed_one (ed_cmp op_notN rp_notN (ed_call g.c_reading hr tk rfl (ad_cons (ed_var (pv 0)) (ad_cons (ed_var (pv 1)) ad_nil)) (len_cons (len_cons len_nil))) ed_non (nomark _)))))))
theorem sc_value_of : FnScope ["picture", "text", "units"] ["picture", "text"] (defScope s_value_of) := ⟨rfl, rfl, rfl, by decide +kernel, rfl, by decide +kernel, by decide +kernel⟩
theorem d_value_of {P : Program} {w : World} {K : PySem.W.Frag} {mg : Str → Option Value} {base : Heap} {k : Nat} {C : Tab} {f : Addr} {cdv : Value} {A : Around} {outer : List Env} {s : Shared} {H : Hp} {E : XK}
    (g : Gs P w K mg base k C) (hk : 2 ≤ k) (hr1 : Room (k + 1) (A.deeper (envOfC "value_of" (defScope s_value_of) s.heap.objs.size f cdv))) :
    BD (cxOf (L2.CX P w) P w K mg base ["picture", "text", "units"] "value_of" (defScope s_value_of) f cdv A outer s H E) (WW.of (K := K) fun c d _ H => E c d H) (defBody s_value_of) (b_value_of C) := by
  have sc := sc_value_of
  have hr := hr1.mono (Nat.le_succ k)
  have hr2 := hr.mono hk
  have tk : Takes (cxOf (L2.CX P w) P w K mg base ["picture", "text", "units"] "value_of" (defScope s_value_of) f cdv A outer s H E) (fun c d _ H => E c d H) := takes_of rfl rfl rfl rfl
  have po := passes_of (X := cxOf (L2.CX P w) P w K mg base ["picture", "text", "units"] "value_of" (defScope s_value_of) f cdv A outer s H E) rfl
  have hu := hr.units
  have hv := room65 hr
  have hd := room1 hr
  exact (bd_cons (sd_set (i := 2) sc.nd rfl (Or.inl rfl) (ed_call g.c_reading hr tk rfl (ad_cons (ed_var (pv 0)) (ad_cons (ed_var (pv 1)) ad_nil)) (len_cons (len_cons len_nil))))
    (bd_cons (sd_if (td_cmp op_isN rp_isN (ed_var (pv 2)) ed_non (nomark _)) (bd_one (sd_raise0 g.g_BadPicture rfl tk rfl)) bd_nil)
    (bd_one (sd_ret (ed_call g.c_normal hr tk rfl (ad_cons (ed_var (pv 2)) (ad_cons (ed_ix ix_seq rp_ix (ed_call g.c_digits_in hr tk rfl (ad_cons (ed_var (pv 0)) ad_nil) (len_cons len_nil)) ed_int (fun _ _ => rfl)) ad_nil)) (len_cons (len_cons len_nil)))))))
theorem sc_padded : FnScope ["text", "size"] ["text", "size"] (defScope s_padded) := ⟨rfl, rfl, rfl, by decide +kernel, rfl, by decide +kernel, by decide +kernel⟩
theorem d_padded {P : Program} {w : World} {K : PySem.W.Frag} {mg : Str → Option Value} {base : Heap} {k : Nat} {C : Tab} {f : Addr} {cdv : Value} {A : Around} {outer : List Env} {s : Shared} {H : Hp} {E : XK}
    (g : Gs P w K mg base k C) (hk : 2 ≤ k) (hr1 : Room (k + 1) (A.deeper (envOfC "padded" (defScope s_padded) s.heap.objs.size f cdv))) :
    BD (cxOf (L2.CX P w) P w K mg base ["text", "size"] "padded" (defScope s_padded) f cdv A outer s H E) (WW.of (K := K) fun c d _ H => E c d H) (defBody s_padded) (b_padded C) := by
  have sc := sc_padded
  have hr := hr1.mono (Nat.le_succ k)
  have hr2 := hr.mono hk
  have tk : Takes (cxOf (L2.CX P w) P w K mg base ["text", "size"] "padded" (defScope s_padded) f cdv A outer s H E) (fun c d _ H => E c d H) := takes_of rfl rfl rfl rfl
  have po := passes_of (X := cxOf (L2.CX P w) P w K mg base ["text", "size"] "padded" (defScope s_padded) f cdv A outer s H E) rfl
  have hu := hr.units
  have hv := room65 hr
  have hd := room1 hr
  exact (bd_one (sd_ret (ed_sl sl_any rp_sl (ed_sm PySem.F.slot_str_ljust PySem.F.type_str_ljust mt_ljust rp_ljust (ed_var (pv 0)) (ad_cons (ed_var (pv 1)) ad_nil)) od_none (od_some (ed_var (pv 1))))))
theorem sc_can_move : FnScope ["source", "target"] ["source", "target"] (defScope s_can_move) := ⟨rfl, rfl, rfl, by decide +kernel, rfl, by decide +kernel, by decide +kernel⟩
theorem d_can_move {P : Program} {w : World} {K : PySem.W.Frag} {mg : Str → Option Value} {base : Heap} {k : Nat} {C : Tab} {f : Addr} {cdv : Value} {A : Around} {outer : List Env} {s : Shared} {H : Hp} {E : XK}
    (g : Gs P w K mg base k C) (hk : 2 ≤ k) (hr1 : Room (k + 1) (A.deeper (envOfC "can_move" (defScope s_can_move) s.heap.objs.size f cdv))) :
    BD (cxOf (L2.CX P w) P w K mg base ["source", "target"] "can_move" (defScope s_can_move) f cdv A outer s H E) (WW.of (K := K) fun c d _ H => E c d H) (defBody s_can_move) (b_can_move C) := by
  have sc := sc_can_move
  have hr := hr1.mono (Nat.le_succ k)
  have hr2 := hr.mono hk
  have tk : Takes (cxOf (L2.CX P w) P w K mg base ["source", "target"] "can_move" (defScope s_can_move) f cdv A outer s H E) (fun c d _ H => E c d H) := takes_of rfl rfl rfl rfl
  have po := passes_of (X := cxOf (L2.CX P w) P w K mg base ["source", "target"] "can_move" (defScope s_can_move) f cdv A outer s H E) rfl
  have hu := hr.units
  have hv := room65 hr
  have hd := room1 hr
  exact (bd_cons (sd_if (td_cmp (op_eqA hu) rp_eq (ed_ix ix_seq rp_ix (ed_var (pv 0)) ed_int (fun _ _ => rfl)) (ed_str (c := [103, 114, 111, 117, 112]) rfl) (nomark _)) (bd_one (sd_ret (ed_or (ed_cmp (op_eqA hu) rp_eq (ed_var (pv 1)) (ed_var (pv 0)) (nomark _)) (ed_one (ed_cmp (op_eqA hu) rp_eq (ed_ix ix_seq rp_ix (ed_var (pv 1)) ed_int (fun _ _ => rfl)) (ed_str (c := [116, 101, 120, 116]) rfl) (nomark _)))))) bd_nil)
    (bd_cons (sd_if (td_cmp (op_eqA hu) rp_eq (ed_ix ix_seq rp_ix (ed_var (pv 1)) ed_int (fun _ _ => rfl)) (ed_str (c := [103, 114, 111, 117, 112]) rfl) (nomark _)) (bd_one (sd_ret ed_bl)) bd_nil)
    (bd_cons (sd_if (td_cmp (op_eqA hu) rp_eq (ed_ix ix_seq rp_ix (ed_var (pv 1)) ed_int (fun _ _ => rfl)) (ed_str (c := [116, 101, 120, 116]) rfl) (nomark _)) (bd_one (sd_ret (ed_or (ed_cmp (op_inA hv) rp_in (ed_ix ix_seq rp_ix (ed_var (pv 0)) ed_int (fun _ _ => rfl)) (ed_tup (ad_cons (ed_str (c := [115, 116, 114, 105, 110, 103]) rfl) (ad_cons (ed_str (c := [116, 101, 120, 116]) rfl) (ad_cons (ed_str (c := [101, 100, 105, 116, 101, 100]) rfl) ad_nil)))) rfl) (ed_one (ed_and (ed_cmp (op_eqA hu) rp_eq (ed_ix ix_seq rp_ix (ed_var (pv 0)) ed_int (fun _ _ => rfl)) (ed_str (c := [110, 117, 109, 98, 101, 114]) rfl) (nomark _)) (ed_one (ed_cmp (op_eqA hu) rp_eq (ed_ix ix_seq rp_ix (ed_var (pv 0)) ed_int (fun _ _ => rfl)) ed_int (nomark _)))))))) bd_nil)
    (bd_one (sd_ret (ed_cmp (op_inA hv) rp_in (ed_ix ix_seq rp_ix (ed_var (pv 0)) ed_int (fun _ _ => rfl)) (ed_tup (ad_cons (ed_str (c := [100, 101, 99, 105, 109, 97, 108]) rfl) (ad_cons (ed_str (c := [110, 117, 109, 98, 101, 114]) rfl) (ad_cons (ed_str (c := [101, 100, 105, 116, 101, 100]) rfl) ad_nil)))) rfl))))))
theorem sc_figures_of : FnScope ["picture", "text"] ["picture", "text"] (defScope s_figures_of) := ⟨rfl, rfl, rfl, by decide +kernel, rfl, by decide +kernel, by decide +kernel⟩
theorem d_figures_of {P : Program} {w : World} {K : PySem.W.Frag} {mg : Str → Option Value} {base : Heap} {k : Nat} {C : Tab} {f : Addr} {cdv : Value} {A : Around} {outer : List Env} {s : Shared} {H : Hp} {E : XK}
    (g : Gs P w K mg base k C) (hk : 2 ≤ k) (hr1 : Room (k + 1) (A.deeper (envOfC "figures_of" (defScope s_figures_of) s.heap.objs.size f cdv))) :
    BD (cxOf (L2.CX P w) P w K mg base ["picture", "text"] "figures_of" (defScope s_figures_of) f cdv A outer s H E) (WW.of (K := K) fun c d _ H => E c d H) (defBody s_figures_of) (b_figures_of C) := by
  have sc := sc_figures_of
  have hr := hr1.mono (Nat.le_succ k)
  have hr2 := hr.mono hk
  have tk : Takes (cxOf (L2.CX P w) P w K mg base ["picture", "text"] "figures_of" (defScope s_figures_of) f cdv A outer s H E) (fun c d _ H => E c d H) := takes_of rfl rfl rfl rfl
  have po := passes_of (X := cxOf (L2.CX P w) P w K mg base ["picture", "text"] "figures_of" (defScope s_figures_of) f cdv A outer s H E) rfl
  have hu := hr.units
  have hv := room65 hr
  have hd := room1 hr
  exact (bd_one (sd_ret (ed_if (td_val (ed_ix ix_seq rp_ix (ed_var (pv 0)) ed_int (fun _ _ => rfl))) (ed_sl sl_any rp_sl (ed_var (pv 1)) (od_some ed_int) od_none) (ed_var (pv 1)))))
theorem sc_stored : FnScope ["target", "value", "is_rounded", "units"] ["target", "value", "is_rounded"] (defScope s_stored) := ⟨rfl, rfl, rfl, by decide +kernel, rfl, by decide +kernel, by decide +kernel⟩
theorem d_stored {P : Program} {w : World} {K : PySem.W.Frag} {mg : Str → Option Value} {base : Heap} {k : Nat} {C : Tab} {f : Addr} {cdv : Value} {A : Around} {outer : List Env} {s : Shared} {H : Hp} {E : XK}
    (g : Gs P w K mg base k C) (hk : 2 ≤ k) (hr1 : Room (k + 1) (A.deeper (envOfC "stored" (defScope s_stored) s.heap.objs.size f cdv))) :
    BD (cxOf (L2.CX P w) P w K mg base ["target", "value", "is_rounded", "units"] "stored" (defScope s_stored) f cdv A outer s H E) (WW.of (K := K) fun c d _ H => E c d H) (defBody s_stored) (b_stored C) := by
  have sc := sc_stored
  have hr := hr1.mono (Nat.le_succ k)
  have hr2 := hr.mono hk
  have tk : Takes (cxOf (L2.CX P w) P w K mg base ["target", "value", "is_rounded", "units"] "stored" (defScope s_stored) f cdv A outer s H E) (fun c d _ H => E c d H) := takes_of rfl rfl rfl rfl
  have po := passes_of (X := cxOf (L2.CX P w) P w K mg base ["target", "value", "is_rounded", "units"] "stored" (defScope s_stored) f cdv A outer s H E) rfl
  have hu := hr.units
  have hv := room65 hr
  have hd := room1 hr
  exact (bd_cons (sd_set (i := 3) sc.nd rfl (Or.inl rfl) (ed_call g.c_units_at hr tk rfl (ad_cons (ed_var (pv 1)) (ad_cons (ed_ix ix_seq rp_ix (ed_call g.c_digits_in hr tk rfl (ad_cons (ed_var (pv 0)) ad_nil) (len_cons len_nil)) ed_int (fun _ _ => rfl)) (ad_cons (ed_var (pv 2)) ad_nil))) (len_cons (len_cons (len_cons len_nil)))))
    (bd_cons (sd_if (td_not (td_val (ed_call g.c_suits hr tk rfl (ad_cons (ed_var (pv 0)) (ad_cons (ed_var (pv 3)) ad_nil)) (len_cons (len_cons len_nil))))) (bd_one (sd_ret ed_non)) bd_nil)
    (bd_one (sd_ret (ed_call g.c_written hr tk rfl (ad_cons (ed_var (pv 0)) (ad_cons (ed_var (pv 3)) ad_nil)) (len_cons (len_cons len_nil)))))))
theorem sc_cut_to : FnScope ["target", "value"] ["target", "value"] (defScope s_cut_to) := ⟨rfl, rfl, rfl, by decide +kernel, rfl, by decide +kernel, by decide +kernel⟩
theorem d_cut_to {P : Program} {w : World} {K : PySem.W.Frag} {mg : Str → Option Value} {base : Heap} {k : Nat} {C : Tab} {f : Addr} {cdv : Value} {A : Around} {outer : List Env} {s : Shared} {H : Hp} {E : XK}
    (g : Gs P w K mg base k C) (hk : 2 ≤ k) (hr1 : Room (k + 1) (A.deeper (envOfC "cut_to" (defScope s_cut_to) s.heap.objs.size f cdv))) :
    BD (cxOf (L2.CX P w) P w K mg base ["target", "value"] "cut_to" (defScope s_cut_to) f cdv A outer s H E) (WW.of (K := K) fun c d _ H => E c d H) (defBody s_cut_to) (b_cut_to C) := by
  have sc := sc_cut_to
  have hr := hr1.mono (Nat.le_succ k)
  have hr2 := hr.mono hk
  have tk : Takes (cxOf (L2.CX P w) P w K mg base ["target", "value"] "cut_to" (defScope s_cut_to) f cdv A outer s H E) (fun c d _ H => E c d H) := takes_of rfl rfl rfl rfl
  have po := passes_of (X := cxOf (L2.CX P w) P w K mg base ["target", "value"] "cut_to" (defScope s_cut_to) f cdv A outer s H E) rfl
  have hu := hr.units
  have hv := room65 hr
  have hd := room1 hr
  exact (bd_one (sd_ret (ed_call g.c_written hr tk rfl (ad_cons (ed_var (pv 0)) (ad_cons (ed_call g.c_trimmed hr tk rfl (ad_cons (ed_var (pv 0)) (ad_cons (ed_call g.c_units_at hr tk rfl (ad_cons (ed_var (pv 1)) (ad_cons (ed_ix ix_seq rp_ix (ed_call g.c_digits_in hr tk rfl (ad_cons (ed_var (pv 0)) ad_nil) (len_cons len_nil)) ed_int (fun _ _ => rfl)) (ad_cons ed_bl ad_nil))) (len_cons (len_cons (len_cons len_nil)))) ad_nil)) (len_cons (len_cons len_nil))) ad_nil)) (len_cons (len_cons len_nil)))))
theorem sc_moved : FnScope ["source", "content", "target"] ["source", "content", "target"] (defScope s_moved) := ⟨rfl, rfl, rfl, by decide +kernel, rfl, by decide +kernel, by decide +kernel⟩
theorem d_moved {P : Program} {w : World} {K : PySem.W.Frag} {mg : Str → Option Value} {base : Heap} {k : Nat} {C : Tab} {f : Addr} {cdv : Value} {A : Around} {outer : List Env} {s : Shared} {H : Hp} {E : XK}
    (g : Gs P w K mg base k C) (hk : 2 ≤ k) (hr1 : Room (k + 1) (A.deeper (envOfC "moved" (defScope s_moved) s.heap.objs.size f cdv))) :
    BD (cxOf (L2.CX P w) P w K mg base ["source", "content", "target"] "moved" (defScope s_moved) f cdv A outer s H E) (WW.of (K := K) fun c d _ H => E c d H) (defBody s_moved) (b_moved C) := by
  have sc := sc_moved
  have hr := hr1.mono (Nat.le_succ k)
  have hr2 := hr.mono hk
  have tk : Takes (cxOf (L2.CX P w) P w K mg base ["source", "content", "target"] "moved" (defScope s_moved) f cdv A outer s H E) (fun c d _ H => E c d H) := takes_of rfl rfl rfl rfl
  have po := passes_of (X := cxOf (L2.CX P w) P w K mg base ["source", "content", "target"] "moved" (defScope s_moved) f cdv A outer s H E) rfl
  have hu := hr.units
  have hv := room65 hr
  have hd := room1 hr
  exact (bd_cons (sd_if (td_cmp (op_eqA hu) rp_eq (ed_ix ix_seq rp_ix (ed_var (pv 2)) ed_int (fun _ _ => rfl)) (ed_str (c := [103, 114, 111, 117, 112]) rfl) (nomark _)) (bd_one (sd_ret (ed_var (pv 1)))) bd_nil)
    (bd_cons (sd_if (td_cmp (op_eqA hu) rp_eq (ed_ix ix_seq rp_ix (ed_var (pv 2)) ed_int (fun _ _ => rfl)) (ed_str (c := [116, 101, 120, 116]) rfl) (nomark _)) (bd_cons (sd_if (td_cmp (op_eqA hu) rp_eq (ed_ix ix_seq rp_ix (ed_var (pv 0)) ed_int (fun _ _ => rfl)) (ed_str (c := [110, 117, 109, 98, 101, 114]) rfl) (nomark _)) (bd_one (sd_set (i := 1) sc.nd rfl (Or.inl rfl) (ed_call g.c_figures_of hr tk rfl (ad_cons (ed_var (pv 0)) (ad_cons (ed_var (pv 1)) ad_nil)) (len_cons (len_cons len_nil))))) bd_nil)
    (bd_one (sd_ret (ed_call g.c_padded hr tk rfl (ad_cons (ed_var (pv 1)) (ad_cons (ed_ix ix_seq rp_ix (ed_var (pv 2)) ed_int (fun _ _ => rfl)) ad_nil)) (len_cons (len_cons len_nil)))))) bd_nil)
    (bd_cons (sd_if (td_cmp (op_eqA hu) rp_eq (ed_ix ix_seq rp_ix (ed_var (pv 0)) ed_int (fun _ _ => rfl)) (ed_str (c := [100, 101, 99, 105, 109, 97, 108]) rfl) (nomark _)) (bd_one (sd_ret (ed_call g.c_cut_to hr tk rfl (ad_cons (ed_var (pv 2)) (ad_cons (ed_var (pv 1)) ad_nil)) (len_cons (len_cons len_nil))))) bd_nil)
    (bd_one (sd_ret (ed_call g.c_cut_to hr tk rfl (ad_cons (ed_var (pv 2)) (ad_cons (ed_call g.c_value_of hr tk rfl (ad_cons (ed_var (pv 0)) (ad_cons (ed_var (pv 1)) ad_nil)) (len_cons (len_cons len_nil))) ad_nil)) (len_cons (len_cons len_nil))))))))
theorem sc__law_cell : FnScope ["script", "k"] ["script", "k"] (defScope s__law_cell) := ⟨rfl, rfl, rfl, by decide +kernel, rfl, by decide +kernel, by decide +kernel⟩
theorem d__law_cell {P : Program} {w : World} {K : PySem.W.Frag} {mg : Str → Option Value} {base : Heap} {k : Nat} {C : Tab} {f : Addr} {cdv : Value} {A : Around} {outer : List Env} {s : Shared} {H : Hp} {E : XK}
    (g : Gs P w K mg base k C) (hk : 2 ≤ k) (hr1 : Room (k + 1) (A.deeper (envOfC "_law_cell" (defScope s__law_cell) s.heap.objs.size f cdv))) :
    BD (cxOf (L2.CX P w) P w K mg base ["script", "k"] "_law_cell" (defScope s__law_cell) f cdv A outer s H E) (WW.of (K := K) fun c d _ H => E c d H) (defBody s__law_cell) (b__law_cell C) := by
  have sc := sc__law_cell
  have hr := hr1.mono (Nat.le_succ k)
  have hr2 := hr.mono hk
  have tk : Takes (cxOf (L2.CX P w) P w K mg base ["script", "k"] "_law_cell" (defScope s__law_cell) f cdv A outer s H E) (fun c d _ H => E c d H) := takes_of rfl rfl rfl rfl
  have po := passes_of (X := cxOf (L2.CX P w) P w K mg base ["script", "k"] "_law_cell" (defScope s__law_cell) f cdv A outer s H E) rfl
  have hu := hr.units
  have hv := room65 hr
  have hd := room1 hr
  exact (bd_cons (sd_if (td_cmp op_ltD rp_lt (ed_var (pv 1)) (ed_callB call_len rp_len rfl g.f_len boot_len (ad_cons (ed_var (pv 0)) ad_nil)) (nomark _)) (bd_one (sd_ret (ed_callTy (call_int_str.or call_int1) rp_intA rfl g.f_int boot_int (ad_cons (ed_ix ix_seq rp_ix (ed_var (pv 0)) (ed_var (pv 1)) (fun _ _ => rfl)) ad_nil)))) bd_nil)
    (bd_one (sd_ret ed_int)))
theorem sc__law_rich : FnScope ["cell", "k", "mixed"] ["cell", "k"] (defScope s__law_rich) := ⟨rfl, rfl, rfl, by decide +kernel, rfl, by decide +kernel, by decide +kernel⟩
theorem d__law_rich {P : Program} {w : World} {K : PySem.W.Frag} {mg : Str → Option Value} {base : Heap} {k : Nat} {C : Tab} {f : Addr} {cdv : Value} {A : Around} {outer : List Env} {s : Shared} {H : Hp} {E : XK}
    (g : Gs P w K mg base k C) (hk : 2 ≤ k) (hr1 : Room (k + 1) (A.deeper (envOfC "_law_rich" (defScope s__law_rich) s.heap.objs.size f cdv))) :
    BD (cxOf (L2.CX P w) P w K mg base ["cell", "k", "mixed"] "_law_rich" (defScope s__law_rich) f cdv A outer s H E) (WW.of (K := K) fun c d _ H => E c d H) (defBody s__law_rich) (b__law_rich C) := by
  have sc := sc__law_rich
  have hr := hr1.mono (Nat.le_succ k)
  have hr2 := hr.mono hk
  have tk : Takes (cxOf (L2.CX P w) P w K mg base ["cell", "k", "mixed"] "_law_rich" (defScope s__law_rich) f cdv A outer s H E) (fun c d _ H => E c d H) := takes_of rfl rfl rfl rfl
  have po := passes_of (X := cxOf (L2.CX P w) P w K mg base ["cell", "k", "mixed"] "_law_rich" (defScope s__law_rich) f cdv A outer s H E) rfl
  have hu := hr.units
  have hv := room65 hr
  have hd := room1 hr
  exact (bd_cons (sd_if (td_cmp op_geD rp_ge (ed_var (pv 0)) (ed_bin op_pow rp_pow ed_int ed_int) (nomark _)) (bd_one (sd_ret (ed_callTy (call_int_str.or call_int1) rp_intA rfl g.f_int boot_int (ad_cons (ed_var (pv 0)) ad_nil)))) bd_nil)
    (bd_cons (sd_set (i := 2) sc.nd rfl (Or.inl rfl) (ed_bin op_mod rp_mod (ed_callTy (call_int_str.or call_int1) rp_intA rfl g.f_int boot_int (ad_cons (ed_bin op_addD rp_add (ed_bin op_addD rp_add (ed_bin op_mulA rp_mulA (ed_var (pv 0)) ed_int) (ed_bin op_mulA rp_mulA (ed_var (pv 1)) ed_int)) ed_int) ad_nil)) ed_int))
    (bd_one (sd_ret (ed_bin op_addD rp_add (ed_bin op_mulA rp_mulA (ed_var (pv 2)) ed_int) (ed_bin op_mod rp_mod (ed_callTy (call_int_str.or call_int1) rp_intA rfl g.f_int boot_int (ad_cons (ed_bin op_addD rp_add (ed_bin op_mulA rp_mulA (ed_var (pv 2)) ed_int) (ed_var (pv 0))) ad_nil)) ed_int))))))
theorem sc__law_word : FnScope ["size", "chars", "seed", "word", "rest", "k"] ["size", "chars", "seed"] (defScope s__law_word) := ⟨rfl, rfl, rfl, by decide +kernel, rfl, by decide +kernel, by decide +kernel⟩
theorem d__law_word {P : Program} {w : World} {K : PySem.W.Frag} {mg : Str → Option Value} {base : Heap} {k : Nat} {C : Tab} {f : Addr} {cdv : Value} {A : Around} {outer : List Env} {s : Shared} {H : Hp} {E : XK}
    (g : Gs P w K mg base k C) (hk : 2 ≤ k) (hr1 : Room (k + 1) (A.deeper (envOfC "_law_word" (defScope s__law_word) s.heap.objs.size f cdv))) :
    BD (cxOf (L2.CX P w) P w K mg base ["size", "chars", "seed", "word", "rest", "k"] "_law_word" (defScope s__law_word) f cdv A outer s H E) (WW.of (K := K) fun c d _ H => E c d H) (defBody s__law_word) (b__law_word C) := by
  have sc := sc__law_word
  have hr := hr1.mono (Nat.le_succ k)
  have hr2 := hr.mono hk
  have tk : Takes (cxOf (L2.CX P w) P w K mg base ["size", "chars", "seed", "word", "rest", "k"] "_law_word" (defScope s__law_word) f cdv A outer s H E) (fun c d _ H => E c d H) := takes_of rfl rfl rfl rfl
  have po := passes_of (X := cxOf (L2.CX P w) P w K mg base ["size", "chars", "seed", "word", "rest", "k"] "_law_word" (defScope s__law_word) f cdv A outer s H E) rfl
  have hu := hr.units
  have hv := room65 hr
  have hd := room1 hr
  exact (bd_cons (sd_set (i := 3) sc.nd rfl (Or.inl rfl) (ed_str (c := []) rfl))
    (bd_cons (sd_set (i := 4) sc.nd rfl (Or.inl rfl) (ed_callTy (call_int_str.or call_int1) rp_intA rfl g.f_int boot_int (ad_cons (ed_var (pv 2)) ad_nil)))
    (bd_cons (sd_for po rfl (id_range1 rfl g.f_range (ad_cons (ed_var (pv 0)) ad_nil)) (gd_name (pg_name (i := 5) sc.nd rfl (Or.inl rfl))) (bd_cons (sd_set (i := 3) sc.nd rfl (Or.inl rfl) (ed_bin op_addD rp_add (ed_var (pv 3)) (ed_ix ix_seq rp_ix (ed_var (pv 1)) (ed_bin op_mod rp_mod (ed_callTy (call_int_str.or call_int1) rp_intA rfl g.f_int boot_int (ad_cons (ed_var (pv 4)) ad_nil)) (ed_callB call_len rp_len rfl g.f_len boot_len (ad_cons (ed_var (pv 1)) ad_nil))) (fun _ _ => rfl))))
    (bd_one (sd_set (i := 4) sc.nd rfl (Or.inl rfl) (ed_bin op_fdivW rp_div (ed_var (pv 4)) (ed_callB call_len rp_len rfl g.f_len boot_len (ad_cons (ed_var (pv 1)) ad_nil)))))))
    (bd_one (sd_ret (ed_var (pv 3)))))))
theorem sc__law_decimal : FnScope ["units", "scale", "k"] ["units", "scale"] (defScope s__law_decimal) := ⟨rfl, rfl, rfl, by decide +kernel, rfl, by decide +kernel, by decide +kernel⟩
theorem d__law_decimal {P : Program} {w : World} {K : PySem.W.Frag} {mg : Str → Option Value} {base : Heap} {k : Nat} {C : Tab} {f : Addr} {cdv : Value} {A : Around} {outer : List Env} {s : Shared} {H : Hp} {E : XK}
    (g : Gs P w K mg base k C) (hk : 2 ≤ k) (hr1 : Room (k + 1) (A.deeper (envOfC "_law_decimal" (defScope s__law_decimal) s.heap.objs.size f cdv))) :
    BD (cxOf (L2.CX P w) P w K mg base ["units", "scale", "k"] "_law_decimal" (defScope s__law_decimal) f cdv A outer s H E) (WW.of (K := K) fun c d _ H => E c d H) (defBody s__law_decimal) (b__law_decimal C) := by
  have sc := sc__law_decimal
  have hr := hr1.mono (Nat.le_succ k)
  have hr2 := hr.mono hk
  have tk : Takes (cxOf (L2.CX P w) P w K mg base ["units", "scale", "k"] "_law_decimal" (defScope s__law_decimal) f cdv A outer s H E) (fun c d _ H => E c d H) := takes_of rfl rfl rfl rfl
  have po := passes_of (X := cxOf (L2.CX P w) P w K mg base ["units", "scale", "k"] "_law_decimal" (defScope s__law_decimal) f cdv A outer s H E) rfl
  have hu := hr.units
  have hv := room65 hr
  have hd := room1 hr
  exact (bd_cons (sd_for po rfl (id_range1 rfl g.f_range (ad_cons (ed_var (pv 1)) ad_nil)) (gd_name (pg_name (i := 2) sc.nd rfl (Or.inl rfl))) (bd_one (sd_if (td_cmp (op_eqA hu) rp_eq (ed_bin op_mod rp_mod (ed_callTy (call_int_str.or call_int1) rp_intA rfl g.f_int boot_int (ad_cons (ed_var (pv 0)) ad_nil)) ed_int) ed_int (nomark _)) (bd_cons (sd_set (i := 0) sc.nd rfl (Or.inl rfl) (ed_bin op_fdivW rp_div (ed_var (pv 0)) ed_int))
    (bd_one (sd_set (i := 1) sc.nd rfl (Or.inl rfl) (ed_bin op_sub rp_sub (ed_var (pv 1)) ed_int)))) (bd_one (sd_ret (ed_tup (ad_cons (ed_var (pv 0)) (ad_cons (ed_var (pv 1)) ad_nil))))))))
    (bd_one (sd_ret (ed_tup (ad_cons (ed_var (pv 0)) (ad_cons (ed_var (pv 1)) ad_nil))))))
theorem sc__law_number : FnScope ["rich", "choice", "rest"] ["rich"] (defScope s__law_number) := ⟨rfl, rfl, rfl, by decide +kernel, rfl, by decide +kernel, by decide +kernel⟩
theorem d__law_number {P : Program} {w : World} {K : PySem.W.Frag} {mg : Str → Option Value} {base : Heap} {k : Nat} {C : Tab} {f : Addr} {cdv : Value} {A : Around} {outer : List Env} {s : Shared} {H : Hp} {E : XK}
    (g : Gs P w K mg base k C) (hk : 2 ≤ k) (hr1 : Room (k + 1) (A.deeper (envOfC "_law_number" (defScope s__law_number) s.heap.objs.size f cdv))) :
    BD (cxOf (L2.CX P w) P w K mg base ["rich", "choice", "rest"] "_law_number" (defScope s__law_number) f cdv A outer s H E) (WW.of (K := K) fun c d _ H => E c d H) (defBody s__law_number) (b__law_number C) := by
  have sc := sc__law_number
  have hr := hr1.mono (Nat.le_succ k)
  have hr2 := hr.mono hk
  have tk : Takes (cxOf (L2.CX P w) P w K mg base ["rich", "choice", "rest"] "_law_number" (defScope s__law_number) f cdv A outer s H E) (fun c d _ H => E c d H) := takes_of rfl rfl rfl rfl
  have po := passes_of (X := cxOf (L2.CX P w) P w K mg base ["rich", "choice", "rest"] "_law_number" (defScope s__law_number) f cdv A outer s H E) rfl
  have hu := hr.units
  have hv := room65 hr
  have hd := room1 hr
  exact (bd_cons (sd_set (i := 1) sc.nd rfl (Or.inl rfl) (ed_bin op_mod rp_mod (ed_var (pv 0)) ed_int))
    (bd_cons (sd_set (i := 2) sc.nd rfl (Or.inl rfl) (ed_bin op_fdivW rp_div (ed_var (pv 0)) ed_int))
    (bd_cons (sd_if (td_cmp (op_eqA hu) rp_eq (ed_var (pv 1)) ed_int (nomark _)) (bd_one (sd_ret (ed_call g.c__law_decimal hr tk rfl (ad_cons (ed_ix ix_seq rp_ix (ed_lst (ad_cons ed_int (ad_cons ed_int (ad_cons (ed_un un_neg rp_neg ed_int) (ad_cons ed_int (ad_cons (ed_un un_neg rp_neg ed_int) (ad_cons ed_int ad_nil))))))) (ed_bin op_mod rp_mod (ed_var (pv 2)) ed_int) (fun _ _ => rfl)) (ad_cons (ed_bin op_mod rp_mod (ed_bin op_fdivW rp_div (ed_var (pv 2)) ed_int) ed_int) ad_nil)) (len_cons (len_cons len_nil))))) bd_nil)
    (bd_cons (sd_if (td_cmp op_ltD rp_lt (ed_var (pv 1)) ed_int (nomark _)) (bd_one (sd_ret (ed_call g.c__law_decimal hr tk rfl (ad_cons (ed_bin op_sub rp_sub (ed_bin op_mod rp_mod (ed_var (pv 2)) ed_int) ed_int) (ad_cons (ed_bin op_mod rp_mod (ed_bin op_fdivW rp_div (ed_var (pv 2)) ed_int) ed_int) ad_nil)) (len_cons (len_cons len_nil))))) bd_nil)
    (bd_one (sd_ret (ed_call g.c__law_decimal hr tk rfl (ad_cons (ed_bin op_sub rp_sub (ed_bin op_mod rp_mod (ed_var (pv 2)) (ed_bin op_mulA rp_mulA ed_int (ed_bin op_pow rp_pow ed_int ed_int))) (ed_bin op_pow rp_pow ed_int ed_int)) (ad_cons (ed_bin op_mod rp_mod (ed_bin op_fdivW rp_div (ed_var (pv 2)) (ed_bin op_pow rp_pow ed_int ed_int)) ed_int) ad_nil)) (len_cons (len_cons len_nil)))))))))
theorem sc__law_picture : FnScope ["rich", "choice", "rest", "body", "fraction", "sign", "digits", "whole", "mark"] ["rich"] (defScope s__law_picture) := ⟨rfl, rfl, rfl, by decide +kernel, rfl, by decide +kernel, by decide +kernel⟩
theorem d__law_picture {P : Program} {w : World} {K : PySem.W.Frag} {mg : Str → Option Value} {base : Heap} {k : Nat} {C : Tab} {f : Addr} {cdv : Value} {A : Around} {outer : List Env} {s : Shared} {H : Hp} {E : XK}
    (g : Gs P w K mg base k C) (hk : 2 ≤ k) (hr1 : Room (k + 1) (A.deeper (envOfC "_law_picture" (defScope s__law_picture) s.heap.objs.size f cdv))) :
    BD (cxOf (L2.CX P w) P w K mg base ["rich", "choice", "rest", "body", "fraction", "sign", "digits", "whole", "mark"] "_law_picture" (defScope s__law_picture) f cdv A outer s H E) (WW.of (K := K) fun c d _ H => E c d H) (defBody s__law_picture) (b__law_picture C) := by
  have sc := sc__law_picture
  have hr := hr1.mono (Nat.le_succ k)
  have hr2 := hr.mono hk
  have tk : Takes (cxOf (L2.CX P w) P w K mg base ["rich", "choice", "rest", "body", "fraction", "sign", "digits", "whole", "mark"] "_law_picture" (defScope s__law_picture) f cdv A outer s H E) (fun c d _ H => E c d H) := takes_of rfl rfl rfl rfl
  have po := passes_of (X := cxOf (L2.CX P w) P w K mg base ["rich", "choice", "rest", "body", "fraction", "sign", "digits", "whole", "mark"] "_law_picture" (defScope s__law_picture) f cdv A outer s H E) rfl
  have hu := hr.units
  have hv := room65 hr
  have hd := room1 hr
  exact (bd_cons (sd_set (i := 1) sc.nd rfl (Or.inl rfl) (ed_bin op_mod rp_mod (ed_var (pv 0)) ed_int))
    (bd_cons (sd_set (i := 2) sc.nd rfl (Or.inl rfl) (ed_bin op_fdivW rp_div (ed_var (pv 0)) ed_int))
    (bd_cons (sd_if (td_cmp (op_eqA hu) rp_eq (ed_var (pv 1)) ed_int (nomark _)) (bd_one (sd_ret (ed_tup (ad_cons (ed_str (c := [116, 101, 120, 116]) rfl) (ad_cons (ed_bin op_addD rp_add ed_int (ed_bin op_mod rp_mod (ed_var (pv 2)) ed_int)) ad_nil))))) bd_nil)
    (bd_cons (sd_if (td_cmp op_ltD rp_lt (ed_var (pv 1)) ed_int (nomark _)) (bd_cons (sd_set (i := 7) sc.nd rfl (Or.inl rfl) (ed_bin op_mod rp_mod (ed_var (pv 2)) ed_int))
    (bd_one (sd_ret (ed_tup (ad_cons (ed_str (c := [110, 117, 109, 98, 101, 114]) rfl) (ad_cons (ed_cmp (op_eqA hu) rp_eq (ed_bin op_mod rp_mod (ed_bin op_fdivW rp_div (ed_var (pv 2)) ed_int) ed_int) ed_int (nomark _)) (ad_cons (ed_callB (call_max2 rfl) rp_max2 rfl g.f_max boot_max (ad_cons (ed_var (pv 7)) (ad_cons (ed_bin op_sub rp_sub ed_int (ed_bin op_mod rp_mod (ed_bin op_fdivW rp_div (ed_var (pv 2)) ed_int) ed_int)) ad_nil))) (ad_cons (ed_bin op_mod rp_mod (ed_bin op_fdivW rp_div (ed_var (pv 2)) ed_int) ed_int) ad_nil)))))))) bd_nil)
    (bd_cons (sd_set (i := 3) sc.nd rfl (Or.inl rfl) (ed_ix ix_seq rp_ix (ed_lst (ad_cons (ed_str (c := [122, 122, 57]) rfl) (ad_cons (ed_str (c := [122, 122, 122]) rfl) (ad_cons (ed_str (c := [122, 57]) rfl) (ad_cons (ed_str (c := [57]) rfl) (ad_cons (ed_str (c := [42, 42, 42]) rfl) (ad_cons (ed_str (c := [42, 42, 57]) rfl) (ad_cons (ed_str (c := [122, 122, 44, 122, 122, 57]) rfl) (ad_cons (ed_str (c := [42, 42, 44, 42, 42, 42]) rfl) (ad_cons (ed_str (c := [57, 57, 47, 57, 57]) rfl) (ad_cons (ed_str (c := [122, 44, 122, 122, 57, 98, 57]) rfl) (ad_cons (ed_str (c := [57, 98, 57]) rfl) (ad_cons (ed_str (c := [122, 48, 122]) rfl) (ad_cons (ed_str (c := [57, 57]) rfl) (ad_cons (ed_str (c := [122, 98, 57]) rfl) ad_nil))))))))))))))) (ed_bin op_mod rp_mod (ed_var (pv 2)) ed_int) (fun _ _ => rfl)))
    (bd_cons (sd_set (i := 4) sc.nd rfl (Or.inl rfl) (ed_bin op_mod rp_mod (ed_bin op_fdivW rp_div (ed_var (pv 2)) ed_int) ed_int))
    (bd_cons (sd_if (td_cmp op_gtD rp_gt (ed_var (pv 4)) ed_int (nomark _)) (bd_one (sd_set (i := 3) sc.nd rfl (Or.inl rfl) (ed_bin op_addD rp_add (ed_bin op_addD rp_add (ed_var (pv 3)) (ed_str (c := [46]) rfl)) (ed_sl sl_any rp_sl (ed_str (c := [57, 57, 57]) rfl) od_none (od_some (ed_var (pv 4))))))) bd_nil)
    (bd_cons (sd_set (i := 5) sc.nd rfl (Or.inl rfl) (ed_ix ix_seq rp_ix (ed_lst (ad_cons (ed_str (c := []) rfl) (ad_cons (ed_str (c := [45]) rfl) (ad_cons (ed_str (c := [43]) rfl) (ad_cons (ed_str (c := [46, 45]) rfl) (ad_cons (ed_str (c := [46, 43]) rfl) (ad_cons (ed_str (c := [99, 114]) rfl) (ad_cons (ed_str (c := [100, 98]) rfl) (ad_cons (ed_str (c := []) rfl) ad_nil))))))))) (ed_bin op_mod rp_mod (ed_bin op_fdivW rp_div (ed_var (pv 2)) ed_int) ed_int) (fun _ _ => rfl)))
    (bd_cons (sd_set (i := 6) sc.nd rfl (Or.inl rfl) (ed_callB call_len rp_len rfl g.f_len boot_len (ad_cons (ed_comp (own := [("mark", 8)]) rfl sc.nd (id_any (ed_var (pv 3))) (blkOk_by (N := ["rich", "choice", "rest", "body", "fraction", "sign", "digits", "whole", "mark"]) (sc := defScope s__law_picture) (by decide +kernel)) rfl (by decide) (fun s_ H_ C_ cl_ fp_ => (pg_name (i := 8) sc.nd rfl (Or.inl rfl))) (fun s_ H_ C_ cl_ fp_ => (pd_one (td_cmp (op_inA hv) rp_in (ed_var (pv 8)) (ed_str (c := [122, 42, 57]) rfl) rfl))) (fun s_ H_ C_ cl_ fp_ => (ed_var (pv 8)))) ad_nil)))
    (bd_cons (sd_if (td_w (wd_and (td_cmp (op_eqA hu) rp_eq (ed_var (pv 5)) (ed_str (c := []) rfl) (nomark _)) (wd_and1 (td_cmp (op_inA hv) rp_in (ed_var (pv 3)) (ed_lst (ad_cons (ed_str (c := [57]) rfl) (ad_cons (ed_str (c := [57, 57]) rfl) ad_nil))) rfl)))) (bd_one (sd_set (i := 5) sc.nd rfl (Or.inl rfl) (ed_str (c := [45]) rfl))) bd_nil)
    (bd_one (sd_ret (ed_tup (ad_cons (ed_str (c := [101, 100, 105, 116, 101, 100]) rfl) (ad_cons (ed_var (pv 3)) (ad_cons (ed_bin op_sub rp_sub (ed_var (pv 6)) (ed_var (pv 4))) (ad_cons (ed_var (pv 4)) (ad_cons (ed_var (pv 5)) ad_nil))))))))))))))))))
theorem sc__law_size : FnScope ["picture"] ["picture"] (defScope s__law_size) := ⟨rfl, rfl, rfl, by decide +kernel, rfl, by decide +kernel, by decide +kernel⟩
theorem d__law_size {P : Program} {w : World} {K : PySem.W.Frag} {mg : Str → Option Value} {base : Heap} {k : Nat} {C : Tab} {f : Addr} {cdv : Value} {A : Around} {outer : List Env} {s : Shared} {H : Hp} {E : XK}
    (g : Gs P w K mg base k C) (hk : 2 ≤ k) (hr1 : Room (k + 1) (A.deeper (envOfC "_law_size" (defScope s__law_size) s.heap.objs.size f cdv))) :
    BD (cxOf (L2.CX P w) P w K mg base ["picture"] "_law_size" (defScope s__law_size) f cdv A outer s H E) (WW.of (K := K) fun c d _ H => E c d H) (defBody s__law_size) (b__law_size C) := by
  have sc := sc__law_size
  have hr := hr1.mono (Nat.le_succ k)
  have hr2 := hr.mono hk
  have tk : Takes (cxOf (L2.CX P w) P w K mg base ["picture"] "_law_size" (defScope s__law_size) f cdv A outer s H E) (fun c d _ H => E c d H) := takes_of rfl rfl rfl rfl
  have po := passes_of (X := cxOf (L2.CX P w) P w K mg base ["picture"] "_law_size" (defScope s__law_size) f cdv A outer s H E) rfl
  have hu := hr.units
  have hv := room65 hr
  have hd := room1 hr
  exact (bd_cons (sd_if (td_cmp (op_eqA hu) rp_eq (ed_ix ix_seq rp_ix (ed_var (pv 0)) ed_int (fun _ _ => rfl)) (ed_str (c := [116, 101, 120, 116]) rfl) (nomark _)) (bd_one (sd_ret (ed_ix ix_seq rp_ix (ed_var (pv 0)) ed_int (fun _ _ => rfl)))) bd_nil)
    (bd_cons (sd_if (td_cmp (op_eqA hu) rp_eq (ed_ix ix_seq rp_ix (ed_var (pv 0)) ed_int (fun _ _ => rfl)) (ed_str (c := [110, 117, 109, 98, 101, 114]) rfl) (nomark _)) (bd_one (sd_ret (ed_bin op_addD rp_add (ed_bin op_addD rp_add (ed_callTy (call_int_str.or call_int1) rp_intA rfl g.f_int boot_int (ad_cons (ed_ix ix_seq rp_ix (ed_var (pv 0)) ed_int (fun _ _ => rfl)) ad_nil)) (ed_ix ix_seq rp_ix (ed_var (pv 0)) ed_int (fun _ _ => rfl))) (ed_ix ix_seq rp_ix (ed_var (pv 0)) ed_int (fun _ _ => rfl))))) bd_nil)
    (bd_one (sd_ret (ed_bin op_addD rp_add (ed_callB call_len rp_len rfl g.f_len boot_len (ad_cons (ed_ix ix_seq rp_ix (ed_var (pv 0)) ed_int (fun _ _ => rfl)) ad_nil)) (ed_dget2 hd (ed_disp (PDs.cons (ed_str (c := []) rfl) ed_int (PDs.cons (ed_str (c := [99, 114]) rfl) ed_int (PDs.cons (ed_str (c := [100, 98]) rfl) ed_int PDs.nil))) rfl rfl (by decide) (by decide) rfl) (ed_ix ix_seq rp_ix (ed_var (pv 0)) ed_int (fun _ _ => rfl)) ed_int ⟨rfl, rfl, rfl, rfl⟩))))))
theorem sc__law_figures : FnScope ["units", "size", "figures", "k"] ["units", "size"] (defScope s__law_figures) := ⟨rfl, rfl, rfl, by decide +kernel, rfl, by decide +kernel, by decide +kernel⟩
theorem d__law_figures {P : Program} {w : World} {K : PySem.W.Frag} {mg : Str → Option Value} {base : Heap} {k : Nat} {C : Tab} {f : Addr} {cdv : Value} {A : Around} {outer : List Env} {s : Shared} {H : Hp} {E : XK}
    (g : Gs P w K mg base k C) (hk : 2 ≤ k) (hr1 : Room (k + 1) (A.deeper (envOfC "_law_figures" (defScope s__law_figures) s.heap.objs.size f cdv))) :
    BD (cxOf (L2.CX P w) P w K mg base ["units", "size", "figures", "k"] "_law_figures" (defScope s__law_figures) f cdv A outer s H E) (WW.of (K := K) fun c d _ H => E c d H) (defBody s__law_figures) (b__law_figures C) := by
  have sc := sc__law_figures
  have hr := hr1.mono (Nat.le_succ k)
  have hr2 := hr.mono hk
  have tk : Takes (cxOf (L2.CX P w) P w K mg base ["units", "size", "figures", "k"] "_law_figures" (defScope s__law_figures) f cdv A outer s H E) (fun c d _ H => E c d H) := takes_of rfl rfl rfl rfl
  have po := passes_of (X := cxOf (L2.CX P w) P w K mg base ["units", "size", "figures", "k"] "_law_figures" (defScope s__law_figures) f cdv A outer s H E) rfl
  have hu := hr.units
  have hv := room65 hr
  have hd := room1 hr
  exact (bd_cons (sd_set (i := 2) sc.nd rfl (Or.inl rfl) (ed_callTy call_str_int rp_str rfl g.f_str boot_str (ad_cons (ed_callB call_abs rp_abs rfl g.f_abs boot_abs (ad_cons (ed_var (pv 0)) ad_nil)) ad_nil)))
    (bd_cons (sd_for po rfl (id_range1 rfl g.f_range (ad_cons (ed_var (pv 1)) ad_nil)) (gd_name (pg_name (i := 3) sc.nd rfl (Or.inl rfl))) (bd_one (sd_if (td_cmp op_ltD rp_lt (ed_callB call_len rp_len rfl g.f_len boot_len (ad_cons (ed_var (pv 2)) ad_nil)) (ed_var (pv 1)) (nomark _)) (bd_one (sd_set (i := 2) sc.nd rfl (Or.inl rfl) (ed_bin op_addD rp_add (ed_str (c := [48]) rfl) (ed_var (pv 2))))) bd_nil)))
    (bd_one (sd_ret (ed_var (pv 2))))))
theorem sc__law_body : FnScope ["marks", "figures", "hiding", "filler", "text", "at", "mark"] ["marks", "figures"] (defScope s__law_body) := ⟨rfl, rfl, rfl, by decide +kernel, rfl, by decide +kernel, by decide +kernel⟩
theorem d__law_body {P : Program} {w : World} {K : PySem.W.Frag} {mg : Str → Option Value} {base : Heap} {k : Nat} {C : Tab} {f : Addr} {cdv : Value} {A : Around} {outer : List Env} {s : Shared} {H : Hp} {E : XK}
    (g : Gs P w K mg base k C) (hk : 2 ≤ k) (hr1 : Room (k + 1) (A.deeper (envOfC "_law_body" (defScope s__law_body) s.heap.objs.size f cdv))) :
    BD (cxOf (L2.CX P w) P w K mg base ["marks", "figures", "hiding", "filler", "text", "at", "mark"] "_law_body" (defScope s__law_body) f cdv A outer s H E) (WW.of (K := K) fun c d _ H => E c d H) (defBody s__law_body) (b__law_body C) := by
  have sc := sc__law_body
  have hr := hr1.mono (Nat.le_succ k)
  have hr2 := hr.mono hk
  have tk : Takes (cxOf (L2.CX P w) P w K mg base ["marks", "figures", "hiding", "filler", "text", "at", "mark"] "_law_body" (defScope s__law_body) f cdv A outer s H E) (fun c d _ H => E c d H) := takes_of rfl rfl rfl rfl
  have po := passes_of (X := cxOf (L2.CX P w) P w K mg base ["marks", "figures", "hiding", "filler", "text", "at", "mark"] "_law_body" (defScope s__law_body) f cdv A outer s H E) rfl
  have hu := hr.units
  have hv := room65 hr
  have hd := room1 hr
  exact (bd_cons (sd_set (i := 2) sc.nd rfl (Or.inl rfl) (ed_cmp (op_neA hu) rp_ne (ed_ix ix_seq rp_ix (ed_var (pv 0)) ed_int (fun _ _ => rfl)) (ed_str (c := [57]) rfl) (nomark _)))
    (bd_cons (sd_set (i := 3) sc.nd rfl (Or.inl rfl) (ed_if (td_cmp (op_eqA hu) rp_eq (ed_ix ix_seq rp_ix (ed_var (pv 0)) ed_int (fun _ _ => rfl)) (ed_str (c := [42]) rfl) (nomark _)) (ed_str (c := [42]) rfl) (ed_str (c := [32]) rfl)))
    (bd_cons (sd_set (i := 4) sc.nd rfl (Or.inl rfl) (ed_str (c := []) rfl))
    (bd_cons (sd_set (i := 5) sc.nd rfl (Or.inl rfl) ed_int)
    (bd_cons (sd_for po rfl (id_any (ed_var (pv 0))) (gd_name (pg_name (i := 6) sc.nd rfl (Or.inl rfl))) (bd_one (sd_if (td_cmp (op_inA hv) rp_in (ed_var (pv 6)) (ed_str (c := [44, 98, 48, 47]) rfl) rfl) (bd_one (sd_set (i := 4) sc.nd rfl (Or.inl rfl) (ed_bin op_addD rp_add (ed_var (pv 4)) (ed_if (td_val (ed_var (pv 2))) (ed_var (pv 3)) (ed_dget2 hd (ed_disp (PDs.cons (ed_str (c := [98]) rfl) (ed_str (c := [32]) rfl) PDs.nil) rfl rfl (by decide) (by decide) rfl) (ed_var (pv 6)) (ed_var (pv 6)) ⟨rfl, rfl, rfl, rfl⟩))))) (bd_one (sd_if (td_cmp (op_eqA hu) rp_eq (ed_var (pv 6)) (ed_str (c := [46]) rfl) (nomark _)) (bd_cons (sd_set (i := 2) sc.nd rfl (Or.inl rfl) ed_bl)
    (bd_one (sd_set (i := 4) sc.nd rfl (Or.inl rfl) (ed_bin op_addD rp_add (ed_var (pv 4)) (ed_str (c := [46]) rfl))))) (bd_cons (sd_if (td_w (wd_or (td_cmp (op_eqA hu) rp_eq (ed_var (pv 6)) (ed_str (c := [57]) rfl) (nomark _)) (wd_or1 (td_cmp (op_neA hu) rp_ne (ed_ix ix_seq rp_ix (ed_var (pv 1)) (ed_var (pv 5)) (fun _ _ => rfl)) (ed_str (c := [48]) rfl) (nomark _))))) (bd_one (sd_set (i := 2) sc.nd rfl (Or.inl rfl) ed_bl)) bd_nil)
    (bd_cons (sd_set (i := 4) sc.nd rfl (Or.inl rfl) (ed_bin op_addD rp_add (ed_var (pv 4)) (ed_if (td_val (ed_var (pv 2))) (ed_var (pv 3)) (ed_ix ix_seq rp_ix (ed_var (pv 1)) (ed_var (pv 5)) (fun _ _ => rfl)))))
    (bd_one (sd_set (i := 5) sc.nd rfl (Or.inl rfl) (ed_bin op_addD rp_add (ed_var (pv 5)) ed_int))))))))))
    (bd_one (sd_ret (ed_var (pv 4)))))))))
theorem sc__law_written : FnScope ["picture", "units", "figures", "body", "sign", "mark"] ["picture", "units"] (defScope s__law_written) := ⟨rfl, rfl, rfl, by decide +kernel, rfl, by decide +kernel, by decide +kernel⟩
theorem d__law_written {P : Program} {w : World} {K : PySem.W.Frag} {mg : Str → Option Value} {base : Heap} {k : Nat} {C : Tab} {f : Addr} {cdv : Value} {A : Around} {outer : List Env} {s : Shared} {H : Hp} {E : XK}
    (g : Gs P w K mg base k C) (hk : 2 ≤ k) (hr1 : Room (k + 1) (A.deeper (envOfC "_law_written" (defScope s__law_written) s.heap.objs.size f cdv))) :
    BD (cxOf (L2.CX P w) P w K mg base ["picture", "units", "figures", "body", "sign", "mark"] "_law_written" (defScope s__law_written) f cdv A outer s H E) (WW.of (K := K) fun c d _ H => E c d H) (defBody s__law_written) (b__law_written C) := by
  have sc := sc__law_written
  have hr := hr1.mono (Nat.le_succ k)
  have hr2 := hr.mono hk
  have tk : Takes (cxOf (L2.CX P w) P w K mg base ["picture", "units", "figures", "body", "sign", "mark"] "_law_written" (defScope s__law_written) f cdv A outer s H E) (fun c d _ H => E c d H) := takes_of rfl rfl rfl rfl
  have po := passes_of (X := cxOf (L2.CX P w) P w K mg base ["picture", "units", "figures", "body", "sign", "mark"] "_law_written" (defScope s__law_written) f cdv A outer s H E) rfl
  have hu := hr.units
  have hv := room65 hr
  have hd := room1 hr
  exact (bd_cons (sd_set (i := 2) sc.nd rfl (Or.inl rfl) (ed_call g.c__law_figures hr tk rfl (ad_cons (ed_var (pv 1)) (ad_cons (ed_bin op_addD rp_add (ed_ix ix_seq rp_ix (ed_var (pv 0)) ed_int (fun _ _ => rfl)) (ed_ix ix_seq rp_ix (ed_var (pv 0)) ed_int (fun _ _ => rfl))) ad_nil)) (len_cons (len_cons len_nil))))
    (bd_cons (sd_if (td_cmp (op_eqA hu) rp_eq (ed_ix ix_seq rp_ix (ed_var (pv 0)) ed_int (fun _ _ => rfl)) (ed_str (c := [110, 117, 109, 98, 101, 114]) rfl) (nomark _)) (bd_cons (sd_set (i := 4) sc.nd rfl (Or.inl rfl) (ed_if (td_cmp op_ltD rp_lt (ed_var (pv 1)) ed_int (nomark _)) (ed_str (c := [45]) rfl) (ed_str (c := [43]) rfl)))
    (bd_one (sd_ret (ed_if (td_val (ed_ix ix_seq rp_ix (ed_var (pv 0)) ed_int (fun _ _ => rfl))) (ed_bin op_addD rp_add (ed_var (pv 4)) (ed_var (pv 2))) (ed_var (pv 2)))))) bd_nil)
    (bd_cons (sd_set (i := 3) sc.nd rfl (Or.inl rfl) (ed_call g.c__law_body hr tk rfl (ad_cons (ed_ix ix_seq rp_ix (ed_var (pv 0)) ed_int (fun _ _ => rfl)) (ad_cons (ed_var (pv 2)) ad_nil)) (len_cons (len_cons len_nil))))
    (bd_cons (sd_set (i := 4) sc.nd rfl (Or.inl rfl) (ed_ix ix_seq rp_ix (ed_var (pv 0)) ed_int (fun _ _ => rfl)))
    (bd_cons (sd_if (td_cmp (op_eqA hu) rp_eq (ed_var (pv 4)) (ed_str (c := []) rfl) (nomark _)) (bd_one (sd_ret (ed_var (pv 3)))) bd_nil)
    (bd_cons (sd_if (td_w (wd_or (td_cmp (op_eqA hu) rp_eq (ed_var (pv 4)) (ed_str (c := [99, 114]) rfl) (nomark _)) (wd_or1 (td_cmp (op_eqA hu) rp_eq (ed_var (pv 4)) (ed_str (c := [100, 98]) rfl) (nomark _))))) (bd_one (sd_ret (ed_bin op_addD rp_add (ed_var (pv 3)) (ed_if (td_cmp op_ltD rp_lt (ed_var (pv 1)) ed_int (nomark _)) (ed_sm0 PySem.F.slot_str_upper PySem.F.type_str_upper mt_upper rp_upper (ed_var (pv 4))) (ed_str (c := [32, 32]) rfl))))) bd_nil)
    (bd_cons (sd_set (i := 5) sc.nd rfl (Or.inl rfl) (ed_if (td_cmp op_ltD rp_lt (ed_var (pv 1)) ed_int (nomark _)) (ed_str (c := [45]) rfl) (ed_dget hd (ed_disp (PDs.cons (ed_str (c := [45]) rfl) (ed_str (c := [32]) rfl) (PDs.cons (ed_str (c := [43]) rfl) (ed_str (c := [43]) rfl) PDs.nil)) rfl rfl (by decide) (by decide) rfl) (ed_ix ix_seq rp_ix (ed_var (pv 4)) (ed_un un_neg rp_neg ed_int) (fun _ _ => rfl)) (fun _ _ => rfl))))
    (bd_one (sd_ret (ed_if (td_cmp (op_eqA hu) rp_eq (ed_callB call_len rp_len rfl g.f_len boot_len (ad_cons (ed_var (pv 4)) ad_nil)) ed_int (nomark _)) (ed_bin op_addD rp_add (ed_var (pv 5)) (ed_var (pv 3))) (ed_bin op_addD rp_add (ed_var (pv 3)) (ed_var (pv 5)))))))))))))
theorem sc__law_units : FnScope ["picture", "rich", "limit", "k", "units", "signed"] ["picture", "rich"] (defScope s__law_units) := ⟨rfl, rfl, rfl, by decide +kernel, rfl, by decide +kernel, by decide +kernel⟩
theorem d__law_units {P : Program} {w : World} {K : PySem.W.Frag} {mg : Str → Option Value} {base : Heap} {k : Nat} {C : Tab} {f : Addr} {cdv : Value} {A : Around} {outer : List Env} {s : Shared} {H : Hp} {E : XK}
    (g : Gs P w K mg base k C) (hk : 2 ≤ k) (hr1 : Room (k + 1) (A.deeper (envOfC "_law_units" (defScope s__law_units) s.heap.objs.size f cdv))) :
    BD (cxOf (L2.CX P w) P w K mg base ["picture", "rich", "limit", "k", "units", "signed"] "_law_units" (defScope s__law_units) f cdv A outer s H E) (WW.of (K := K) fun c d _ H => E c d H) (defBody s__law_units) (b__law_units C) := by
  have sc := sc__law_units
  have hr := hr1.mono (Nat.le_succ k)
  have hr2 := hr.mono hk
  have tk : Takes (cxOf (L2.CX P w) P w K mg base ["picture", "rich", "limit", "k", "units", "signed"] "_law_units" (defScope s__law_units) f cdv A outer s H E) (fun c d _ H => E c d H) := takes_of rfl rfl rfl rfl
  have po := passes_of (X := cxOf (L2.CX P w) P w K mg base ["picture", "rich", "limit", "k", "units", "signed"] "_law_units" (defScope s__law_units) f cdv A outer s H E) rfl
  have hu := hr.units
  have hv := room65 hr
  have hd := room1 hr
  exact (bd_cons (sd_set (i := 2) sc.nd rfl (Or.inl rfl) ed_int)
    (bd_cons (sd_for po rfl (id_range1 rfl g.f_range (ad_cons (ed_bin op_addD rp_add (ed_ix ix_seq rp_ix (ed_var (pv 0)) ed_int (fun _ _ => rfl)) (ed_ix ix_seq rp_ix (ed_var (pv 0)) ed_int (fun _ _ => rfl))) ad_nil)) (gd_name (pg_name (i := 3) sc.nd rfl (Or.inl rfl))) (bd_one (sd_set (i := 2) sc.nd rfl (Or.inl rfl) (ed_bin op_mulA rp_mulA (ed_var (pv 2)) ed_int))))
    (bd_cons (sd_set (i := 4) sc.nd rfl (Or.inl rfl) (ed_bin op_mod rp_mod (ed_var (pv 1)) (ed_var (pv 2))))
    (bd_cons (sd_if (td_cmp (op_eqA hu) rp_eq (ed_bin op_mod rp_mod (ed_bin op_fdivW rp_div (ed_var (pv 1)) ed_int) ed_int) ed_int (nomark _)) (bd_one (sd_set (i := 4) sc.nd rfl (Or.inl rfl) (ed_bin op_mod rp_mod (ed_bin op_mod rp_mod (ed_var (pv 1)) ed_int) (ed_var (pv 2))))) bd_nil)
    (bd_cons (sd_set (i := 5) sc.nd rfl (Or.inl rfl) (ed_if (td_cmp (op_eqA hu) rp_eq (ed_ix ix_seq rp_ix (ed_var (pv 0)) ed_int (fun _ _ => rfl)) (ed_str (c := [110, 117, 109, 98, 101, 114]) rfl) (nomark _)) (ed_ix ix_seq rp_ix (ed_var (pv 0)) ed_int (fun _ _ => rfl)) (ed_cmp (op_neA hu) rp_ne (ed_ix ix_seq rp_ix (ed_var (pv 0)) ed_int (fun _ _ => rfl)) (ed_str (c := []) rfl) (nomark _))))
    (bd_one (sd_ret (ed_if (td_w (wd_and (td_val (ed_var (pv 5))) (wd_and1 (td_cmp (op_eqA hu) rp_eq (ed_bin op_mod rp_mod (ed_bin op_fdivW rp_div (ed_var (pv 1)) ed_int) ed_int) ed_int (nomark _))))) (ed_un un_neg rp_neg (ed_var (pv 4))) (ed_var (pv 4))))))))))
theorem sc__law_side : FnScope ["rich", "shape", "k"] ["rich"] (defScope s__law_side) := ⟨rfl, rfl, rfl, by decide +kernel, rfl, by decide +kernel, by decide +kernel⟩
theorem d__law_side {P : Program} {w : World} {K : PySem.W.Frag} {mg : Str → Option Value} {base : Heap} {k : Nat} {C : Tab} {f : Addr} {cdv : Value} {A : Around} {outer : List Env} {s : Shared} {H : Hp} {E : XK}
    (g : Gs P w K mg base k C) (hk : 2 ≤ k) (hr1 : Room (k + 1) (A.deeper (envOfC "_law_side" (defScope s__law_side) s.heap.objs.size f cdv))) :
    BD (cxOf (L2.CX P w) P w K mg base ["rich", "shape", "k"] "_law_side" (defScope s__law_side) f cdv A outer s H E) (WW.of (K := K) fun c d _ H => E c d H) (defBody s__law_side) (b__law_side C) := by
  have sc := sc__law_side
  have hr := hr1.mono (Nat.le_succ k)
  have hr2 := hr.mono hk
  have tk : Takes (cxOf (L2.CX P w) P w K mg base ["rich", "shape", "k"] "_law_side" (defScope s__law_side) f cdv A outer s H E) (fun c d _ H => E c d H) := takes_of rfl rfl rfl rfl
  have po := passes_of (X := cxOf (L2.CX P w) P w K mg base ["rich", "shape", "k"] "_law_side" (defScope s__law_side) f cdv A outer s H E) rfl
  have hu := hr.units
  have hv := room65 hr
  have hd := room1 hr
  exact (bd_cons (sd_if (td_cmp (op_eqA hu) rp_eq (ed_bin op_mod rp_mod (ed_var (pv 0)) ed_int) ed_int (nomark _)) (bd_cons (sd_set (i := 1) sc.nd rfl (Or.inl rfl) (ed_loc ad_nil))
    (bd_cons (sd_for po rfl (id_range1 rfl g.f_range (ad_cons (ed_bin op_addD rp_add ed_int (ed_bin op_mod rp_mod (ed_bin op_fdivW rp_div (ed_var (pv 0)) ed_int) ed_int)) ad_nil)) (gd_name (pg_name (i := 2) sc.nd rfl (Or.inl rfl))) (bd_one (sd_expr (ed_lm PySem.F.slot_list_append PySem.F.type_list_append mt_append rp_append (ed_var (pv 1)) (ad_cons (ed_call g.c__law_picture hr tk rfl (ad_cons (ed_bin op_addD rp_add (ed_bin op_fdivW rp_div (ed_var (pv 0)) ed_int) (ed_bin op_mulA rp_mulA ed_int (ed_var (pv 2)))) ad_nil) (len_cons len_nil)) ad_nil)))))
    (bd_one (sd_ret (ed_tup (ad_cons (ed_str (c := [103, 114, 111, 117, 112]) rfl) (ad_cons (ed_callTy call_tuple_of rp_tuple rfl g.f_tuple boot_tuple (ad_cons (ed_var (pv 1)) ad_nil)) ad_nil))))))) bd_nil)
    (bd_one (sd_ret (ed_call g.c__law_picture hr tk rfl (ad_cons (ed_bin op_fdivW rp_div (ed_var (pv 0)) ed_int) ad_nil) (len_cons len_nil)))))
theorem sc__law_can : FnScope ["source", "target"] ["source", "target"] (defScope s__law_can) := ⟨rfl, rfl, rfl, by decide +kernel, rfl, by decide +kernel, by decide +kernel⟩
theorem d__law_can {P : Program} {w : World} {K : PySem.W.Frag} {mg : Str → Option Value} {base : Heap} {k : Nat} {C : Tab} {f : Addr} {cdv : Value} {A : Around} {outer : List Env} {s : Shared} {H : Hp} {E : XK}
    (g : Gs P w K mg base k C) (hk : 2 ≤ k) (hr1 : Room (k + 1) (A.deeper (envOfC "_law_can" (defScope s__law_can) s.heap.objs.size f cdv))) :
    BD (cxOf (L2.CX P w) P w K mg base ["source", "target"] "_law_can" (defScope s__law_can) f cdv A outer s H E) (WW.of (K := K) fun c d _ H => E c d H) (defBody s__law_can) (b__law_can C) := by
  have sc := sc__law_can
  have hr := hr1.mono (Nat.le_succ k)
  have hr2 := hr.mono hk
  have tk : Takes (cxOf (L2.CX P w) P w K mg base ["source", "target"] "_law_can" (defScope s__law_can) f cdv A outer s H E) (fun c d _ H => E c d H) := takes_of rfl rfl rfl rfl
  have po := passes_of (X := cxOf (L2.CX P w) P w K mg base ["source", "target"] "_law_can" (defScope s__law_can) f cdv A outer s H E) rfl
  have hu := hr.units
  have hv := room65 hr
  have hd := room1 hr
  exact (bd_cons (sd_if (td_w (wd_and (td_cmp (op_eqA hu) rp_eq (ed_ix ix_seq rp_ix (ed_var (pv 0)) ed_int (fun _ _ => rfl)) (ed_str (c := [103, 114, 111, 117, 112]) rfl) (nomark _)) (wd_and1 (td_cmp (op_eqA hu) rp_eq (ed_ix ix_seq rp_ix (ed_var (pv 1)) ed_int (fun _ _ => rfl)) (ed_str (c := [103, 114, 111, 117, 112]) rfl) (nomark _))))) (bd_one (sd_ret (ed_cmp (op_eqA hu) rp_eq (ed_var (pv 0)) (ed_var (pv 1)) (nomark _)))) bd_nil)
    (bd_cons (sd_if (td_cmp (op_eqA hu) rp_eq (ed_ix ix_seq rp_ix (ed_var (pv 1)) ed_int (fun _ _ => rfl)) (ed_str (c := [116, 101, 120, 116]) rfl) (nomark _)) (bd_one (sd_ret (ed_or (ed_cmp (op_inA hv) rp_in (ed_ix ix_seq rp_ix (ed_var (pv 0)) ed_int (fun _ _ => rfl)) (ed_lst (ad_cons (ed_str (c := [115, 116, 114, 105, 110, 103]) rfl) (ad_cons (ed_str (c := [116, 101, 120, 116]) rfl) (ad_cons (ed_str (c := [101, 100, 105, 116, 101, 100]) rfl) (ad_cons (ed_str (c := [103, 114, 111, 117, 112]) rfl) ad_nil))))) rfl) (ed_one (ed_and (ed_cmp (op_eqA hu) rp_eq (ed_ix ix_seq rp_ix (ed_var (pv 0)) ed_int (fun _ _ => rfl)) (ed_str (c := [110, 117, 109, 98, 101, 114]) rfl) (nomark _)) (ed_one (ed_cmp (op_eqA hu) rp_eq (ed_ix ix_seq rp_ix (ed_var (pv 0)) ed_int (fun _ _ => rfl)) ed_int (nomark _)))))))) bd_nil)
    (bd_one (sd_ret (ed_and (ed_cmp (op_neA hu) rp_ne (ed_ix ix_seq rp_ix (ed_var (pv 1)) ed_int (fun _ _ => rfl)) (ed_str (c := [103, 114, 111, 117, 112]) rfl) (nomark _)) (ed_one (ed_cmp (op_inA hv) rp_in (ed_ix ix_seq rp_ix (ed_var (pv 0)) ed_int (fun _ _ => rfl)) (ed_lst (ad_cons (ed_str (c := [100, 101, 99, 105, 109, 97, 108]) rfl) (ad_cons (ed_str (c := [110, 117, 109, 98, 101, 114]) rfl) (ad_cons (ed_str (c := [101, 100, 105, 116, 101, 100]) rfl) ad_nil)))) rfl)))))))
theorem sc__law_content : FnScope ["source", "rich", "picture"] ["source", "rich"] (defScope s__law_content) := ⟨rfl, rfl, rfl, by decide +kernel, rfl, by decide +kernel, by decide +kernel⟩
theorem d__law_content {P : Program} {w : World} {K : PySem.W.Frag} {mg : Str → Option Value} {base : Heap} {k : Nat} {C : Tab} {f : Addr} {cdv : Value} {A : Around} {outer : List Env} {s : Shared} {H : Hp} {E : XK}
    (g : Gs P w K mg base k C) (hk : 2 ≤ k) (hr1 : Room (k + 1) (A.deeper (envOfC "_law_content" (defScope s__law_content) s.heap.objs.size f cdv))) :
    BD (cxOf (L2.CX P w) P w K mg base ["source", "rich", "picture"] "_law_content" (defScope s__law_content) f cdv A outer s H E) (WW.of (K := K) fun c d _ H => E c d H) (defBody s__law_content) (b__law_content C) := by
  have sc := sc__law_content
  have hr := hr1.mono (Nat.le_succ k)
  have hr2 := hr.mono hk
  have tk : Takes (cxOf (L2.CX P w) P w K mg base ["source", "rich", "picture"] "_law_content" (defScope s__law_content) f cdv A outer s H E) (fun c d _ H => E c d H) := takes_of rfl rfl rfl rfl
  have po := passes_of (X := cxOf (L2.CX P w) P w K mg base ["source", "rich", "picture"] "_law_content" (defScope s__law_content) f cdv A outer s H E) rfl
  have hu := hr.units
  have hv := room65 hr
  have hd := room1 hr
  exact (bd_cons (sd_if (td_cmp (op_eqA hu) rp_eq (ed_ix ix_seq rp_ix (ed_var (pv 0)) ed_int (fun _ _ => rfl)) (ed_str (c := [115, 116, 114, 105, 110, 103]) rfl) (nomark _)) (bd_one (sd_ret (ed_call g.c__law_word hr tk rfl (ad_cons (ed_bin op_addD rp_add ed_int (ed_bin op_mod rp_mod (ed_var (pv 1)) ed_int)) (ad_cons (ed_str (c := [97, 98, 32, 99, 57, 45]) rfl) (ad_cons (ed_bin op_fdivW rp_div (ed_var (pv 1)) ed_int) ad_nil))) (len_cons (len_cons (len_cons len_nil)))))) bd_nil)
    (bd_cons (sd_if (td_cmp (op_eqA hu) rp_eq (ed_ix ix_seq rp_ix (ed_var (pv 0)) ed_int (fun _ _ => rfl)) (ed_str (c := [100, 101, 99, 105, 109, 97, 108]) rfl) (nomark _)) (bd_one (sd_ret (ed_call g.c__law_number hr tk rfl (ad_cons (ed_var (pv 1)) ad_nil) (len_cons len_nil)))) bd_nil)
    (bd_cons (sd_if (td_cmp (op_eqA hu) rp_eq (ed_ix ix_seq rp_ix (ed_var (pv 0)) ed_int (fun _ _ => rfl)) (ed_str (c := [103, 114, 111, 117, 112]) rfl) (nomark _)) (bd_one (sd_ret (ed_sm PySem.F.slot_str_join PySem.F.type_str_join mt_join rp_join (ed_str (c := []) rfl) (ad_cons (ed_comp (own := [("picture", 2)]) rfl sc.nd (id_any (ed_ix ix_seq rp_ix (ed_var (pv 0)) ed_int (fun _ _ => rfl))) (blkOk_by (N := ["source", "rich", "picture"]) (sc := defScope s__law_content) (by decide +kernel)) rfl (by decide) (fun s_ H_ C_ cl_ fp_ => (pg_name (i := 2) sc.nd rfl (Or.inl rfl))) (fun s_ H_ C_ cl_ fp_ => pd_nil) (fun s_ H_ C_ cl_ fp_ => (ed_call g.c__law_content hr takes0 rfl (ad_cons (ed_var (pv 2)) (ad_cons (ed_bin op_addD rp_add (ed_bin op_fdivW rp_div (ed_var (pv 1)) ed_int) ed_int) ad_nil)) (len_cons (len_cons len_nil))))) ad_nil)))) bd_nil)
    (bd_cons (sd_if (td_cmp (op_eqA hu) rp_eq (ed_ix ix_seq rp_ix (ed_var (pv 0)) ed_int (fun _ _ => rfl)) (ed_str (c := [116, 101, 120, 116]) rfl) (nomark _)) (bd_one (sd_ret (ed_call g.c__law_word hr tk rfl (ad_cons (ed_ix ix_seq rp_ix (ed_var (pv 0)) ed_int (fun _ _ => rfl)) (ad_cons (ed_str (c := [97, 98, 32, 99, 57, 45]) rfl) (ad_cons (ed_bin op_fdivW rp_div (ed_var (pv 1)) ed_int) ad_nil))) (len_cons (len_cons (len_cons len_nil)))))) bd_nil)
    (bd_one (sd_ret (ed_call g.c__law_written hr tk rfl (ad_cons (ed_var (pv 0)) (ad_cons (ed_call g.c__law_units hr tk rfl (ad_cons (ed_var (pv 0)) (ad_cons (ed_var (pv 1)) ad_nil)) (len_cons (len_cons len_nil))) ad_nil)) (len_cons (len_cons len_nil)))))))))
theorem sc__law_value : FnScope ["source", "content", "rich"] ["source", "content", "rich"] (defScope s__law_value) := ⟨rfl, rfl, rfl, by decide +kernel, rfl, by decide +kernel, by decide +kernel⟩
theorem d__law_value {P : Program} {w : World} {K : PySem.W.Frag} {mg : Str → Option Value} {base : Heap} {k : Nat} {C : Tab} {f : Addr} {cdv : Value} {A : Around} {outer : List Env} {s : Shared} {H : Hp} {E : XK}
    (g : Gs P w K mg base k C) (hk : 2 ≤ k) (hr1 : Room (k + 1) (A.deeper (envOfC "_law_value" (defScope s__law_value) s.heap.objs.size f cdv))) :
    BD (cxOf (L2.CX P w) P w K mg base ["source", "content", "rich"] "_law_value" (defScope s__law_value) f cdv A outer s H E) (WW.of (K := K) fun c d _ H => E c d H) (defBody s__law_value) (b__law_value C) := by
  have sc := sc__law_value
  have hr := hr1.mono (Nat.le_succ k)
  have hr2 := hr.mono hk
  have tk : Takes (cxOf (L2.CX P w) P w K mg base ["source", "content", "rich"] "_law_value" (defScope s__law_value) f cdv A outer s H E) (fun c d _ H => E c d H) := takes_of rfl rfl rfl rfl
  have po := passes_of (X := cxOf (L2.CX P w) P w K mg base ["source", "content", "rich"] "_law_value" (defScope s__law_value) f cdv A outer s H E) rfl
  have hu := hr.units
  have hv := room65 hr
  have hd := room1 hr
  exact (bd_cons (sd_if (td_cmp (op_eqA hu) rp_eq (ed_ix ix_seq rp_ix (ed_var (pv 0)) ed_int (fun _ _ => rfl)) (ed_str (c := [100, 101, 99, 105, 109, 97, 108]) rfl) (nomark _)) (bd_one (sd_ret (ed_var (pv 1)))) bd_nil)
    (bd_one (sd_ret (ed_call g.c__law_decimal hr tk rfl (ad_cons (ed_call g.c__law_units hr tk rfl (ad_cons (ed_var (pv 0)) (ad_cons (ed_var (pv 2)) ad_nil)) (len_cons (len_cons len_nil))) (ad_cons (ed_ix ix_seq rp_ix (ed_var (pv 0)) ed_int (fun _ _ => rfl)) ad_nil)) (len_cons (len_cons len_nil))))))
theorem sc__law_cut : FnScope ["target", "value", "units", "limit", "k", "size", "signed"] ["target", "value"] (defScope s__law_cut) := ⟨rfl, rfl, rfl, by decide +kernel, rfl, by decide +kernel, by decide +kernel⟩
theorem d__law_cut {P : Program} {w : World} {K : PySem.W.Frag} {mg : Str → Option Value} {base : Heap} {k : Nat} {C : Tab} {f : Addr} {cdv : Value} {A : Around} {outer : List Env} {s : Shared} {H : Hp} {E : XK}
    (g : Gs P w K mg base k C) (hk : 2 ≤ k) (hr1 : Room (k + 1) (A.deeper (envOfC "_law_cut" (defScope s__law_cut) s.heap.objs.size f cdv))) :
    BD (cxOf (L2.CX P w) P w K mg base ["target", "value", "units", "limit", "k", "size", "signed"] "_law_cut" (defScope s__law_cut) f cdv A outer s H E) (WW.of (K := K) fun c d _ H => E c d H) (defBody s__law_cut) (b__law_cut C) := by
  have sc := sc__law_cut
  have hr := hr1.mono (Nat.le_succ k)
  have hr2 := hr.mono hk
  have tk : Takes (cxOf (L2.CX P w) P w K mg base ["target", "value", "units", "limit", "k", "size", "signed"] "_law_cut" (defScope s__law_cut) f cdv A outer s H E) (fun c d _ H => E c d H) := takes_of rfl rfl rfl rfl
  have po := passes_of (X := cxOf (L2.CX P w) P w K mg base ["target", "value", "units", "limit", "k", "size", "signed"] "_law_cut" (defScope s__law_cut) f cdv A outer s H E) rfl
  have hu := hr.units
  have hv := room65 hr
  have hd := room1 hr
  exact (bd_cons (sd_set (i := 2) sc.nd rfl (Or.inl rfl) (ed_call g.c_units_at hr tk rfl (ad_cons (ed_var (pv 1)) (ad_cons (ed_ix ix_seq rp_ix (ed_var (pv 0)) ed_int (fun _ _ => rfl)) (ad_cons ed_bl ad_nil))) (len_cons (len_cons (len_cons len_nil)))))
    (bd_cons (sd_set (i := 3) sc.nd rfl (Or.inl rfl) ed_int)
    (bd_cons (sd_for po rfl (id_range1 rfl g.f_range (ad_cons (ed_bin op_addD rp_add (ed_ix ix_seq rp_ix (ed_var (pv 0)) ed_int (fun _ _ => rfl)) (ed_ix ix_seq rp_ix (ed_var (pv 0)) ed_int (fun _ _ => rfl))) ad_nil)) (gd_name (pg_name (i := 4) sc.nd rfl (Or.inl rfl))) (bd_one (sd_set (i := 3) sc.nd rfl (Or.inl rfl) (ed_bin op_mulA rp_mulA (ed_var (pv 3)) ed_int))))
    (bd_cons (sd_set (i := 5) sc.nd rfl (Or.inl rfl) (ed_bin op_mod rp_mod (ed_callB call_abs rp_abs rfl g.f_abs boot_abs (ad_cons (ed_var (pv 2)) ad_nil)) (ed_var (pv 3))))
    (bd_cons (sd_set (i := 6) sc.nd rfl (Or.inl rfl) (ed_if (td_cmp (op_eqA hu) rp_eq (ed_ix ix_seq rp_ix (ed_var (pv 0)) ed_int (fun _ _ => rfl)) (ed_str (c := [110, 117, 109, 98, 101, 114]) rfl) (nomark _)) (ed_ix ix_seq rp_ix (ed_var (pv 0)) ed_int (fun _ _ => rfl)) (ed_cmp (op_neA hu) rp_ne (ed_ix ix_seq rp_ix (ed_var (pv 0)) ed_int (fun _ _ => rfl)) (ed_str (c := []) rfl) (nomark _))))
    (bd_one (sd_ret (ed_call g.c__law_written hr tk rfl (ad_cons (ed_var (pv 0)) (ad_cons (ed_if (td_w (wd_and (td_cmp op_ltD rp_lt (ed_var (pv 2)) ed_int (nomark _)) (wd_and1 (td_val (ed_var (pv 6)))))) (ed_un un_neg rp_neg (ed_var (pv 5))) (ed_var (pv 5))) ad_nil)) (len_cons (len_cons len_nil))))))))))
theorem sc__law_pad : FnScope ["text", "size", "k"] ["text", "size"] (defScope s__law_pad) := ⟨rfl, rfl, rfl, by decide +kernel, rfl, by decide +kernel, by decide +kernel⟩
theorem d__law_pad {P : Program} {w : World} {K : PySem.W.Frag} {mg : Str → Option Value} {base : Heap} {k : Nat} {C : Tab} {f : Addr} {cdv : Value} {A : Around} {outer : List Env} {s : Shared} {H : Hp} {E : XK}
    (g : Gs P w K mg base k C) (hk : 2 ≤ k) (hr1 : Room (k + 1) (A.deeper (envOfC "_law_pad" (defScope s__law_pad) s.heap.objs.size f cdv))) :
    BD (cxOf (L2.CX P w) P w K mg base ["text", "size", "k"] "_law_pad" (defScope s__law_pad) f cdv A outer s H E) (WW.of (K := K) fun c d _ H => E c d H) (defBody s__law_pad) (b__law_pad C) := by
  have sc := sc__law_pad
  have hr := hr1.mono (Nat.le_succ k)
  have hr2 := hr.mono hk
  have tk : Takes (cxOf (L2.CX P w) P w K mg base ["text", "size", "k"] "_law_pad" (defScope s__law_pad) f cdv A outer s H E) (fun c d _ H => E c d H) := takes_of rfl rfl rfl rfl
  have po := passes_of (X := cxOf (L2.CX P w) P w K mg base ["text", "size", "k"] "_law_pad" (defScope s__law_pad) f cdv A outer s H E) rfl
  have hu := hr.units
  have hv := room65 hr
  have hd := room1 hr
  exact (bd_cons (sd_for po rfl (id_range1 rfl g.f_range (ad_cons (ed_var (pv 1)) ad_nil)) (gd_name (pg_name (i := 2) sc.nd rfl (Or.inl rfl))) (bd_one (sd_if (td_cmp op_ltD rp_lt (ed_callB call_len rp_len rfl g.f_len boot_len (ad_cons (ed_var (pv 0)) ad_nil)) (ed_var (pv 1)) (nomark _)) (bd_one (sd_set (i := 0) sc.nd rfl (Or.inl rfl) (ed_bin op_addD rp_add (ed_var (pv 0)) (ed_str (c := [32]) rfl)))) bd_nil)))
    (bd_one (sd_ret (ed_sl sl_any rp_sl (ed_var (pv 0)) od_none (od_some (ed_var (pv 1)))))))
theorem sc__law_stored : FnScope ["target", "value", "is_rounded", "units", "signed"] ["target", "value", "is_rounded"] (defScope s__law_stored) := ⟨rfl, rfl, rfl, by decide +kernel, rfl, by decide +kernel, by decide +kernel⟩
theorem d__law_stored {P : Program} {w : World} {K : PySem.W.Frag} {mg : Str → Option Value} {base : Heap} {k : Nat} {C : Tab} {f : Addr} {cdv : Value} {A : Around} {outer : List Env} {s : Shared} {H : Hp} {E : XK}
    (g : Gs P w K mg base k C) (hk : 2 ≤ k) (hr1 : Room (k + 1) (A.deeper (envOfC "_law_stored" (defScope s__law_stored) s.heap.objs.size f cdv))) :
    BD (cxOf (L2.CX P w) P w K mg base ["target", "value", "is_rounded", "units", "signed"] "_law_stored" (defScope s__law_stored) f cdv A outer s H E) (WW.of (K := K) fun c d _ H => E c d H) (defBody s__law_stored) (b__law_stored C) := by
  have sc := sc__law_stored
  have hr := hr1.mono (Nat.le_succ k)
  have hr2 := hr.mono hk
  have tk : Takes (cxOf (L2.CX P w) P w K mg base ["target", "value", "is_rounded", "units", "signed"] "_law_stored" (defScope s__law_stored) f cdv A outer s H E) (fun c d _ H => E c d H) := takes_of rfl rfl rfl rfl
  have po := passes_of (X := cxOf (L2.CX P w) P w K mg base ["target", "value", "is_rounded", "units", "signed"] "_law_stored" (defScope s__law_stored) f cdv A outer s H E) rfl
  have hu := hr.units
  have hv := room65 hr
  have hd := room1 hr
  exact (bd_cons (sd_set (i := 3) sc.nd rfl (Or.inl rfl) (ed_call g.c_units_at hr tk rfl (ad_cons (ed_var (pv 1)) (ad_cons (ed_ix ix_seq rp_ix (ed_var (pv 0)) ed_int (fun _ _ => rfl)) (ad_cons (ed_var (pv 2)) ad_nil))) (len_cons (len_cons (len_cons len_nil)))))
    (bd_cons (sd_set (i := 4) sc.nd rfl (Or.inl rfl) (ed_if (td_cmp (op_eqA hu) rp_eq (ed_ix ix_seq rp_ix (ed_var (pv 0)) ed_int (fun _ _ => rfl)) (ed_str (c := [110, 117, 109, 98, 101, 114]) rfl) (nomark _)) (ed_ix ix_seq rp_ix (ed_var (pv 0)) ed_int (fun _ _ => rfl)) (ed_cmp (op_neA hu) rp_ne (ed_ix ix_seq rp_ix (ed_var (pv 0)) ed_int (fun _ _ => rfl)) (ed_str (c := []) rfl) (nomark _))))
    (bd_cons (sd_if (td_w (wd_or (td_w (wd_and (td_cmp op_ltD rp_lt (ed_var (pv 3)) ed_int (nomark _)) (wd_and1 (td_not (td_val (ed_var (pv 4))))))) (wd_or1 (td_w (wd_and (td_cmp (op_neA hu) rp_ne (ed_var (pv 3)) ed_int (nomark _)) (wd_and1 (td_cmp op_gtD rp_gt (ed_callB call_len rp_len rfl g.f_len boot_len (ad_cons (ed_callTy call_str_int rp_str rfl g.f_str boot_str (ad_cons (ed_callB call_abs rp_abs rfl g.f_abs boot_abs (ad_cons (ed_var (pv 3)) ad_nil)) ad_nil)) ad_nil)) (ed_bin op_addD rp_add (ed_ix ix_seq rp_ix (ed_var (pv 0)) ed_int (fun _ _ => rfl)) (ed_ix ix_seq rp_ix (ed_var (pv 0)) ed_int (fun _ _ => rfl))) (nomark _)))))))) (bd_one (sd_ret ed_non)) bd_nil)
    (bd_one (sd_ret (ed_call g.c__law_written hr tk rfl (ad_cons (ed_var (pv 0)) (ad_cons (ed_var (pv 3)) ad_nil)) (len_cons (len_cons len_nil))))))))
theorem sc__law_moved : FnScope ["source", "content", "target", "rich"] ["source", "content", "target", "rich"] (defScope s__law_moved) := ⟨rfl, rfl, rfl, by decide +kernel, rfl, by decide +kernel, by decide +kernel⟩
theorem d__law_moved {P : Program} {w : World} {K : PySem.W.Frag} {mg : Str → Option Value} {base : Heap} {k : Nat} {C : Tab} {f : Addr} {cdv : Value} {A : Around} {outer : List Env} {s : Shared} {H : Hp} {E : XK}
    (g : Gs P w K mg base k C) (hk : 2 ≤ k) (hr1 : Room (k + 1) (A.deeper (envOfC "_law_moved" (defScope s__law_moved) s.heap.objs.size f cdv))) :
    BD (cxOf (L2.CX P w) P w K mg base ["source", "content", "target", "rich"] "_law_moved" (defScope s__law_moved) f cdv A outer s H E) (WW.of (K := K) fun c d _ H => E c d H) (defBody s__law_moved) (b__law_moved C) := by
  have sc := sc__law_moved
  have hr := hr1.mono (Nat.le_succ k)
  have hr2 := hr.mono hk
  have tk : Takes (cxOf (L2.CX P w) P w K mg base ["source", "content", "target", "rich"] "_law_moved" (defScope s__law_moved) f cdv A outer s H E) (fun c d _ H => E c d H) := takes_of rfl rfl rfl rfl
  have po := passes_of (X := cxOf (L2.CX P w) P w K mg base ["source", "content", "target", "rich"] "_law_moved" (defScope s__law_moved) f cdv A outer s H E) rfl
  have hu := hr.units
  have hv := room65 hr
  have hd := room1 hr
  exact (bd_cons (sd_if (td_cmp (op_eqA hu) rp_eq (ed_ix ix_seq rp_ix (ed_var (pv 2)) ed_int (fun _ _ => rfl)) (ed_str (c := [103, 114, 111, 117, 112]) rfl) (nomark _)) (bd_one (sd_ret (ed_var (pv 1)))) bd_nil)
    (bd_cons (sd_if (td_cmp (op_neA hu) rp_ne (ed_ix ix_seq rp_ix (ed_var (pv 2)) ed_int (fun _ _ => rfl)) (ed_str (c := [116, 101, 120, 116]) rfl) (nomark _)) (bd_one (sd_ret (ed_call g.c__law_cut hr tk rfl (ad_cons (ed_var (pv 2)) (ad_cons (ed_call g.c__law_value hr tk rfl (ad_cons (ed_var (pv 0)) (ad_cons (ed_var (pv 1)) (ad_cons (ed_var (pv 3)) ad_nil))) (len_cons (len_cons (len_cons len_nil)))) ad_nil)) (len_cons (len_cons len_nil))))) bd_nil)
    (bd_cons (sd_if (td_w (wd_and (td_cmp (op_eqA hu) rp_eq (ed_ix ix_seq rp_ix (ed_var (pv 0)) ed_int (fun _ _ => rfl)) (ed_str (c := [110, 117, 109, 98, 101, 114]) rfl) (nomark _)) (wd_and1 (td_val (ed_ix ix_seq rp_ix (ed_var (pv 0)) ed_int (fun _ _ => rfl)))))) (bd_one (sd_set (i := 1) sc.nd rfl (Or.inl rfl) (ed_sl sl_any rp_sl (ed_var (pv 1)) (od_some ed_int) od_none))) bd_nil)
    (bd_one (sd_ret (ed_call g.c__law_pad hr tk rfl (ad_cons (ed_var (pv 1)) (ad_cons (ed_ix ix_seq rp_ix (ed_var (pv 2)) ed_int (fun _ _ => rfl)) ad_nil)) (len_cons (len_cons len_nil))))))))
theorem sc_law : FnScope ["script", "k", "rich", "source", "target", "can", "content", "picture", "value", "size", "text"] ["script"] (defScope s_law) := ⟨rfl, rfl, rfl, by decide +kernel, rfl, by decide +kernel, by decide +kernel⟩
theorem d_law {P : Program} {w : World} {K : PySem.W.Frag} {mg : Str → Option Value} {base : Heap} {k : Nat} {C : Tab} {f : Addr} {cdv : Value} {A : Around} {outer : List Env} {s : Shared} {H : Hp} {E : XK}
    (g : Gs P w K mg base k C) (hk : 2 ≤ k) (hr1 : Room (k + 1) (A.deeper (envOfC "law" (defScope s_law) s.heap.objs.size f cdv))) :
    BD (cxOf (L2.CX P w) P w K mg base ["script", "k", "rich", "source", "target", "can", "content", "picture", "value", "size", "text"] "law" (defScope s_law) f cdv A outer s H E) (WW.of (K := K) fun c d _ H => E c d H) (defBody s_law) (b_law C) := by
  have sc := sc_law
  have hr := hr1.mono (Nat.le_succ k)
  have hr2 := hr.mono hk
  have tk : Takes (cxOf (L2.CX P w) P w K mg base ["script", "k", "rich", "source", "target", "can", "content", "picture", "value", "size", "text"] "law" (defScope s_law) f cdv A outer s H E) (fun c d _ H => E c d H) := takes_of rfl rfl rfl rfl
  have po := passes_of (X := cxOf (L2.CX P w) P w K mg base ["script", "k", "rich", "source", "target", "can", "content", "picture", "value", "size", "text"] "law" (defScope s_law) f cdv A outer s H E) rfl
  have hu := hr.units
  have hv := room65 hr
  have hd := room1 hr
  exact (bd_cons (sd_for po rfl (id_range1 rfl g.f_range (ad_cons (ed_callB (call_max2 rfl) rp_max2 rfl g.f_max boot_max (ad_cons ed_int (ad_cons (ed_callB (call_min2 rfl) rp_min2 rfl g.f_min boot_min (ad_cons ed_int (ad_cons (ed_callB call_len rp_len rfl g.f_len boot_len (ad_cons (ed_var (pv 0)) ad_nil)) ad_nil))) ad_nil))) ad_nil)) (gd_name (pg_name (i := 1) sc.nd rfl (Or.inl rfl))) (bd_cons (sd_set (i := 2) sc.nd rfl (Or.inl rfl) (ed_call g.c__law_rich hr tk rfl (ad_cons (ed_call g.c__law_cell hr tk rfl (ad_cons (ed_var (pv 0)) (ad_cons (ed_var (pv 1)) ad_nil)) (len_cons (len_cons len_nil))) (ad_cons (ed_var (pv 1)) ad_nil)) (len_cons (len_cons len_nil))))
    (bd_cons (sd_set (i := 3) sc.nd rfl (Or.inl rfl) (ed_ix ix_seq rp_ix (ed_lst (ad_cons (ed_tup (ad_cons (ed_str (c := [115, 116, 114, 105, 110, 103]) rfl) ad_nil)) (ad_cons (ed_tup (ad_cons (ed_str (c := [100, 101, 99, 105, 109, 97, 108]) rfl) ad_nil)) (ad_cons (ed_call g.c__law_side hr tk rfl (ad_cons (ed_bin op_fdivW rp_div (ed_var (pv 2)) ed_int) ad_nil) (len_cons len_nil)) (ad_cons (ed_call g.c__law_side hr tk rfl (ad_cons (ed_bin op_fdivW rp_div (ed_var (pv 2)) ed_int) ad_nil) (len_cons len_nil)) ad_nil))))) (ed_bin op_mod rp_mod (ed_var (pv 2)) ed_int) (fun _ _ => rfl)))
    (bd_cons (sd_set (i := 4) sc.nd rfl (Or.inl rfl) (ed_call g.c__law_side hr tk rfl (ad_cons (ed_bin op_fdivW rp_div (ed_var (pv 2)) ed_int) ad_nil) (len_cons len_nil)))
    (bd_cons (sd_if (td_w (wd_and (td_cmp (op_eqA hu) rp_eq (ed_bin op_mod rp_mod (ed_bin op_fdivW rp_div (ed_var (pv 2)) ed_int) ed_int) ed_int (nomark _)) (wd_and1 (td_cmp (op_eqA hu) rp_eq (ed_ix ix_seq rp_ix (ed_var (pv 3)) ed_int (fun _ _ => rfl)) (ed_str (c := [103, 114, 111, 117, 112]) rfl) (nomark _))))) (bd_one (sd_set (i := 4) sc.nd rfl (Or.inl rfl) (ed_var (pv 3)))) bd_nil)
    (bd_cons (sd_set (i := 5) sc.nd rfl (Or.inl rfl) (ed_call g.c__law_can hr tk rfl (ad_cons (ed_var (pv 3)) (ad_cons (ed_var (pv 4)) ad_nil)) (len_cons (len_cons len_nil))))
    (bd_cons (sd_if (td_w (wd_or (td_not (td_val (ed_callB call_isi rp_isi rfl g.f_isinstance boot_isinstance (ad_cons (ed_call g.c_can_move hr tk rfl (ad_cons (ed_var (pv 3)) (ad_cons (ed_var (pv 4)) ad_nil)) (len_cons (len_cons len_nil))) (ad_cons (ed_ty rfl g.f_bool boot_bool) ad_nil))))) (wd_or1 (td_cmp (op_neA hu) rp_ne (ed_call g.c_can_move hr tk rfl (ad_cons (ed_var (pv 3)) (ad_cons (ed_var (pv 4)) ad_nil)) (len_cons (len_cons len_nil))) (ed_var (pv 5)) (nomark _))))) (bd_one (sd_ret ed_bl)) bd_nil)
    (bd_cons (sd_set (i := 6) sc.nd rfl (Or.inl rfl) (ed_call g.c__law_content hr tk rfl (ad_cons (ed_var (pv 3)) (ad_cons (ed_bin op_fdivW rp_div (ed_var (pv 2)) ed_int) ad_nil)) (len_cons (len_cons len_nil))))
    (bd_cons (sd_if (td_val (ed_var (pv 5))) (bd_cons (sd_set (i := 10) sc.nd rfl (Or.inl rfl) (ed_call g.c_moved hr tk rfl (ad_cons (ed_var (pv 3)) (ad_cons (ed_var (pv 6)) (ad_cons (ed_var (pv 4)) ad_nil))) (len_cons (len_cons (len_cons len_nil)))))
    (bd_cons (sd_if (td_cmp (op_neA hu) rp_ne (ed_var (pv 10)) (ed_call g.c__law_moved hr tk rfl (ad_cons (ed_var (pv 3)) (ad_cons (ed_var (pv 6)) (ad_cons (ed_var (pv 4)) (ad_cons (ed_bin op_fdivW rp_div (ed_var (pv 2)) ed_int) ad_nil)))) (len_cons (len_cons (len_cons (len_cons len_nil))))) (nomark _)) (bd_one (sd_ret ed_bl)) bd_nil)
    (bd_one (sd_if (td_w (wd_and (td_cmp (op_neA hu) rp_ne (ed_ix ix_seq rp_ix (ed_var (pv 4)) ed_int (fun _ _ => rfl)) (ed_str (c := [103, 114, 111, 117, 112]) rfl) (nomark _)) (wd_and1 (td_not (td_val (ed_call g.c_holds hr tk rfl (ad_cons (ed_var (pv 4)) (ad_cons (ed_var (pv 10)) ad_nil)) (len_cons (len_cons len_nil)))))))) (bd_one (sd_ret ed_bl)) bd_nil)))) bd_nil)
    (bd_cons (sd_if (td_w (wd_and (td_cmp (op_eqA hu) rp_eq (ed_ix ix_seq rp_ix (ed_var (pv 3)) ed_int (fun _ _ => rfl)) (ed_str (c := [110, 117, 109, 98, 101, 114]) rfl) (nomark _)) (wd_and1 (td_cmp (op_neA hu) rp_ne (ed_call g.c_figures_of hr tk rfl (ad_cons (ed_var (pv 3)) (ad_cons (ed_var (pv 6)) ad_nil)) (len_cons (len_cons len_nil))) (ed_if (td_val (ed_ix ix_seq rp_ix (ed_var (pv 3)) ed_int (fun _ _ => rfl))) (ed_sl sl_any rp_sl (ed_var (pv 6)) (od_some ed_int) od_none) (ed_var (pv 6))) (nomark _))))) (bd_one (sd_ret ed_bl)) bd_nil)
    (bd_cons (sd_set (i := 7) sc.nd rfl (Or.inl rfl) (ed_call g.c__law_picture hr tk rfl (ad_cons (ed_bin op_fdivW rp_div (ed_var (pv 2)) ed_int) ad_nil) (len_cons len_nil)))
    (bd_cons (sd_set (i := 8) sc.nd rfl (Or.inl rfl) (ed_call g.c__law_number hr tk rfl (ad_cons (ed_bin op_fdivW rp_div (ed_var (pv 2)) ed_int) ad_nil) (len_cons len_nil)))
    (bd_cons (sd_if (td_cmp (op_neA hu) rp_ne (ed_ix ix_seq rp_ix (ed_var (pv 7)) ed_int (fun _ _ => rfl)) (ed_str (c := [116, 101, 120, 116]) rfl) (nomark _)) (bd_cons (sd_if (td_cmp (op_neA hu) rp_ne (ed_call g.c_cut_to hr tk rfl (ad_cons (ed_var (pv 7)) (ad_cons (ed_var (pv 8)) ad_nil)) (len_cons (len_cons len_nil))) (ed_call g.c__law_cut hr tk rfl (ad_cons (ed_var (pv 7)) (ad_cons (ed_var (pv 8)) ad_nil)) (len_cons (len_cons len_nil))) (nomark _)) (bd_one (sd_ret ed_bl)) bd_nil)
    (bd_one (sd_if (td_cmp (op_neA hu) rp_ne (ed_call g.c_stored hr tk rfl (ad_cons (ed_var (pv 7)) (ad_cons (ed_var (pv 8)) (ad_cons (ed_cmp (op_eqA hu) rp_eq (ed_bin op_mod rp_mod (ed_var (pv 2)) ed_int) ed_int (nomark _)) ad_nil))) (len_cons (len_cons (len_cons len_nil)))) (ed_call g.c__law_stored hr tk rfl (ad_cons (ed_var (pv 7)) (ad_cons (ed_var (pv 8)) (ad_cons (ed_cmp (op_eqA hu) rp_eq (ed_bin op_mod rp_mod (ed_var (pv 2)) ed_int) ed_int (nomark _)) ad_nil))) (len_cons (len_cons (len_cons len_nil)))) (nomark _)) (bd_one (sd_ret ed_bl)) bd_nil))) bd_nil)
    (bd_cons (sd_set (i := 9) sc.nd rfl (Or.inl rfl) (ed_bin op_mod rp_mod (ed_bin op_fdivW rp_div (ed_var (pv 2)) ed_int) ed_int))
    (bd_one (sd_if (td_cmp (op_neA hu) rp_ne (ed_call g.c_padded hr tk rfl (ad_cons (ed_str (c := [97, 98, 99, 100, 101]) rfl) (ad_cons (ed_var (pv 9)) ad_nil)) (len_cons (len_cons len_nil))) (ed_call g.c__law_pad hr tk rfl (ad_cons (ed_str (c := [97, 98, 99, 100, 101]) rfl) (ad_cons (ed_var (pv 9)) ad_nil)) (len_cons (len_cons len_nil))) (nomark _)) (bd_one (sd_ret ed_bl)) bd_nil))))))))))))))))
    (bd_one (sd_ret ed_bl)))
/-- what the written part holds -/
structure Fx (w : World) (K : PySem.W.Frag) (mg : Str → Option Value) : Prop where
  d_is_printable : FD K mg "is_printable" (defArgs s_is_printable) (defBody s_is_printable) (defScope s_is_printable) ["value"]
  d_are_figures : FD K mg "are_figures" (defArgs s_are_figures) (defBody s_are_figures) (defScope s_are_figures) ["value"]
  d_normal : FD K mg "normal" (defArgs s_normal) (defBody s_normal) (defScope s_normal) ["units", "scale"]
  d_power : FD K mg "power" (defArgs s_power) (defBody s_power) (defScope s_power) ["exponent"]
  d_aligned : FD K mg "aligned" (defArgs s_aligned) (defBody s_aligned) (defScope s_aligned) ["number", "scale"]
  d_quotient : FD K mg "quotient" (defArgs s_quotient) (defBody s_quotient) (defScope s_quotient) ["above", "below", "is_rounded"]
  d_units_at : FD K mg "units_at" (defArgs s_units_at) (defBody s_units_at) (defScope s_units_at) ["a", "scale", "is_rounded"]
  d_fits : FD K mg "fits" (defArgs s_fits) (defBody s_fits) (defScope s_fits) ["units", "digits"]
  d_size_of : FD K mg "size_of" (defArgs s_size_of) (defBody s_size_of) (defScope s_size_of) ["picture"]
  d_is_signed : FD K mg "is_signed" (defArgs s_is_signed) (defBody s_is_signed) (defScope s_is_signed) ["picture"]
  d_digits_in : FD K mg "digits_in" (defArgs s_digits_in) (defBody s_digits_in) (defScope s_digits_in) ["picture"]
  d_trimmed : FD K mg "trimmed" (defArgs s_trimmed) (defBody s_trimmed) (defScope s_trimmed) ["picture", "units"]
  d_suits : FD K mg "suits" (defArgs s_suits) (defBody s_suits) (defScope s_suits) ["picture", "units"]
  d__body : FD K mg "_body" (defArgs s__body) (defBody s__body) (defScope s__body) ["marks", "figures"]
  d__with_sign : FD K mg "_with_sign" (defArgs s__with_sign) (defBody s__with_sign) (defScope s__with_sign) ["body", "sign", "is_negative"]
  d_written : FD K mg "written" (defArgs s_written) (defBody s_written) (defScope s_written) ["picture", "units"]
  d__halves : FD K mg "_halves" (defArgs s__halves) (defBody s__halves) (defScope s__halves) ["picture", "text"]
  d_reading : FD K mg "reading" (defArgs s_reading) (defBody s_reading) (defScope s_reading) ["picture", "text"]
  d_holds : FD K mg "holds" (defArgs s_holds) (defBody s_holds) (defScope s_holds) ["picture", "text"]
  d_value_of : FD K mg "value_of" (defArgs s_value_of) (defBody s_value_of) (defScope s_value_of) ["picture", "text"]
  d_padded : FD K mg "padded" (defArgs s_padded) (defBody s_padded) (defScope s_padded) ["text", "size"]
  d_can_move : FD K mg "can_move" (defArgs s_can_move) (defBody s_can_move) (defScope s_can_move) ["source", "target"]
  d_figures_of : FD K mg "figures_of" (defArgs s_figures_of) (defBody s_figures_of) (defScope s_figures_of) ["picture", "text"]
  d_stored : FD K mg "stored" (defArgs s_stored) (defBody s_stored) (defScope s_stored) ["target", "value", "is_rounded"]
  d_cut_to : FD K mg "cut_to" (defArgs s_cut_to) (defBody s_cut_to) (defScope s_cut_to) ["target", "value"]
  d_moved : FD K mg "moved" (defArgs s_moved) (defBody s_moved) (defScope s_moved) ["source", "content", "target"]
  d__law_cell : FD K mg "_law_cell" (defArgs s__law_cell) (defBody s__law_cell) (defScope s__law_cell) ["script", "k"]
  d__law_rich : FD K mg "_law_rich" (defArgs s__law_rich) (defBody s__law_rich) (defScope s__law_rich) ["cell", "k"]
  d__law_word : FD K mg "_law_word" (defArgs s__law_word) (defBody s__law_word) (defScope s__law_word) ["size", "chars", "seed"]
  d__law_decimal : FD K mg "_law_decimal" (defArgs s__law_decimal) (defBody s__law_decimal) (defScope s__law_decimal) ["units", "scale"]
  d__law_number : FD K mg "_law_number" (defArgs s__law_number) (defBody s__law_number) (defScope s__law_number) ["rich"]
  d__law_picture : FD K mg "_law_picture" (defArgs s__law_picture) (defBody s__law_picture) (defScope s__law_picture) ["rich"]
  d__law_size : FD K mg "_law_size" (defArgs s__law_size) (defBody s__law_size) (defScope s__law_size) ["picture"]
  d__law_figures : FD K mg "_law_figures" (defArgs s__law_figures) (defBody s__law_figures) (defScope s__law_figures) ["units", "size"]
  d__law_body : FD K mg "_law_body" (defArgs s__law_body) (defBody s__law_body) (defScope s__law_body) ["marks", "figures"]
  d__law_written : FD K mg "_law_written" (defArgs s__law_written) (defBody s__law_written) (defScope s__law_written) ["picture", "units"]
  d__law_units : FD K mg "_law_units" (defArgs s__law_units) (defBody s__law_units) (defScope s__law_units) ["picture", "rich"]
  d__law_side : FD K mg "_law_side" (defArgs s__law_side) (defBody s__law_side) (defScope s__law_side) ["rich"]
  d__law_can : FD K mg "_law_can" (defArgs s__law_can) (defBody s__law_can) (defScope s__law_can) ["source", "target"]
  d__law_content : FD K mg "_law_content" (defArgs s__law_content) (defBody s__law_content) (defScope s__law_content) ["source", "rich"]
  d__law_value : FD K mg "_law_value" (defArgs s__law_value) (defBody s__law_value) (defScope s__law_value) ["source", "content", "rich"]
  d__law_cut : FD K mg "_law_cut" (defArgs s__law_cut) (defBody s__law_cut) (defScope s__law_cut) ["target", "value"]
  d__law_pad : FD K mg "_law_pad" (defArgs s__law_pad) (defBody s__law_pad) (defScope s__law_pad) ["text", "size"]
  d__law_stored : FD K mg "_law_stored" (defArgs s__law_stored) (defBody s__law_stored) (defScope s__law_stored) ["target", "value", "is_rounded"]
  d__law_moved : FD K mg "_law_moved" (defArgs s__law_moved) (defBody s__law_moved) (defScope s__law_moved) ["source", "content", "target", "rich"]
  d_law : FD K mg "law" (defArgs s_law) (defBody s_law) (defScope s_law) ["script"]
  f_abs : mg "abs" = none
  f_bool : mg "bool" = none
  f_int : mg "int" = none
  f_isinstance : mg "isinstance" = none
  f_len : mg "len" = none
  f_max : mg "max" = none
  f_min : mg "min" = none
  f_ord : mg "ord" = none
  f_range : mg "range" = none
  f_str : mg "str" = none
  f_tuple : mg "tuple" = none
  f_zip : mg "zip" = none
  k_PERCENT : GC K mg "PERCENT" (.int 37)
  k_FIGURES : GC K mg "FIGURES" (.str [48, 49, 50, 51, 52, 53, 54, 55, 56, 57])
  g_BadPicture : ExK K mg "BadPicture"
  g_TEXTS : mg "TEXTS" = some (.ref (He.ga K "TEXTS"))
  tb_TEXTS : TabOk K w "TEXTS" K_TEXTS
theorem gs_all {P : Program} {w : World} {K : PySem.W.Frag} {mg : Str → Option Value} {base : Heap} (x : Fx w K mg) : ∀ k, Gs P w K mg base (lv k) (T k)
  | 0 => ⟨callF_zeroN x.d_is_printable, callF_zeroN x.d_are_figures, callF_zeroN x.d_normal, callF_zeroN x.d_power, callF_zeroN x.d_aligned, callF_zeroN x.d_quotient, callF_zeroN x.d_units_at, callF_zeroN x.d_fits, callF_zeroN x.d_size_of, callF_zeroN x.d_is_signed, callF_zeroN x.d_digits_in, callF_zeroN x.d_trimmed, callF_zeroN x.d_suits, callF_zeroN x.d__body, callF_zeroN x.d__with_sign, callF_zeroN x.d_written, callF_zeroN x.d__halves, callF_zeroN x.d_reading, callF_zeroN x.d_holds, callF_zeroN x.d_value_of, callF_zeroN x.d_padded, callF_zeroN x.d_can_move, callF_zeroN x.d_figures_of, callF_zeroN x.d_stored, callF_zeroN x.d_cut_to, callF_zeroN x.d_moved, callF_zeroN x.d__law_cell, callF_zeroN x.d__law_rich, callF_zeroN x.d__law_word, callF_zeroN x.d__law_decimal, callF_zeroN x.d__law_number, callF_zeroN x.d__law_picture, callF_zeroN x.d__law_size, callF_zeroN x.d__law_figures, callF_zeroN x.d__law_body, callF_zeroN x.d__law_written, callF_zeroN x.d__law_units, callF_zeroN x.d__law_side, callF_zeroN x.d__law_can, callF_zeroN x.d__law_content, callF_zeroN x.d__law_value, callF_zeroN x.d__law_cut, callF_zeroN x.d__law_pad, callF_zeroN x.d__law_stored, callF_zeroN x.d__law_moved, callF_zeroN x.d_law, x.f_abs, x.f_bool, x.f_int, x.f_isinstance, x.f_len, x.f_max, x.f_min, x.f_ord, x.f_range, x.f_str, x.f_tuple, x.f_zip, x.k_PERCENT, x.k_FIGURES, x.g_BadPicture, x.g_TEXTS, x.tb_TEXTS⟩
  | k + 1 => by
    have g := gs_all (P := P) (w := w) (base := base) x k
    exact ⟨(callF_succ (k := lv k + 1) x.d_is_printable sc_is_printable rfl fun f cdv A outer s H E hr => d_is_printable g (lv_ge k) hr),
      (callF_succ (k := lv k + 1) x.d_are_figures sc_are_figures rfl fun f cdv A outer s H E hr => d_are_figures g (lv_ge k) hr),
      (callF_succ (k := lv k + 1) x.d_normal sc_normal rfl fun f cdv A outer s H E hr => d_normal g (lv_ge k) hr),
      (callF_succ (k := lv k + 1) x.d_power sc_power rfl fun f cdv A outer s H E hr => d_power g (lv_ge k) hr),
      (callF_succ (k := lv k + 1) x.d_aligned sc_aligned rfl fun f cdv A outer s H E hr => d_aligned g (lv_ge k) hr),
      (callF_succ (k := lv k + 1) x.d_quotient sc_quotient rfl fun f cdv A outer s H E hr => d_quotient g (lv_ge k) hr),
      (callF_succ (k := lv k + 1) x.d_units_at sc_units_at rfl fun f cdv A outer s H E hr => d_units_at g (lv_ge k) hr),
      (callF_succ (k := lv k + 1) x.d_fits sc_fits rfl fun f cdv A outer s H E hr => d_fits g (lv_ge k) hr),
      (callF_succ (k := lv k + 1) x.d_size_of sc_size_of rfl fun f cdv A outer s H E hr => d_size_of g (lv_ge k) hr),
      (callF_succ (k := lv k + 1) x.d_is_signed sc_is_signed rfl fun f cdv A outer s H E hr => d_is_signed g (lv_ge k) hr),
      (callF_succ (k := lv k + 1) x.d_digits_in sc_digits_in rfl fun f cdv A outer s H E hr => d_digits_in g (lv_ge k) hr),
      (callF_succ (k := lv k + 1) x.d_trimmed sc_trimmed rfl fun f cdv A outer s H E hr => d_trimmed g (lv_ge k) hr),
      (callF_succ (k := lv k + 1) x.d_suits sc_suits rfl fun f cdv A outer s H E hr => d_suits g (lv_ge k) hr),
      callF_trim (callF_succ (k := lv k + 1) x.d__body sc__body rfl fun f cdv A outer s H E hr => d__body g (lv_ge k) hr),
      (callF_succ (k := lv k + 1) x.d__with_sign sc__with_sign rfl fun f cdv A outer s H E hr => d__with_sign g (lv_ge k) hr),
      (callF_succ (k := lv k + 1) x.d_written sc_written rfl fun f cdv A outer s H E hr => d_written g (lv_ge k) hr),
      (callF_succ (k := lv k + 1) x.d__halves sc__halves rfl fun f cdv A outer s H E hr => d__halves g (lv_ge k) hr),
      (callF_succ (k := lv k + 1) x.d_reading sc_reading rfl fun f cdv A outer s H E hr => d_reading g (lv_ge k) hr),
      (callF_succ (k := lv k + 1) x.d_holds sc_holds rfl fun f cdv A outer s H E hr => d_holds g (lv_ge k) hr),
      (callF_succ (k := lv k + 1) x.d_value_of sc_value_of rfl fun f cdv A outer s H E hr => d_value_of g (lv_ge k) hr),
      (callF_succ (k := lv k + 1) x.d_padded sc_padded rfl fun f cdv A outer s H E hr => d_padded g (lv_ge k) hr),
      (callF_succ (k := lv k + 1) x.d_can_move sc_can_move rfl fun f cdv A outer s H E hr => d_can_move g (lv_ge k) hr),
      (callF_succ (k := lv k + 1) x.d_figures_of sc_figures_of rfl fun f cdv A outer s H E hr => d_figures_of g (lv_ge k) hr),
      (callF_succ (k := lv k + 1) x.d_stored sc_stored rfl fun f cdv A outer s H E hr => d_stored g (lv_ge k) hr),
      (callF_succ (k := lv k + 1) x.d_cut_to sc_cut_to rfl fun f cdv A outer s H E hr => d_cut_to g (lv_ge k) hr),
      (callF_succ (k := lv k + 1) x.d_moved sc_moved rfl fun f cdv A outer s H E hr => d_moved g (lv_ge k) hr),
      (callF_succ (k := lv k + 1) x.d__law_cell sc__law_cell rfl fun f cdv A outer s H E hr => d__law_cell g (lv_ge k) hr),
      (callF_succ (k := lv k + 1) x.d__law_rich sc__law_rich rfl fun f cdv A outer s H E hr => d__law_rich g (lv_ge k) hr),
      (callF_succ (k := lv k + 1) x.d__law_word sc__law_word rfl fun f cdv A outer s H E hr => d__law_word g (lv_ge k) hr),
      (callF_succ (k := lv k + 1) x.d__law_decimal sc__law_decimal rfl fun f cdv A outer s H E hr => d__law_decimal g (lv_ge k) hr),
      (callF_succ (k := lv k + 1) x.d__law_number sc__law_number rfl fun f cdv A outer s H E hr => d__law_number g (lv_ge k) hr),
      (callF_succ (k := lv k + 1) x.d__law_picture sc__law_picture rfl fun f cdv A outer s H E hr => d__law_picture g (lv_ge k) hr),
      callF_trim (callF_succ (k := lv k + 1) x.d__law_size sc__law_size rfl fun f cdv A outer s H E hr => d__law_size g (lv_ge k) hr),
      (callF_succ (k := lv k + 1) x.d__law_figures sc__law_figures rfl fun f cdv A outer s H E hr => d__law_figures g (lv_ge k) hr),
      callF_trim (callF_succ (k := lv k + 1) x.d__law_body sc__law_body rfl fun f cdv A outer s H E hr => d__law_body g (lv_ge k) hr),
      callF_trim (callF_succ (k := lv k + 1) x.d__law_written sc__law_written rfl fun f cdv A outer s H E hr => d__law_written g (lv_ge k) hr),
      (callF_succ (k := lv k + 1) x.d__law_units sc__law_units rfl fun f cdv A outer s H E hr => d__law_units g (lv_ge k) hr),
      callF_trim (callF_succ (k := lv k + 1) x.d__law_side sc__law_side rfl fun f cdv A outer s H E hr => d__law_side g (lv_ge k) hr),
      (callF_succ (k := lv k + 1) x.d__law_can sc__law_can rfl fun f cdv A outer s H E hr => d__law_can g (lv_ge k) hr),
      (callF_succ (k := lv k + 1) x.d__law_content sc__law_content rfl fun f cdv A outer s H E hr => d__law_content g (lv_ge k) hr),
      (callF_succ (k := lv k + 1) x.d__law_value sc__law_value rfl fun f cdv A outer s H E hr => d__law_value g (lv_ge k) hr),
      (callF_succ (k := lv k + 1) x.d__law_cut sc__law_cut rfl fun f cdv A outer s H E hr => d__law_cut g (lv_ge k) hr),
      (callF_succ (k := lv k + 1) x.d__law_pad sc__law_pad rfl fun f cdv A outer s H E hr => d__law_pad g (lv_ge k) hr),
      (callF_succ (k := lv k + 1) x.d__law_stored sc__law_stored rfl fun f cdv A outer s H E hr => d__law_stored g (lv_ge k) hr),
      (callF_succ (k := lv k + 1) x.d__law_moved sc__law_moved rfl fun f cdv A outer s H E hr => d__law_moved g (lv_ge k) hr),
      (callF_succ (k := lv k + 1) x.d_law sc_law rfl fun f cdv A outer s H E hr => d_law g (lv_ge k) hr),
      x.f_abs, x.f_bool, x.f_int, x.f_isinstance, x.f_len, x.f_max, x.f_min, x.f_ord, x.f_range, x.f_str, x.f_tuple, x.f_zip, x.k_PERCENT, x.k_FIGURES, x.g_BadPicture, x.g_TEXTS, x.tb_TEXTS⟩
def e_is_printable : He.DefD := ⟨("is_printable", none), "is_printable", "is_printable", defArgs s_is_printable, defBody s_is_printable, defScope s_is_printable, [], []⟩
def e_are_figures : He.DefD := ⟨("are_figures", none), "are_figures", "are_figures", defArgs s_are_figures, defBody s_are_figures, defScope s_are_figures, [], []⟩
def e_normal : He.DefD := ⟨("normal", none), "normal", "normal", defArgs s_normal, defBody s_normal, defScope s_normal, [], []⟩
def e_power : He.DefD := ⟨("power", none), "power", "power", defArgs s_power, defBody s_power, defScope s_power, [], []⟩
def e_aligned : He.DefD := ⟨("aligned", none), "aligned", "aligned", defArgs s_aligned, defBody s_aligned, defScope s_aligned, [], []⟩
def e_quotient : He.DefD := ⟨("quotient", none), "quotient", "quotient", defArgs s_quotient, defBody s_quotient, defScope s_quotient, [], []⟩
def e_units_at : He.DefD := ⟨("units_at", none), "units_at", "units_at", defArgs s_units_at, defBody s_units_at, defScope s_units_at, [], []⟩
def e_fits : He.DefD := ⟨("fits", none), "fits", "fits", defArgs s_fits, defBody s_fits, defScope s_fits, [], []⟩
def e_size_of : He.DefD := ⟨("size_of", none), "size_of", "size_of", defArgs s_size_of, defBody s_size_of, defScope s_size_of, [], []⟩
def e_is_signed : He.DefD := ⟨("is_signed", none), "is_signed", "is_signed", defArgs s_is_signed, defBody s_is_signed, defScope s_is_signed, [], []⟩
def e_digits_in : He.DefD := ⟨("digits_in", none), "digits_in", "digits_in", defArgs s_digits_in, defBody s_digits_in, defScope s_digits_in, [], []⟩
def e_trimmed : He.DefD := ⟨("trimmed", none), "trimmed", "trimmed", defArgs s_trimmed, defBody s_trimmed, defScope s_trimmed, [], []⟩
def e_suits : He.DefD := ⟨("suits", none), "suits", "suits", defArgs s_suits, defBody s_suits, defScope s_suits, [], []⟩
def e__body : He.DefD := ⟨("_body", none), "_body", "_body", defArgs s__body, defBody s__body, defScope s__body, [], []⟩
def e__with_sign : He.DefD := ⟨("_with_sign", none), "_with_sign", "_with_sign", defArgs s__with_sign, defBody s__with_sign, defScope s__with_sign, [], []⟩
def e_written : He.DefD := ⟨("written", none), "written", "written", defArgs s_written, defBody s_written, defScope s_written, [], []⟩
def e__halves : He.DefD := ⟨("_halves", none), "_halves", "_halves", defArgs s__halves, defBody s__halves, defScope s__halves, [], []⟩
def e_reading : He.DefD := ⟨("reading", none), "reading", "reading", defArgs s_reading, defBody s_reading, defScope s_reading, [], []⟩
def e_holds : He.DefD := ⟨("holds", none), "holds", "holds", defArgs s_holds, defBody s_holds, defScope s_holds, [], []⟩
def e_value_of : He.DefD := ⟨("value_of", none), "value_of", "value_of", defArgs s_value_of, defBody s_value_of, defScope s_value_of, [], []⟩
def e_padded : He.DefD := ⟨("padded", none), "padded", "padded", defArgs s_padded, defBody s_padded, defScope s_padded, [], []⟩
def e_can_move : He.DefD := ⟨("can_move", none), "can_move", "can_move", defArgs s_can_move, defBody s_can_move, defScope s_can_move, [], []⟩
def e_figures_of : He.DefD := ⟨("figures_of", none), "figures_of", "figures_of", defArgs s_figures_of, defBody s_figures_of, defScope s_figures_of, [], []⟩
def e_stored : He.DefD := ⟨("stored", none), "stored", "stored", defArgs s_stored, defBody s_stored, defScope s_stored, [], []⟩
def e_cut_to : He.DefD := ⟨("cut_to", none), "cut_to", "cut_to", defArgs s_cut_to, defBody s_cut_to, defScope s_cut_to, [], []⟩
def e_moved : He.DefD := ⟨("moved", none), "moved", "moved", defArgs s_moved, defBody s_moved, defScope s_moved, [], []⟩
def e__law_cell : He.DefD := ⟨("_law_cell", none), "_law_cell", "_law_cell", defArgs s__law_cell, defBody s__law_cell, defScope s__law_cell, [], []⟩
def e__law_rich : He.DefD := ⟨("_law_rich", none), "_law_rich", "_law_rich", defArgs s__law_rich, defBody s__law_rich, defScope s__law_rich, [], []⟩
def e__law_word : He.DefD := ⟨("_law_word", none), "_law_word", "_law_word", defArgs s__law_word, defBody s__law_word, defScope s__law_word, [], []⟩
def e__law_decimal : He.DefD := ⟨("_law_decimal", none), "_law_decimal", "_law_decimal", defArgs s__law_decimal, defBody s__law_decimal, defScope s__law_decimal, [], []⟩
def e__law_number : He.DefD := ⟨("_law_number", none), "_law_number", "_law_number", defArgs s__law_number, defBody s__law_number, defScope s__law_number, [], []⟩
def e__law_picture : He.DefD := ⟨("_law_picture", none), "_law_picture", "_law_picture", defArgs s__law_picture, defBody s__law_picture, defScope s__law_picture, [], []⟩
def e__law_size : He.DefD := ⟨("_law_size", none), "_law_size", "_law_size", defArgs s__law_size, defBody s__law_size, defScope s__law_size, [], []⟩
def e__law_figures : He.DefD := ⟨("_law_figures", none), "_law_figures", "_law_figures", defArgs s__law_figures, defBody s__law_figures, defScope s__law_figures, [], []⟩
def e__law_body : He.DefD := ⟨("_law_body", none), "_law_body", "_law_body", defArgs s__law_body, defBody s__law_body, defScope s__law_body, [], []⟩
def e__law_written : He.DefD := ⟨("_law_written", none), "_law_written", "_law_written", defArgs s__law_written, defBody s__law_written, defScope s__law_written, [], []⟩
def e__law_units : He.DefD := ⟨("_law_units", none), "_law_units", "_law_units", defArgs s__law_units, defBody s__law_units, defScope s__law_units, [], []⟩
def e__law_side : He.DefD := ⟨("_law_side", none), "_law_side", "_law_side", defArgs s__law_side, defBody s__law_side, defScope s__law_side, [], []⟩
def e__law_can : He.DefD := ⟨("_law_can", none), "_law_can", "_law_can", defArgs s__law_can, defBody s__law_can, defScope s__law_can, [], []⟩
def e__law_content : He.DefD := ⟨("_law_content", none), "_law_content", "_law_content", defArgs s__law_content, defBody s__law_content, defScope s__law_content, [], []⟩
def e__law_value : He.DefD := ⟨("_law_value", none), "_law_value", "_law_value", defArgs s__law_value, defBody s__law_value, defScope s__law_value, [], []⟩
def e__law_cut : He.DefD := ⟨("_law_cut", none), "_law_cut", "_law_cut", defArgs s__law_cut, defBody s__law_cut, defScope s__law_cut, [], []⟩
def e__law_pad : He.DefD := ⟨("_law_pad", none), "_law_pad", "_law_pad", defArgs s__law_pad, defBody s__law_pad, defScope s__law_pad, [], []⟩
def e__law_stored : He.DefD := ⟨("_law_stored", none), "_law_stored", "_law_stored", defArgs s__law_stored, defBody s__law_stored, defScope s__law_stored, [], []⟩
def e__law_moved : He.DefD := ⟨("_law_moved", none), "_law_moved", "_law_moved", defArgs s__law_moved, defBody s__law_moved, defScope s__law_moved, [], []⟩
def e_law : He.DefD := ⟨("law", none), "law", "law", defArgs s_law, defBody s_law, defScope s_law, [], []⟩
def fn : List He.DefD := [e_is_printable, e_are_figures, e_normal, e_power, e_aligned, e_quotient, e_units_at, e_fits, e_size_of, e_is_signed, e_digits_in, e_trimmed, e_suits, e__body, e__with_sign, e_written, e__halves, e_reading, e_holds, e_value_of, e_padded, e_can_move, e_figures_of, e_stored, e_cut_to, e_moved, e__law_cell, e__law_rich, e__law_word, e__law_decimal, e__law_number, e__law_picture, e__law_size, e__law_figures, e__law_body, e__law_written, e__law_units, e__law_side, e__law_can, e__law_content, e__law_value, e__law_cut, e__law_pad, e__law_stored, e__law_moved, e_law]
def ex (K : PySem.W.Frag) : Bool := tabC K "TEXTS" K_TEXTS && (true)
def fa : List He.Fa := [.glo "is_printable", .glo "are_figures", .glo "normal", .glo "power", .glo "aligned", .glo "quotient", .glo "units_at", .glo "fits", .glo "size_of", .glo "is_signed", .glo "digits_in", .glo "trimmed", .glo "suits", .glo "_body", .glo "_with_sign", .glo "written", .glo "_halves", .glo "reading", .glo "holds", .glo "value_of", .glo "padded", .glo "can_move", .glo "figures_of", .glo "stored", .glo "cut_to", .glo "moved", .glo "_law_cell", .glo "_law_rich", .glo "_law_word", .glo "_law_decimal", .glo "_law_number", .glo "_law_picture", .glo "_law_size", .glo "_law_figures", .glo "_law_body", .glo "_law_written", .glo "_law_units", .glo "_law_side", .glo "_law_can", .glo "_law_content", .glo "_law_value", .glo "_law_cut", .glo "_law_pad", .glo "_law_stored", .glo "_law_moved", .glo "law", .free "abs", .free "bool", .free "int", .free "isinstance", .free "len", .free "max", .free "min", .free "ord", .free "range", .free "str", .free "tuple", .free "zip", .int "PERCENT" 37, .str "FIGURES" "0123456789", .glo "BadPicture", .exc "BadPicture", .glo "TEXTS"]
abbrev R : PySem.W.OpenRow := PySem.W.OpenLaw.row PySem.Challenge.rw_cardwright_k23_moves_and_stores
def ts : List PD.TabN := [("TEXTS", keysT K_TEXTS)]
abbrev hk : PySem.W.Hook := PD.hookBT 4 fa fn ex ts
def ob (s : PySem.W.SharedT) : (He.AlD × Bool) × List (Option (List (Option (Str × Int)))) := PD.obsBT 4 fa fn ex ts (HandSHeadRun.getT s)
theorem ob_eq (s : PySem.W.SharedT) : ob s = hk.obs s.abs := PD.obsBT_eq (HandSHeadRun.getT_eq s)
def loose : List Str := (["CardError", "BadPicture", "is_printable", "are_figures", "normal", "power", "aligned", "quotient", "units_at", "fits", "size_of", "is_signed", "digits_in", "trimmed", "suits", "_body", "_with_sign", "written", "_halves", "reading"] : List Str) ++ (["holds", "value_of", "padded", "can_move", "figures_of", "stored", "cut_to", "moved", "_law_cell", "_law_rich", "_law_word", "_law_decimal", "_law_number", "_law_picture", "_law_size", "_law_figures", "_law_body", "_law_written", "_law_units", "_law_side"] : List Str) ++ (["_law_can", "_law_content", "_law_value", "_law_cut", "_law_pad", "_law_stored", "_law_moved", "FIGURES", "PERCENT", "TEXTS"] : List Str)
theorem run0 (b : Bool) (w : World) : HandSHeadRun.RunEq R (PySem.W.view R.prog [57]) hk ob 4080 loose (w.withFollow "special-get-raises" b) := by
  intro os
  cases b <;> kernel_rfl
theorem run (w : World) : HandSHeadRun.RunEq R (PySem.W.view R.prog [57]) hk ob 4080 loose w := by
  have h := run0 (w.params.followText "special-get-raises") w
  rwa [World.withFollow_self] at h
theorem facts {w : World} {K : PySem.W.Frag} {h : Heap} {mg : Str → Option Value} (X : K.In h) (G : h.Ns mainGlobals mg) (c : He.SaysD fa fn K) (c2 : ex K = true) (c3 : ts.map (fun (t : PD.TabN) => He.dicW K (He.ga K t.1)) = ts.map fun (t : PD.TabN) => some (He.keysIn w.params t.2)) : Fx w K mg := by
  obtain ⟨q0, c2⟩ := He.ba c2
  refine ⟨?_, ?_, ?_, ?_, ?_, ?_, ?_, ?_, ?_, ?_, ?_, ?_, ?_, ?_, ?_, ?_, ?_, ?_, ?_, ?_, ?_, ?_, ?_, ?_, ?_, ?_, ?_, ?_, ?_, ?_, ?_, ?_, ?_, ?_, ?_, ?_, ?_, ?_, ?_, ?_, ?_, ?_, ?_, ?_, ?_, ?_, ?_, ?_, ?_, ?_, ?_, ?_, ?_, ?_, ?_, ?_, ?_, ?_, ?_, ?_, ?_, ?_, ?_⟩
  · obtain ⟨fd, F⟩ := c.def_ 0 (d := e_is_printable) rfl
    exact ⟨_, fd, F, He.glo_ok X G (c.fact 0 rfl), FunD.bindsN F fun _ _ _ _ _ _ us hl => match us, hl with | [_], _ => rfl⟩
  · obtain ⟨fd, F⟩ := c.def_ 1 (d := e_are_figures) rfl
    exact ⟨_, fd, F, He.glo_ok X G (c.fact 1 rfl), FunD.bindsN F fun _ _ _ _ _ _ us hl => match us, hl with | [_], _ => rfl⟩
  · obtain ⟨fd, F⟩ := c.def_ 2 (d := e_normal) rfl
    exact ⟨_, fd, F, He.glo_ok X G (c.fact 2 rfl), FunD.bindsN F fun _ _ _ _ _ _ us hl => match us, hl with | [_, _], _ => rfl⟩
  · obtain ⟨fd, F⟩ := c.def_ 3 (d := e_power) rfl
    exact ⟨_, fd, F, He.glo_ok X G (c.fact 3 rfl), FunD.bindsN F fun _ _ _ _ _ _ us hl => match us, hl with | [_], _ => rfl⟩
  · obtain ⟨fd, F⟩ := c.def_ 4 (d := e_aligned) rfl
    exact ⟨_, fd, F, He.glo_ok X G (c.fact 4 rfl), FunD.bindsN F fun _ _ _ _ _ _ us hl => match us, hl with | [_, _], _ => rfl⟩
  · obtain ⟨fd, F⟩ := c.def_ 5 (d := e_quotient) rfl
    exact ⟨_, fd, F, He.glo_ok X G (c.fact 5 rfl), FunD.bindsN F fun _ _ _ _ _ _ us hl => match us, hl with | [_, _, _], _ => rfl⟩
  · obtain ⟨fd, F⟩ := c.def_ 6 (d := e_units_at) rfl
    exact ⟨_, fd, F, He.glo_ok X G (c.fact 6 rfl), FunD.bindsN F fun _ _ _ _ _ _ us hl => match us, hl with | [_, _, _], _ => rfl⟩
  · obtain ⟨fd, F⟩ := c.def_ 7 (d := e_fits) rfl
    exact ⟨_, fd, F, He.glo_ok X G (c.fact 7 rfl), FunD.bindsN F fun _ _ _ _ _ _ us hl => match us, hl with | [_, _], _ => rfl⟩
  · obtain ⟨fd, F⟩ := c.def_ 8 (d := e_size_of) rfl
    exact ⟨_, fd, F, He.glo_ok X G (c.fact 8 rfl), FunD.bindsN F fun _ _ _ _ _ _ us hl => match us, hl with | [_], _ => rfl⟩
  · obtain ⟨fd, F⟩ := c.def_ 9 (d := e_is_signed) rfl
    exact ⟨_, fd, F, He.glo_ok X G (c.fact 9 rfl), FunD.bindsN F fun _ _ _ _ _ _ us hl => match us, hl with | [_], _ => rfl⟩
  · obtain ⟨fd, F⟩ := c.def_ 10 (d := e_digits_in) rfl
    exact ⟨_, fd, F, He.glo_ok X G (c.fact 10 rfl), FunD.bindsN F fun _ _ _ _ _ _ us hl => match us, hl with | [_], _ => rfl⟩
  · obtain ⟨fd, F⟩ := c.def_ 11 (d := e_trimmed) rfl
    exact ⟨_, fd, F, He.glo_ok X G (c.fact 11 rfl), FunD.bindsN F fun _ _ _ _ _ _ us hl => match us, hl with | [_, _], _ => rfl⟩
  · obtain ⟨fd, F⟩ := c.def_ 12 (d := e_suits) rfl
    exact ⟨_, fd, F, He.glo_ok X G (c.fact 12 rfl), FunD.bindsN F fun _ _ _ _ _ _ us hl => match us, hl with | [_, _], _ => rfl⟩
  · obtain ⟨fd, F⟩ := c.def_ 13 (d := e__body) rfl
    exact ⟨_, fd, F, He.glo_ok X G (c.fact 13 rfl), FunD.bindsN F fun _ _ _ _ _ _ us hl => match us, hl with | [_, _], _ => rfl⟩
  · obtain ⟨fd, F⟩ := c.def_ 14 (d := e__with_sign) rfl
    exact ⟨_, fd, F, He.glo_ok X G (c.fact 14 rfl), FunD.bindsN F fun _ _ _ _ _ _ us hl => match us, hl with | [_, _, _], _ => rfl⟩
  · obtain ⟨fd, F⟩ := c.def_ 15 (d := e_written) rfl
    exact ⟨_, fd, F, He.glo_ok X G (c.fact 15 rfl), FunD.bindsN F fun _ _ _ _ _ _ us hl => match us, hl with | [_, _], _ => rfl⟩
  · obtain ⟨fd, F⟩ := c.def_ 16 (d := e__halves) rfl
    exact ⟨_, fd, F, He.glo_ok X G (c.fact 16 rfl), FunD.bindsN F fun _ _ _ _ _ _ us hl => match us, hl with | [_, _], _ => rfl⟩
  · obtain ⟨fd, F⟩ := c.def_ 17 (d := e_reading) rfl
    exact ⟨_, fd, F, He.glo_ok X G (c.fact 17 rfl), FunD.bindsN F fun _ _ _ _ _ _ us hl => match us, hl with | [_, _], _ => rfl⟩
  · obtain ⟨fd, F⟩ := c.def_ 18 (d := e_holds) rfl
    exact ⟨_, fd, F, He.glo_ok X G (c.fact 18 rfl), FunD.bindsN F fun _ _ _ _ _ _ us hl => match us, hl with | [_, _], _ => rfl⟩
  · obtain ⟨fd, F⟩ := c.def_ 19 (d := e_value_of) rfl
    exact ⟨_, fd, F, He.glo_ok X G (c.fact 19 rfl), FunD.bindsN F fun _ _ _ _ _ _ us hl => match us, hl with | [_, _], _ => rfl⟩
  · obtain ⟨fd, F⟩ := c.def_ 20 (d := e_padded) rfl
    exact ⟨_, fd, F, He.glo_ok X G (c.fact 20 rfl), FunD.bindsN F fun _ _ _ _ _ _ us hl => match us, hl with | [_, _], _ => rfl⟩
  · obtain ⟨fd, F⟩ := c.def_ 21 (d := e_can_move) rfl
    exact ⟨_, fd, F, He.glo_ok X G (c.fact 21 rfl), FunD.bindsN F fun _ _ _ _ _ _ us hl => match us, hl with | [_, _], _ => rfl⟩
  · obtain ⟨fd, F⟩ := c.def_ 22 (d := e_figures_of) rfl
    exact ⟨_, fd, F, He.glo_ok X G (c.fact 22 rfl), FunD.bindsN F fun _ _ _ _ _ _ us hl => match us, hl with | [_, _], _ => rfl⟩
  · obtain ⟨fd, F⟩ := c.def_ 23 (d := e_stored) rfl
    exact ⟨_, fd, F, He.glo_ok X G (c.fact 23 rfl), FunD.bindsN F fun _ _ _ _ _ _ us hl => match us, hl with | [_, _, _], _ => rfl⟩
  · obtain ⟨fd, F⟩ := c.def_ 24 (d := e_cut_to) rfl
    exact ⟨_, fd, F, He.glo_ok X G (c.fact 24 rfl), FunD.bindsN F fun _ _ _ _ _ _ us hl => match us, hl with | [_, _], _ => rfl⟩
  · obtain ⟨fd, F⟩ := c.def_ 25 (d := e_moved) rfl
    exact ⟨_, fd, F, He.glo_ok X G (c.fact 25 rfl), FunD.bindsN F fun _ _ _ _ _ _ us hl => match us, hl with | [_, _, _], _ => rfl⟩
  · obtain ⟨fd, F⟩ := c.def_ 26 (d := e__law_cell) rfl
    exact ⟨_, fd, F, He.glo_ok X G (c.fact 26 rfl), FunD.bindsN F fun _ _ _ _ _ _ us hl => match us, hl with | [_, _], _ => rfl⟩
  · obtain ⟨fd, F⟩ := c.def_ 27 (d := e__law_rich) rfl
    exact ⟨_, fd, F, He.glo_ok X G (c.fact 27 rfl), FunD.bindsN F fun _ _ _ _ _ _ us hl => match us, hl with | [_, _], _ => rfl⟩
  · obtain ⟨fd, F⟩ := c.def_ 28 (d := e__law_word) rfl
    exact ⟨_, fd, F, He.glo_ok X G (c.fact 28 rfl), FunD.bindsN F fun _ _ _ _ _ _ us hl => match us, hl with | [_, _, _], _ => rfl⟩
  · obtain ⟨fd, F⟩ := c.def_ 29 (d := e__law_decimal) rfl
    exact ⟨_, fd, F, He.glo_ok X G (c.fact 29 rfl), FunD.bindsN F fun _ _ _ _ _ _ us hl => match us, hl with | [_, _], _ => rfl⟩
  · obtain ⟨fd, F⟩ := c.def_ 30 (d := e__law_number) rfl
    exact ⟨_, fd, F, He.glo_ok X G (c.fact 30 rfl), FunD.bindsN F fun _ _ _ _ _ _ us hl => match us, hl with | [_], _ => rfl⟩
  · obtain ⟨fd, F⟩ := c.def_ 31 (d := e__law_picture) rfl
    exact ⟨_, fd, F, He.glo_ok X G (c.fact 31 rfl), FunD.bindsN F fun _ _ _ _ _ _ us hl => match us, hl with | [_], _ => rfl⟩
  · obtain ⟨fd, F⟩ := c.def_ 32 (d := e__law_size) rfl
    exact ⟨_, fd, F, He.glo_ok X G (c.fact 32 rfl), FunD.bindsN F fun _ _ _ _ _ _ us hl => match us, hl with | [_], _ => rfl⟩
  · obtain ⟨fd, F⟩ := c.def_ 33 (d := e__law_figures) rfl
    exact ⟨_, fd, F, He.glo_ok X G (c.fact 33 rfl), FunD.bindsN F fun _ _ _ _ _ _ us hl => match us, hl with | [_, _], _ => rfl⟩
  · obtain ⟨fd, F⟩ := c.def_ 34 (d := e__law_body) rfl
    exact ⟨_, fd, F, He.glo_ok X G (c.fact 34 rfl), FunD.bindsN F fun _ _ _ _ _ _ us hl => match us, hl with | [_, _], _ => rfl⟩
  · obtain ⟨fd, F⟩ := c.def_ 35 (d := e__law_written) rfl
    exact ⟨_, fd, F, He.glo_ok X G (c.fact 35 rfl), FunD.bindsN F fun _ _ _ _ _ _ us hl => match us, hl with | [_, _], _ => rfl⟩
  · obtain ⟨fd, F⟩ := c.def_ 36 (d := e__law_units) rfl
    exact ⟨_, fd, F, He.glo_ok X G (c.fact 36 rfl), FunD.bindsN F fun _ _ _ _ _ _ us hl => match us, hl with | [_, _], _ => rfl⟩
  · obtain ⟨fd, F⟩ := c.def_ 37 (d := e__law_side) rfl
    exact ⟨_, fd, F, He.glo_ok X G (c.fact 37 rfl), FunD.bindsN F fun _ _ _ _ _ _ us hl => match us, hl with | [_], _ => rfl⟩
  · obtain ⟨fd, F⟩ := c.def_ 38 (d := e__law_can) rfl
    exact ⟨_, fd, F, He.glo_ok X G (c.fact 38 rfl), FunD.bindsN F fun _ _ _ _ _ _ us hl => match us, hl with | [_, _], _ => rfl⟩
  · obtain ⟨fd, F⟩ := c.def_ 39 (d := e__law_content) rfl
    exact ⟨_, fd, F, He.glo_ok X G (c.fact 39 rfl), FunD.bindsN F fun _ _ _ _ _ _ us hl => match us, hl with | [_, _], _ => rfl⟩
  · obtain ⟨fd, F⟩ := c.def_ 40 (d := e__law_value) rfl
    exact ⟨_, fd, F, He.glo_ok X G (c.fact 40 rfl), FunD.bindsN F fun _ _ _ _ _ _ us hl => match us, hl with | [_, _, _], _ => rfl⟩
  · obtain ⟨fd, F⟩ := c.def_ 41 (d := e__law_cut) rfl
    exact ⟨_, fd, F, He.glo_ok X G (c.fact 41 rfl), FunD.bindsN F fun _ _ _ _ _ _ us hl => match us, hl with | [_, _], _ => rfl⟩
  · obtain ⟨fd, F⟩ := c.def_ 42 (d := e__law_pad) rfl
    exact ⟨_, fd, F, He.glo_ok X G (c.fact 42 rfl), FunD.bindsN F fun _ _ _ _ _ _ us hl => match us, hl with | [_, _], _ => rfl⟩
  · obtain ⟨fd, F⟩ := c.def_ 43 (d := e__law_stored) rfl
    exact ⟨_, fd, F, He.glo_ok X G (c.fact 43 rfl), FunD.bindsN F fun _ _ _ _ _ _ us hl => match us, hl with | [_, _, _], _ => rfl⟩
  · obtain ⟨fd, F⟩ := c.def_ 44 (d := e__law_moved) rfl
    exact ⟨_, fd, F, He.glo_ok X G (c.fact 44 rfl), FunD.bindsN F fun _ _ _ _ _ _ us hl => match us, hl with | [_, _, _, _], _ => rfl⟩
  · obtain ⟨fd, F⟩ := c.def_ 45 (d := e_law) rfl
    exact ⟨_, fd, F, He.glo_ok X G (c.fact 45 rfl), FunD.bindsN F fun _ _ _ _ _ _ us hl => match us, hl with | [_], _ => rfl⟩
  · exact He.free_ok X G (c.fact 46 rfl)
  · exact He.free_ok X G (c.fact 47 rfl)
  · exact He.free_ok X G (c.fact 48 rfl)
  · exact He.free_ok X G (c.fact 49 rfl)
  · exact He.free_ok X G (c.fact 50 rfl)
  · exact He.free_ok X G (c.fact 51 rfl)
  · exact He.free_ok X G (c.fact 52 rfl)
  · exact He.free_ok X G (c.fact 53 rfl)
  · exact He.free_ok X G (c.fact 54 rfl)
  · exact He.free_ok X G (c.fact 55 rfl)
  · exact He.free_ok X G (c.fact 56 rfl)
  · exact He.free_ok X G (c.fact 57 rfl)
  · obtain ⟨t, e⟩ := He.int_ok X G (c.fact 58 rfl)
    exact ⟨_, .int 37, e, ⟨t, rfl⟩, fun _ _ => by simp [DV]⟩
  · obtain ⟨t, e⟩ := He.str_ok X G (c.fact 59 rfl)
    exact ⟨_, .str "0123456789", e, ⟨t, rfl⟩, fun _ _ => by simp only [DV]; rfl⟩
  · have h := He.exc_ok (c.fact 61 rfl)
    exact ⟨He.glo_ok X G (c.fact 60 rfl), h.1, h.2.1, h.2.2.1, h.2.2.2⟩
  · exact He.glo_ok X G (c.fact 62 rfl)
  · exact tab_of q0 (tab_at c3 0 (t := ("TEXTS", keysT K_TEXTS)) rfl)
theorem a_raise {e : Exn} {E : Evn} {S : Sto} : mRaise e E S = .ex e E S := rfl
theorem a_repl {y z : Tx} {o : ME} {E : Evn} {S : Sto} : mRepl y z o E S = (o E S).bind fun x S1 => (match x with
  | .str a => open Classical in if replOk a z then .ok (.str (StrLaws.replL y z a)) S1 else .bad
  | _ => .bad) := rfl
local macro_rules | `(tactic| walk_at "ev") => `(tactic| simp only [a_raise, a_repl, g_ixLoc, g_lenLoc', ixD_0, ixD_1, ixD_2, ixD_3, Bool.true_and, Bool.false_and, Bool.and_true, Bool.and_false, Bool.or_true, Bool.true_or, Bool.or_false, Bool.false_or, a_sm, a_lm, a_iany, a_comp, a_yes, g_mulAI, g_mulAS, g_slS, g_slT, g_slL, g_slF, g_revL, g_revF, g_starts, g_ends, g_joinM, g_zfill, g_str, g_intAI, g_intAB, g_intAS, g_ord, g_inC, g_notInC, g_allM, g_anyM, g_append, g_pop, a_range3, a_int3, a_gI, g_listL, g_listF, g_listT, g_tupL, g_tupF, g_tupT, a_run, a_turn, a_seq, a_skip, a_break, a_cont, a_if, a_ret, a_retN, a_drop, a_set, a_asg, a_aug, a_for, a_var, a_c, a_bin, a_un, a_b, a_nil, a_cons, a_tup, a_lst, a_loc, a_call, a_and, a_or, a_not, a_andV, a_orV, a_notV, a_ifE, a_asB, a_sl, a_nopart, a_part, a_gN, a_gT, a_gsNil, a_gsCons, noex_ok, a_range1, a_range2, a_iseq, a_int1, a_int2, g_add, g_addA, g_addAS, g_addS, g_addT, g_addL, g_sub, g_mul, g_div, g_mod, g_pow, g_lt, g_gt, g_le, g_ge, g_ltS, g_gtS, g_leS, g_geS, g_eq, g_ne, g_eqS, g_neS, g_eqB, g_neB, g_neg, g_abs, g_max, g_min, g_int, g_intB, g_ixT, g_ixL, g_ixF, g_lenT, g_lenL, g_lenF, g_lenS, at_nat, at_0, at_1, at_2, at_3, at_4, bind_ok, toS_ok, bind_ex, toS_ex, decide_eq_true_eq, Bool.not_eq_true, decide_eq_false_iff_not, List.map, List.length, List.length_map, List.replicate, List.cons_append, List.nil_append, List.append_nil, List.set, List.getElem?_cons_succ, List.getElem?_cons_zero, Nat.sub_self, Nat.reduceSub, Nat.reduceAdd, Int.toNat_natCast, if_true, if_false, ite_true, ite_false, reduceIte, Bool.false_eq_true, Bool.true_eq_false, Bool.not_true, Bool.not_false, decide_true, decide_false, isi_non_int, isi_non_bool, isi_non_str, isi_non_tuple, isi_non_list, isi_non_dict, isi_bl_int, isi_bl_bool, isi_bl_str, isi_bl_tuple, isi_bl_list, isi_bl_dict, isi_int_int, isi_int_bool, isi_int_str, isi_int_tuple, isi_int_list, isi_int_dict, isi_str_int, isi_str_bool, isi_str_str, isi_str_tuple, isi_str_list, isi_str_dict, isi_tup_int, isi_tup_bool, isi_tup_str, isi_tup_tuple, isi_tup_list, isi_tup_dict, isi_lst_int, isi_lst_bool, isi_lst_str, isi_lst_tuple, isi_lst_list, isi_lst_dict, isi_fz_int, isi_fz_bool, isi_fz_str, isi_fz_tuple, isi_fz_list, isi_fz_dict, so0, so1, so2, so3, so4, so5, so6, so7, so8, so9, so10, do10, mo10])
local macro_rules | `(tactic| walk_at "ev*") => `(tactic| simp only [a_raise, a_repl, g_ixLoc, g_lenLoc', ixD_0, ixD_1, ixD_2, ixD_3, Bool.true_and, Bool.false_and, Bool.and_true, Bool.and_false, Bool.or_true, Bool.true_or, Bool.or_false, Bool.false_or, a_sm, a_lm, a_iany, a_comp, a_yes, g_mulAI, g_mulAS, g_slS, g_slT, g_slL, g_slF, g_revL, g_revF, g_starts, g_ends, g_joinM, g_zfill, g_str, g_intAI, g_intAB, g_intAS, g_ord, g_inC, g_notInC, g_allM, g_anyM, g_append, g_pop, a_range3, a_int3, a_gI, g_listL, g_listF, g_listT, g_tupL, g_tupF, g_tupT, a_run, a_turn, a_seq, a_skip, a_break, a_cont, a_if, a_ret, a_retN, a_drop, a_set, a_asg, a_aug, a_for, a_var, a_c, a_bin, a_un, a_b, a_nil, a_cons, a_tup, a_lst, a_loc, a_call, a_and, a_or, a_not, a_andV, a_orV, a_notV, a_ifE, a_asB, a_sl, a_nopart, a_part, a_gN, a_gT, a_gsNil, a_gsCons, noex_ok, a_range1, a_range2, a_iseq, a_int1, a_int2, g_add, g_addA, g_addAS, g_addS, g_addT, g_addL, g_sub, g_mul, g_div, g_mod, g_pow, g_lt, g_gt, g_le, g_ge, g_ltS, g_gtS, g_leS, g_geS, g_eq, g_ne, g_eqS, g_neS, g_eqB, g_neB, g_neg, g_abs, g_max, g_min, g_int, g_intB, g_ixT, g_ixL, g_ixF, g_lenT, g_lenL, g_lenF, g_lenS, at_nat, at_0, at_1, at_2, at_3, at_4, bind_ok, toS_ok, bind_ex, toS_ex, decide_eq_true_eq, Bool.not_eq_true, decide_eq_false_iff_not, List.map, List.length, List.length_map, List.replicate, List.cons_append, List.nil_append, List.append_nil, List.set, List.getElem?_cons_succ, List.getElem?_cons_zero, Nat.sub_self, Nat.reduceSub, Nat.reduceAdd, Int.toNat_natCast, if_true, if_false, ite_true, ite_false, reduceIte, Bool.false_eq_true, Bool.true_eq_false, Bool.not_true, Bool.not_false, decide_true, decide_false, isi_non_int, isi_non_bool, isi_non_str, isi_non_tuple, isi_non_list, isi_non_dict, isi_bl_int, isi_bl_bool, isi_bl_str, isi_bl_tuple, isi_bl_list, isi_bl_dict, isi_int_int, isi_int_bool, isi_int_str, isi_int_tuple, isi_int_list, isi_int_dict, isi_str_int, isi_str_bool, isi_str_str, isi_str_tuple, isi_str_list, isi_str_dict, isi_tup_int, isi_tup_bool, isi_tup_str, isi_tup_tuple, isi_tup_list, isi_tup_dict, isi_lst_int, isi_lst_bool, isi_lst_str, isi_lst_tuple, isi_lst_list, isi_lst_dict, isi_fz_int, isi_fz_bool, isi_fz_str, isi_fz_tuple, isi_fz_list, isi_fz_dict, so0, so1, so2, so3, so4, so5, so6, so7, so8, so9, so10, do10, mo10, *])
-- WP below
local macro_rules | `(tactic| walk_at "n") => `(tactic| simp only [w_n, List.set])
local macro_rules | `(tactic| walk_at "len") => `(tactic| try simp only [natL_len, intL_len, List.length_append, len_rep1, List.flatten_cons, List.flatten_nil, List.length_cons, List.length_nil, List.length_map, List.length_replicate, List.length_take, List.length_drop, List.length_reverse, List.length_set, List.length_range, Int.toNat_natCast, Nat.reduceAdd, Nat.reduceMul])
local macro_rules | `(tactic| walk_at "go") => `(tactic| simp (disch := (first | assumption | exact dwrap (allStr_map _) | exact dwrap (allStr_sing _) | exact dwrap (p := allStr _ = true) rfl | (refine dwrap ?_; simp only [allStr_nil, allStr_cons, allStr_map]; done) | decide | omega | (refine dwrap ?_; walk_at "len"; omega))) only [↓w_run, ↓List.getElem?_cons_succ, ↓List.getElem?_cons_zero, ↓List.set, ↓List.map, ↓List.replicate, ↓w_seq, ↓w_skip, ↓w_break, ↓w_cont, ↓w_if, ↓w_ret, ↓w_retN, ↓w_drop, ↓w_set, ↓w_asg, ↓w_aug, ↓w_raise, ↓w_for, ↓w_tryAs, ↓w_tryOnly, ↓w_var, ↓w_c, ↓w_bin, ↓w_un, ↓w_bi, ↓w_nil, ↓w_cons, ↓w_tup, ↓w_lst, ↓w_lloc, ↓w_call, ↓w_asB, ↓w_and, ↓w_or, ↓w_not, ↓w_andV, ↓w_orV, ↓w_notV, ↓w_ifE, ↓w_sl, ↓w_nopart, ↓w_part, ↓w_gN, ↓w_gT, ↓w_gsNil, ↓w_gsCons, ↓w_gI, ↓w_sm, ↓w_lm, ↓w_yes, ↓w_range1, ↓w_range2, ↓w_range3, ↓w_iany, ↓w_comp, ↓w_repl, ↓w_dnew, ↓w_pairs0, ↓w_pairs1, ↓w_disp, ↓w_dget2, ↓w_dput, ↓w_js0, ↓w_par, ↓w_par3, w_two, w_three, p_isB, p_notB, ↓w_chain, ↓w_zip, w_zips, ↓w_compL, ↓w_dc, p_sortA, g_sortAL, p_extL, p_slLoc, ↓w_enum, w_enumT, w_enumL, w_enumC', ↓w_listL', ↓w_augI, natL_len, intL_len, rowA_1, rowF_tup, rowF_lst, p_rowLoc, p_sortedLoc, p_sortedN, g_inNT, g_ninNT, g_inNL, g_ninNL, p_inLoc, p_ninLoc, p_neNilLoc, g_neNil, g_neNilN, g_neNilNT, ↓w_js1, ↓w_exis, ↓w_ok, ↓w_ex, ↓w_b, ↓w_loc, ↓w_istr, ↓w_iint, ↓w_itup, ↓w_nx, ↓w_rt, ↓w_bk, ↓w_ct, ↓w_sex, ↓w_t, ↓w_vsome, w_ok, w_ex, w_bad, w_iteoe, w_iteoo, w_itebad, w_some, w_none, w_pitess, w_pitebad, w_vsome, w_n, w_stN1, w_stN2, w_stN3, w_wipe0, w_wipe1, w_itrue, w_ifalse, w_inot, w_iand, w_ior, w_idec, w_imem, dec_true, dec_false, w_b, w_t, w_loc, w_istr, w_iint, w_itup, w_nx, w_rt, w_bk, w_ct, w_sex, w_bind, w_toS, w_itstr, w_ittup, w_itlst, w_itfz, w_itloc, a_int1, a_int2, a_int3, p_ixS, p_slS, p_split, p_joinL, p_joinT, p_joinLoc, p_revLoc, p_tupLoc, p_listLoc, p_zfill, p_str, p_intS, p_mulS, p_mulL, p_chr, p_append, w_dics, w_keys, keysD_nil, keysD_str, keysD_int, p_dget, p_din, p_dnin, dicAt_loc, dicAt_locM, keyD_str, keyD_int, merge_nil, merge_cons, p_tin, p_tget, Option.map_some, p_find, p_lstrip, p_upper, p_ljust, p_fmtS, p_fmtI, g_inL, g_inTs, g_inF, g_ninL, g_ninTs, g_ninF, allStr_nil, allStr_cons, allStr_map, strsOf_nil, strsOf_cons, strsOf_map, strsOf_sing, joinL_sing, isN_non, isN_bl, isN_int, isN_str, isN_tup, isN_lst, notN_non, notN_bl, notN_int, notN_str, notN_tup, notN_lst, cut_to, cut_from, cut_mid, cut_toN, cut_fromN, cut_midN, cut_all, ixT_nat, ixT_nn, ixT_ng, atD_ng, atD_nn, g_ixLoc, g_lenLoc', ixD_0, ixD_1, ixD_2, ixD_3, g_mulAI, g_slT, g_slL, g_slF, g_revL, g_revF, gStarts', g_ends, g_intAI, g_intAB, g_ord, g_inC, g_notInC, g_allM, g_anyM, g_pop, g_listL, g_listF, g_listT, g_tupL, g_tupF, g_tupT, g_add, g_addA, g_addAS, g_addS, g_addT, g_addL, g_sub, g_mul, g_div, g_mod, g_pow, g_lt, g_gt, g_le, g_ge, g_ltS, g_gtS, g_leS, g_geS, g_eq, g_ne, g_eqS, g_neS, g_eqB, g_neB, g_neg, g_abs, g_max, g_min, g_int, g_intB, g_ixT, g_ixL, g_ixF, g_lenT, g_lenL, g_lenF, g_lenS, at_nat, at_0, at_1, at_2, at_3, at_4, sto_at, sto_at0, sto_put, sto_put0, decide_eq_true_eq, Bool.not_eq_true, decide_eq_false_iff_not, List.map, List.length, List.length_map, List.replicate, List.cons_append, List.nil_append, List.append_nil, List.append_assoc, List.set, List.getElem?_cons_succ, List.getElem?_cons_zero, Nat.sub_self, Nat.reduceSub, Nat.reduceAdd, Int.toNat_natCast, if_true, if_false, ite_true, ite_false, reduceIte, Bool.false_eq_true, Bool.true_eq_false, Bool.not_true, Bool.not_false, decide_true, decide_false, true_implies, false_implies, implies_true, and_true, true_and, false_and, and_false, and_self, not_true_eq_false, not_false_eq_true, forall_const, Int.reduceToNat, Int.reduceLT, Int.reduceLE, Int.reduceEq, Int.reduceAdd, Int.reduceSub, Int.reduceMul, Int.reduceNeg, Nat.reduceLT, Nat.reduceLeDiff, Nat.reduceEqDiff, Nat.reduceMul, Int.natCast_add, cN0, cN1, cN2, cN3, cN4, cN5, Int.zero_add, ne_eq, reduceCtorEq, List.cons.injEq, isi_non_int, isi_non_bool, isi_non_str, isi_non_tuple, isi_non_list, isi_non_dict, isi_bl_int, isi_bl_bool, isi_bl_str, isi_bl_tuple, isi_bl_list, isi_bl_dict, isi_int_int, isi_int_bool, isi_int_str, isi_int_tuple, isi_int_list, isi_int_dict, isi_str_int, isi_str_bool, isi_str_str, isi_str_tuple, isi_str_list, isi_str_dict, isi_tup_int, isi_tup_bool, isi_tup_str, isi_tup_tuple, isi_tup_list, isi_tup_dict, isi_lst_int, isi_lst_bool, isi_lst_str, isi_lst_tuple, isi_lst_list, isi_lst_dict, isi_fz_int, isi_fz_bool, isi_fz_str, isi_fz_tuple, isi_fz_list, isi_fz_dict, so0, so1, so2, so3, so4, so5, so6, so7, so8, so9, so10, do10, mo10, p_addLocL, p_addLLoc, p_addLocs, w_ins, w_non, ↓w_fld, ↓w_putF, ↓w_augF, ↓w_meth, ↓w_prop, ↓w_make, setI_0n, setI_0c, setI_s, ↓w_enumS, w_enS, ↓w_listS, w_ls, ↓w_raiseF, ↓w_exf, ↓w_exisD])
local macro_rules | `(tactic| walk_at "go*") => `(tactic| simp (disch := (first | assumption | exact dwrap (allStr_map _) | exact dwrap (allStr_sing _) | exact dwrap (p := allStr _ = true) rfl | (refine dwrap ?_; simp only [allStr_nil, allStr_cons, allStr_map]; done) | decide | omega | (refine dwrap ?_; walk_at "len"; omega))) only [↓w_run, ↓List.getElem?_cons_succ, ↓List.getElem?_cons_zero, ↓List.set, ↓List.map, ↓List.replicate, ↓w_seq, ↓w_skip, ↓w_break, ↓w_cont, ↓w_if, ↓w_ret, ↓w_retN, ↓w_drop, ↓w_set, ↓w_asg, ↓w_aug, ↓w_raise, ↓w_for, ↓w_tryAs, ↓w_tryOnly, ↓w_var, ↓w_c, ↓w_bin, ↓w_un, ↓w_bi, ↓w_nil, ↓w_cons, ↓w_tup, ↓w_lst, ↓w_lloc, ↓w_call, ↓w_asB, ↓w_and, ↓w_or, ↓w_not, ↓w_andV, ↓w_orV, ↓w_notV, ↓w_ifE, ↓w_sl, ↓w_nopart, ↓w_part, ↓w_gN, ↓w_gT, ↓w_gsNil, ↓w_gsCons, ↓w_gI, ↓w_sm, ↓w_lm, ↓w_yes, ↓w_range1, ↓w_range2, ↓w_range3, ↓w_iany, ↓w_comp, ↓w_repl, ↓w_dnew, ↓w_pairs0, ↓w_pairs1, ↓w_disp, ↓w_dget2, ↓w_dput, ↓w_js0, ↓w_par, ↓w_par3, w_two, w_three, p_isB, p_notB, ↓w_chain, ↓w_zip, w_zips, ↓w_compL, ↓w_dc, p_sortA, g_sortAL, p_extL, p_slLoc, ↓w_enum, w_enumT, w_enumL, w_enumC', ↓w_listL', ↓w_augI, natL_len, intL_len, rowA_1, rowF_tup, rowF_lst, p_rowLoc, p_sortedLoc, p_sortedN, g_inNT, g_ninNT, g_inNL, g_ninNL, p_inLoc, p_ninLoc, p_neNilLoc, g_neNil, g_neNilN, g_neNilNT, ↓w_js1, ↓w_exis, ↓w_ok, ↓w_ex, ↓w_b, ↓w_loc, ↓w_istr, ↓w_iint, ↓w_itup, ↓w_nx, ↓w_rt, ↓w_bk, ↓w_ct, ↓w_sex, ↓w_t, ↓w_vsome, w_ok, w_ex, w_bad, w_iteoe, w_iteoo, w_itebad, w_some, w_none, w_pitess, w_pitebad, w_vsome, w_n, w_stN1, w_stN2, w_stN3, w_wipe0, w_wipe1, w_itrue, w_ifalse, w_inot, w_iand, w_ior, w_idec, w_imem, dec_true, dec_false, w_b, w_t, w_loc, w_istr, w_iint, w_itup, w_nx, w_rt, w_bk, w_ct, w_sex, w_bind, w_toS, w_itstr, w_ittup, w_itlst, w_itfz, w_itloc, a_int1, a_int2, a_int3, p_ixS, p_slS, p_split, p_joinL, p_joinT, p_joinLoc, p_revLoc, p_tupLoc, p_listLoc, p_zfill, p_str, p_intS, p_mulS, p_mulL, p_chr, p_append, w_dics, w_keys, keysD_nil, keysD_str, keysD_int, p_dget, p_din, p_dnin, dicAt_loc, dicAt_locM, keyD_str, keyD_int, merge_nil, merge_cons, p_tin, p_tget, Option.map_some, p_find, p_lstrip, p_upper, p_ljust, p_fmtS, p_fmtI, g_inL, g_inTs, g_inF, g_ninL, g_ninTs, g_ninF, allStr_nil, allStr_cons, allStr_map, strsOf_nil, strsOf_cons, strsOf_map, strsOf_sing, joinL_sing, isN_non, isN_bl, isN_int, isN_str, isN_tup, isN_lst, notN_non, notN_bl, notN_int, notN_str, notN_tup, notN_lst, cut_to, cut_from, cut_mid, cut_toN, cut_fromN, cut_midN, cut_all, ixT_nat, ixT_nn, ixT_ng, atD_ng, atD_nn, g_ixLoc, g_lenLoc', ixD_0, ixD_1, ixD_2, ixD_3, g_mulAI, g_slT, g_slL, g_slF, g_revL, g_revF, gStarts', g_ends, g_intAI, g_intAB, g_ord, g_inC, g_notInC, g_allM, g_anyM, g_pop, g_listL, g_listF, g_listT, g_tupL, g_tupF, g_tupT, g_add, g_addA, g_addAS, g_addS, g_addT, g_addL, g_sub, g_mul, g_div, g_mod, g_pow, g_lt, g_gt, g_le, g_ge, g_ltS, g_gtS, g_leS, g_geS, g_eq, g_ne, g_eqS, g_neS, g_eqB, g_neB, g_neg, g_abs, g_max, g_min, g_int, g_intB, g_ixT, g_ixL, g_ixF, g_lenT, g_lenL, g_lenF, g_lenS, at_nat, at_0, at_1, at_2, at_3, at_4, sto_at, sto_at0, sto_put, sto_put0, decide_eq_true_eq, Bool.not_eq_true, decide_eq_false_iff_not, List.map, List.length, List.length_map, List.replicate, List.cons_append, List.nil_append, List.append_nil, List.append_assoc, List.set, List.getElem?_cons_succ, List.getElem?_cons_zero, Nat.sub_self, Nat.reduceSub, Nat.reduceAdd, Int.toNat_natCast, if_true, if_false, ite_true, ite_false, reduceIte, Bool.false_eq_true, Bool.true_eq_false, Bool.not_true, Bool.not_false, decide_true, decide_false, true_implies, false_implies, implies_true, and_true, true_and, false_and, and_false, and_self, not_true_eq_false, not_false_eq_true, forall_const, Int.reduceToNat, Int.reduceLT, Int.reduceLE, Int.reduceEq, Int.reduceAdd, Int.reduceSub, Int.reduceMul, Int.reduceNeg, Nat.reduceLT, Nat.reduceLeDiff, Nat.reduceEqDiff, Nat.reduceMul, Int.natCast_add, cN0, cN1, cN2, cN3, cN4, cN5, Int.zero_add, ne_eq, reduceCtorEq, List.cons.injEq, isi_non_int, isi_non_bool, isi_non_str, isi_non_tuple, isi_non_list, isi_non_dict, isi_bl_int, isi_bl_bool, isi_bl_str, isi_bl_tuple, isi_bl_list, isi_bl_dict, isi_int_int, isi_int_bool, isi_int_str, isi_int_tuple, isi_int_list, isi_int_dict, isi_str_int, isi_str_bool, isi_str_str, isi_str_tuple, isi_str_list, isi_str_dict, isi_tup_int, isi_tup_bool, isi_tup_str, isi_tup_tuple, isi_tup_list, isi_tup_dict, isi_lst_int, isi_lst_bool, isi_lst_str, isi_lst_tuple, isi_lst_list, isi_lst_dict, isi_fz_int, isi_fz_bool, isi_fz_str, isi_fz_tuple, isi_fz_list, isi_fz_dict, so0, so1, so2, so3, so4, so5, so6, so7, so8, so9, so10, do10, mo10, p_addLocL, p_addLLoc, p_addLocs, w_ins, w_non, ↓w_fld, ↓w_putF, ↓w_augF, ↓w_meth, ↓w_prop, ↓w_make, setI_0n, setI_0c, setI_s, ↓w_enumS, w_enS, ↓w_listS, w_ls, ↓w_raiseF, ↓w_exf, ↓w_exisD, *])
local macro_rules | `(tactic| walk_at "gom") => `(tactic| simp (disch := (first | assumption | exact dwrap (allStr_map _) | exact dwrap (allStr_sing _) | exact dwrap (p := allStr _ = true) rfl | (refine dwrap ?_; simp only [allStr_nil, allStr_cons, allStr_map]; done) | decide | omega | (refine dwrap ?_; walk_at "len"; omega))) only [↓w_run, ↓List.getElem?_cons_succ, ↓List.getElem?_cons_zero, ↓List.set, ↓List.map, ↓List.replicate, ↓w_seq, ↓w_skip, ↓w_break, ↓w_cont, ↓w_if, ↓w_ret, ↓w_retN, ↓w_drop, ↓w_set, ↓w_asg, ↓w_aug, ↓w_raise, ↓w_for, ↓w_tryAs, ↓w_tryOnly, ↓w_var, ↓w_c, ↓w_bin, ↓w_un, ↓w_bi, ↓w_nil, ↓w_cons, ↓w_tup, ↓w_lst, ↓w_lloc, ↓w_call, ↓w_asB, ↓w_and, ↓w_or, ↓w_not, ↓w_andV, ↓w_orV, ↓w_notV, ↓w_ifE, ↓w_sl, ↓w_nopart, ↓w_part, ↓w_gN, ↓w_gT, ↓w_gsNil, ↓w_gsCons, ↓w_gI, ↓w_sm, ↓w_lm, ↓w_yes, ↓w_range1, ↓w_range2, ↓w_range3, ↓w_iany, ↓w_comp, ↓w_repl, ↓w_dnew, ↓w_pairs0, ↓w_pairs1, ↓w_disp, ↓w_dget2, ↓w_dput, ↓w_js0, ↓w_par, ↓w_par3, w_two, w_three, p_isB, p_notB, ↓w_chain, ↓w_zip, w_zips, ↓w_compL, ↓w_dc, p_sortA, g_sortAL, p_extL, p_slLoc, ↓w_enum, w_enumT, w_enumL, w_enumC', ↓w_listL', ↓w_augI, natL_len, intL_len, rowA_1, rowF_tup, rowF_lst, p_rowLoc, p_sortedLoc, p_sortedN, g_inNT, g_ninNT, g_inNL, g_ninNL, p_inLoc, p_ninLoc, p_neNilLoc, g_neNil, g_neNilN, g_neNilNT, ↓w_js1, ↓w_exis, ↓w_ok, ↓w_ex, ↓w_b, ↓w_loc, ↓w_istr, ↓w_iint, ↓w_itup, ↓w_nx, ↓w_rt, ↓w_bk, ↓w_ct, ↓w_sex, ↓w_t, ↓w_vsome, w_ok, w_ex, w_bad, w_iteoe, w_iteoo, w_itebad, w_some, w_none, w_pitess, w_pitebad, w_vsome, w_n, w_stN1, w_stN2, w_stN3, w_wipe0, w_wipe1, w_itrue, w_ifalse, w_inot, w_iand, w_ior, w_idec, w_imem, dec_true, dec_false, w_b, w_t, w_loc, w_istr, w_iint, w_itup, w_nx, w_rt, w_bk, w_ct, w_sex, w_bind, w_toS, w_itstr, w_ittup, w_itlst, w_itfz, w_itloc, a_int1, a_int2, a_int3, p_ixS, p_slS, p_split, p_joinL, p_joinT, p_joinLoc, p_revLoc, p_tupLoc, p_listLoc, p_zfill, p_str, p_intS, p_mulS, p_mulL, p_chr, p_append, w_dics, w_keys, keysD_nil, keysD_str, keysD_int, p_dget, p_din, p_dnin, dicAt_loc, dicAt_locM, keyD_str, keyD_int, merge_nil, merge_cons, p_tin, p_tget, Option.map_some, p_find, p_lstrip, p_upper, p_ljust, p_fmtS, p_fmtI, g_inL, g_inTs, g_inF, g_ninL, g_ninTs, g_ninF, allStr_nil, allStr_cons, allStr_map, strsOf_nil, strsOf_cons, strsOf_map, strsOf_sing, joinL_sing, isN_non, isN_bl, isN_int, isN_str, isN_tup, isN_lst, notN_non, notN_bl, notN_int, notN_str, notN_tup, notN_lst, cut_to, cut_from, cut_mid, cut_toN, cut_fromN, cut_midN, cut_all, ixT_nat, ixT_nn, ixT_ng, atD_ng, atD_nn, g_ixLoc, g_lenLoc', ixD_0, ixD_1, ixD_2, ixD_3, g_mulAI, g_slT, g_slL, g_slF, g_revL, g_revF, gStarts', g_ends, g_intAI, g_intAB, g_ord, g_inC, g_notInC, g_allM, g_anyM, g_pop, g_listL, g_listF, g_listT, g_tupL, g_tupF, g_tupT, g_add, g_addA, g_addAS, g_addS, g_addT, g_addL, g_sub, g_mul, g_div, g_mod, g_pow, g_lt, g_gt, g_le, g_ge, g_ltS, g_gtS, g_leS, g_geS, g_eq, g_ne, g_eqS, g_neS, g_eqB, g_neB, g_neg, g_abs, g_max, g_min, g_int, g_intB, g_ixT, g_ixL, g_ixF, g_lenT, g_lenL, g_lenF, g_lenS, at_nat, at_0, at_1, at_2, at_3, at_4, sto_at, sto_at0, sto_put, sto_put0, decide_eq_true_eq, Bool.not_eq_true, decide_eq_false_iff_not, List.map, List.length, List.length_map, List.replicate, List.cons_append, List.nil_append, List.append_nil, List.append_assoc, List.set, List.getElem?_cons_succ, List.getElem?_cons_zero, Nat.sub_self, Nat.reduceSub, Nat.reduceAdd, Int.toNat_natCast, if_true, if_false, ite_true, ite_false, reduceIte, Bool.false_eq_true, Bool.true_eq_false, Bool.not_true, Bool.not_false, decide_true, decide_false, true_implies, false_implies, implies_true, and_true, true_and, false_and, and_false, and_self, not_true_eq_false, not_false_eq_true, forall_const, Int.reduceToNat, Int.reduceLT, Int.reduceLE, Int.reduceEq, Int.reduceAdd, Int.reduceSub, Int.reduceMul, Int.reduceNeg, Nat.reduceLT, Nat.reduceLeDiff, Nat.reduceEqDiff, Nat.reduceMul, Int.natCast_add, cN0, cN1, cN2, cN3, cN4, cN5, Int.zero_add, ne_eq, reduceCtorEq, List.cons.injEq, isi_non_int, isi_non_bool, isi_non_str, isi_non_tuple, isi_non_list, isi_non_dict, isi_bl_int, isi_bl_bool, isi_bl_str, isi_bl_tuple, isi_bl_list, isi_bl_dict, isi_int_int, isi_int_bool, isi_int_str, isi_int_tuple, isi_int_list, isi_int_dict, isi_str_int, isi_str_bool, isi_str_str, isi_str_tuple, isi_str_list, isi_str_dict, isi_tup_int, isi_tup_bool, isi_tup_str, isi_tup_tuple, isi_tup_list, isi_tup_dict, isi_lst_int, isi_lst_bool, isi_lst_str, isi_lst_tuple, isi_lst_list, isi_lst_dict, isi_fz_int, isi_fz_bool, isi_fz_str, isi_fz_tuple, isi_fz_list, isi_fz_dict, so0, so1, so2, so3, so4, so5, so6, so7, so8, so9, so10, do10, mo10, p_addLocL, p_addLLoc, p_addLocs, w_ins, w_non, ↓w_fld, ↓w_putF, ↓w_augF, ↓w_meth, ↓w_prop, ↓w_make, setI_0n, setI_0c, setI_s, ↓w_enumS, w_enS, ↓w_listS, w_ls, ↓w_raiseF, ↓w_exf, ↓w_exisD, List.mem_cons, List.not_mem_nil, or_false, false_or, or_true, true_or, ne_eq])
local macro_rules | `(tactic| walk_at "gom*") => `(tactic| simp (disch := (first | assumption | exact dwrap (allStr_map _) | exact dwrap (allStr_sing _) | exact dwrap (p := allStr _ = true) rfl | (refine dwrap ?_; simp only [allStr_nil, allStr_cons, allStr_map]; done) | decide | omega | (refine dwrap ?_; walk_at "len"; omega))) only [↓w_run, ↓List.getElem?_cons_succ, ↓List.getElem?_cons_zero, ↓List.set, ↓List.map, ↓List.replicate, ↓w_seq, ↓w_skip, ↓w_break, ↓w_cont, ↓w_if, ↓w_ret, ↓w_retN, ↓w_drop, ↓w_set, ↓w_asg, ↓w_aug, ↓w_raise, ↓w_for, ↓w_tryAs, ↓w_tryOnly, ↓w_var, ↓w_c, ↓w_bin, ↓w_un, ↓w_bi, ↓w_nil, ↓w_cons, ↓w_tup, ↓w_lst, ↓w_lloc, ↓w_call, ↓w_asB, ↓w_and, ↓w_or, ↓w_not, ↓w_andV, ↓w_orV, ↓w_notV, ↓w_ifE, ↓w_sl, ↓w_nopart, ↓w_part, ↓w_gN, ↓w_gT, ↓w_gsNil, ↓w_gsCons, ↓w_gI, ↓w_sm, ↓w_lm, ↓w_yes, ↓w_range1, ↓w_range2, ↓w_range3, ↓w_iany, ↓w_comp, ↓w_repl, ↓w_dnew, ↓w_pairs0, ↓w_pairs1, ↓w_disp, ↓w_dget2, ↓w_dput, ↓w_js0, ↓w_par, ↓w_par3, w_two, w_three, p_isB, p_notB, ↓w_chain, ↓w_zip, w_zips, ↓w_compL, ↓w_dc, p_sortA, g_sortAL, p_extL, p_slLoc, ↓w_enum, w_enumT, w_enumL, w_enumC', ↓w_listL', ↓w_augI, natL_len, intL_len, rowA_1, rowF_tup, rowF_lst, p_rowLoc, p_sortedLoc, p_sortedN, g_inNT, g_ninNT, g_inNL, g_ninNL, p_inLoc, p_ninLoc, p_neNilLoc, g_neNil, g_neNilN, g_neNilNT, ↓w_js1, ↓w_exis, ↓w_ok, ↓w_ex, ↓w_b, ↓w_loc, ↓w_istr, ↓w_iint, ↓w_itup, ↓w_nx, ↓w_rt, ↓w_bk, ↓w_ct, ↓w_sex, ↓w_t, ↓w_vsome, w_ok, w_ex, w_bad, w_iteoe, w_iteoo, w_itebad, w_some, w_none, w_pitess, w_pitebad, w_vsome, w_n, w_stN1, w_stN2, w_stN3, w_wipe0, w_wipe1, w_itrue, w_ifalse, w_inot, w_iand, w_ior, w_idec, w_imem, dec_true, dec_false, w_b, w_t, w_loc, w_istr, w_iint, w_itup, w_nx, w_rt, w_bk, w_ct, w_sex, w_bind, w_toS, w_itstr, w_ittup, w_itlst, w_itfz, w_itloc, a_int1, a_int2, a_int3, p_ixS, p_slS, p_split, p_joinL, p_joinT, p_joinLoc, p_revLoc, p_tupLoc, p_listLoc, p_zfill, p_str, p_intS, p_mulS, p_mulL, p_chr, p_append, w_dics, w_keys, keysD_nil, keysD_str, keysD_int, p_dget, p_din, p_dnin, dicAt_loc, dicAt_locM, keyD_str, keyD_int, merge_nil, merge_cons, p_tin, p_tget, Option.map_some, p_find, p_lstrip, p_upper, p_ljust, p_fmtS, p_fmtI, g_inL, g_inTs, g_inF, g_ninL, g_ninTs, g_ninF, allStr_nil, allStr_cons, allStr_map, strsOf_nil, strsOf_cons, strsOf_map, strsOf_sing, joinL_sing, isN_non, isN_bl, isN_int, isN_str, isN_tup, isN_lst, notN_non, notN_bl, notN_int, notN_str, notN_tup, notN_lst, cut_to, cut_from, cut_mid, cut_toN, cut_fromN, cut_midN, cut_all, ixT_nat, ixT_nn, ixT_ng, atD_ng, atD_nn, g_ixLoc, g_lenLoc', ixD_0, ixD_1, ixD_2, ixD_3, g_mulAI, g_slT, g_slL, g_slF, g_revL, g_revF, gStarts', g_ends, g_intAI, g_intAB, g_ord, g_inC, g_notInC, g_allM, g_anyM, g_pop, g_listL, g_listF, g_listT, g_tupL, g_tupF, g_tupT, g_add, g_addA, g_addAS, g_addS, g_addT, g_addL, g_sub, g_mul, g_div, g_mod, g_pow, g_lt, g_gt, g_le, g_ge, g_ltS, g_gtS, g_leS, g_geS, g_eq, g_ne, g_eqS, g_neS, g_eqB, g_neB, g_neg, g_abs, g_max, g_min, g_int, g_intB, g_ixT, g_ixL, g_ixF, g_lenT, g_lenL, g_lenF, g_lenS, at_nat, at_0, at_1, at_2, at_3, at_4, sto_at, sto_at0, sto_put, sto_put0, decide_eq_true_eq, Bool.not_eq_true, decide_eq_false_iff_not, List.map, List.length, List.length_map, List.replicate, List.cons_append, List.nil_append, List.append_nil, List.append_assoc, List.set, List.getElem?_cons_succ, List.getElem?_cons_zero, Nat.sub_self, Nat.reduceSub, Nat.reduceAdd, Int.toNat_natCast, if_true, if_false, ite_true, ite_false, reduceIte, Bool.false_eq_true, Bool.true_eq_false, Bool.not_true, Bool.not_false, decide_true, decide_false, true_implies, false_implies, implies_true, and_true, true_and, false_and, and_false, and_self, not_true_eq_false, not_false_eq_true, forall_const, Int.reduceToNat, Int.reduceLT, Int.reduceLE, Int.reduceEq, Int.reduceAdd, Int.reduceSub, Int.reduceMul, Int.reduceNeg, Nat.reduceLT, Nat.reduceLeDiff, Nat.reduceEqDiff, Nat.reduceMul, Int.natCast_add, cN0, cN1, cN2, cN3, cN4, cN5, Int.zero_add, ne_eq, reduceCtorEq, List.cons.injEq, isi_non_int, isi_non_bool, isi_non_str, isi_non_tuple, isi_non_list, isi_non_dict, isi_bl_int, isi_bl_bool, isi_bl_str, isi_bl_tuple, isi_bl_list, isi_bl_dict, isi_int_int, isi_int_bool, isi_int_str, isi_int_tuple, isi_int_list, isi_int_dict, isi_str_int, isi_str_bool, isi_str_str, isi_str_tuple, isi_str_list, isi_str_dict, isi_tup_int, isi_tup_bool, isi_tup_str, isi_tup_tuple, isi_tup_list, isi_tup_dict, isi_lst_int, isi_lst_bool, isi_lst_str, isi_lst_tuple, isi_lst_list, isi_lst_dict, isi_fz_int, isi_fz_bool, isi_fz_str, isi_fz_tuple, isi_fz_list, isi_fz_dict, so0, so1, so2, so3, so4, so5, so6, so7, so8, so9, so10, do10, mo10, p_addLocL, p_addLLoc, p_addLocs, w_ins, w_non, ↓w_fld, ↓w_putF, ↓w_augF, ↓w_meth, ↓w_prop, ↓w_make, setI_0n, setI_0c, setI_s, ↓w_enumS, w_enS, ↓w_listS, w_ls, ↓w_raiseF, ↓w_exf, ↓w_exisD, List.mem_cons, List.not_mem_nil, or_false, false_or, or_true, true_or, ne_eq, *])
local macro_rules | `(tactic| walk_at "run") => `(tactic| simp only [w_run, w_n, List.map, List.length, List.replicate, List.cons_append, List.nil_append, Nat.reduceSub, Nat.reduceAdd, Nat.sub_self])
local macro_rules | `(tactic| walk_at "sp") => `(tactic| repeat' (first | (with_reducible refine And.intro ?_ ?_) | (refine (And.intro ?_ ?_ : OkI _ _ _)) | (intro _)))
local macro_rules | `(tactic| walk_at "sz") => `(tactic| first
  | assumption
  | (with_reducible apply so_le; walk_at "len"; omega)
  | (with_reducible refine divOk_small ?_ ?_ <;> omega)
  | (with_reducible apply modOk_pos; omega)
  | (with_reducible apply small62_of; constructor <;> (walk_at "len"; omega))
  | (with_reducible apply mulOk_R; constructor <;> omega)
  | (with_reducible apply mulOk_L; constructor <;> omega)
  | (with_reducible apply powOk_of; omega)
  | (with_reducible refine repOk_of ?_ ?_ <;> (walk_at "len"; omega))
  | (with_reducible apply joinOk_sing; (walk_at "len"); omega)
  | decide)
local macro_rules | `(tactic| walk_at "auto") => `(tactic| ((try walk_at "go"); walk_at "sp"; all_goals (try first | walk_at "sz" | omega)))
local macro_rules | `(tactic| walk_at "autom") => `(tactic| ((try walk_at "gom"); walk_at "sp"; all_goals (try first | walk_at "sz" | omega)))
local macro_rules | `(tactic| walk_at "auto*") => `(tactic| ((try walk_at "go*"); walk_at "sp"; all_goals (try first | walk_at "sz" | omega)))
local macro_rules | `(tactic| walk_at "autom*") => `(tactic| ((try walk_at "gom*"); walk_at "sp"; all_goals (try first | walk_at "sz" | omega)))
local macro_rules | `(tactic| walk_at "put") => `(tactic| simp only [sto_put, sto_put0, List.set])
theorem ok_filt {E0 : Evn} {S0 : Sto} {X : Exn → Sto → Prop} {QL : List D → Sto → Prop} {w : Tx} {t : MT} {e : ME} {i : Nat} (p : Nat → Bool) (hz : w.length ≤ 16777216)
    (h : ∀ c acc, OkO (t (E0.set i (some (.str [c]))) (S0 ++ [.lst acc])) (fun b S' => S' = S0 ++ [.lst acc] ∧ b = p c) (fun _ _ => False))
    (h2 : ∀ c acc, OkO (e (E0.set i (some (.str [c]))) (S0 ++ [.lst acc])) (fun y S' => S' = S0 ++ [.lst acc] ∧ y = .str [c]) (fun _ _ => False))
    (q : QL ((w.filter p).map fun c => .str [c]) S0) : OkO (compD none true [i] t e E0 S0 (w.map fun c => .str [c]) []) QL X := by
  refine ok_comp p (fun c => .str [c]) hz (fun c hc acc => ?_) q
  rw [w_stN1, w_some]
  refine ok_imp (h c acc) (fun b S' hb => ⟨hb.1, hb.2, fun _ => ?_⟩) (fun _ _ h => h)
  exact ok_imp (h2 c acc) (fun y S' hy => ⟨hy.1, by rw [hy.2]; rfl, hy.2⟩) (fun _ _ h => h)
theorem filt_true {α : Type} (l : List α) : l.filter (fun _ => true) = l := List.filter_eq_self.mpr (fun _ _ => rfl)
theorem map_bl {α : Type} (f : α → Bool) (l : List α) : l.map (fun x => D.bl (f x)) = (l.map f).map D.bl := by rw [List.map_map]; rfl
theorem all_mapid {α : Type} (f : α → Bool) (l : List α) : (l.map f).all id = l.all f := by rw [List.all_map]; rfl
/-! numbers: bounds by figures, the least scale -/
def Bn (n : Nat) (i : Int) : Prop := i.natAbs < 10 ^ n
theorem bn_mono {n m : Nat} {i : Int} (h : Bn n i) (hm : n ≤ m) : Bn m i := Nat.lt_of_lt_of_le h (Nat.pow_le_pow_right (by decide) hm)
theorem bn_pow (n : Nat) : Bn (n + 1) ((10 : Int) ^ n) := by
  unfold Bn
  rw [Int.natAbs_pow, show Int.natAbs 10 = 10 from rfl]
  exact Nat.pow_lt_pow_right (by decide) (Nat.lt_succ_self n)
theorem bn_mul {n m : Nat} {i j : Int} (h : Bn n i) (g : Bn m j) : Bn (n + m) (i * j) := by
  unfold Bn at *
  rw [Int.natAbs_mul, Nat.pow_add]
  exact Nat.mul_lt_mul'' h g
theorem bn_add {n : Nat} {i j : Int} (h : Bn n i) (g : Bn n j) : Bn (n + 1) (i + j) := by
  unfold Bn at *
  have := Int.natAbs_add_le i j
  rw [Nat.pow_succ]
  omega
theorem bn_neg {n : Nat} {i : Int} (h : Bn n i) : Bn n (-i) := by
  unfold Bn at *
  rw [Int.natAbs_neg]; exact h
theorem bn_sub {n : Nat} {i j : Int} (h : Bn n i) (g : Bn n j) : Bn (n + 1) (i - j) := by
  rw [Int.sub_eq_add_neg]; exact bn_add h (bn_neg g)
theorem bn_of {n : Nat} {i : Int} {z : Nat} (hz : z = 10 ^ n) (h1 : -(z : Int) < i) (h2 : i < (z : Int)) : Bn n i := by
  unfold Bn
  rw [← hz]
  omega
theorem pow_bits (n : Nat) : (10 : Nat) ^ n ≤ 2 ^ (4 * n) := by
  rw [Nat.pow_mul]
  exact Nat.pow_le_pow_left (by decide) n
theorem mulOk_bn {n m : Nat} {i j : Int} (h : Bn n i) (g : Bn m j) (hl : n + m ≤ 100000) : mulOk i j := by
  refine mulOk_wide (a := 4 * n + 1) (b := 4 * m + 1) ?_ ?_ (by omega) (by omega) (by omega)
  · exact Nat.lt_of_lt_of_le h (Nat.le_trans (pow_bits n) (Nat.pow_le_pow_right (by decide) (by omega)))
  · exact Nat.lt_of_lt_of_le g (Nat.le_trans (pow_bits m) (Nat.pow_le_pow_right (by decide) (by omega)))
theorem pow10_pos (n : Nat) : (0 : Int) < 10 ^ n := Int.pow_pos (by decide)
theorem small62_nat {n : Nat} (h : n ≤ 1000000) : small62 n := ⟨by omega, by omega⟩
/-- a decimal as data -/
def dec (p : Int × Nat) : D := .tup [.int p.1, .int p.2]
/-- the least scale -/
def nrm : Nat → Int → Int × Nat
  | 0, u => (u, 0)
  | s + 1, u => if u / 10 * 10 = u then nrm s (u / 10) else (u, s + 1)
/-- least -/
def Lst (p : Int × Nat) : Prop := p.2 = 0 ∨ p.1 % 10 ≠ 0
theorem nrm_spec : ∀ (s : Nat) (u : Int), (nrm s u).2 ≤ s ∧ (nrm s u).1 * 10 ^ (s - (nrm s u).2) = u ∧ Lst (nrm s u)
  | 0, u => ⟨Nat.le_refl _, by simp [nrm], .inl rfl⟩
  | s + 1, u => by
    unfold nrm
    by_cases h : u / 10 * 10 = u
    · rw [if_pos h]
      obtain ⟨h1, h2, h3⟩ := nrm_spec s (u / 10)
      refine ⟨by omega, ?_, h3⟩
      rw [show s + 1 - (nrm s (u / 10)).2 = s - (nrm s (u / 10)).2 + 1 by omega, Int.pow_succ, ← Int.mul_assoc, h2, h]
    · rw [if_neg h]
      exact ⟨Nat.le_refl _, by simp, .inr fun e => h (by show u / 10 * 10 = u; have e : u % 10 = 0 := e; omega)⟩
theorem nrm_val (s : Nat) (u : Int) : (nrm s u).1 * 10 ^ s = u * 10 ^ (nrm s u).2 := by
  obtain ⟨h1, h2, h3⟩ := nrm_spec s u
  calc (nrm s u).1 * 10 ^ s = (nrm s u).1 * (10 ^ (s - (nrm s u).2) * 10 ^ (nrm s u).2) := by rw [← Int.pow_add, show s - (nrm s u).2 + (nrm s u).2 = s by omega]
    _ = u * 10 ^ (nrm s u).2 := by rw [← Int.mul_assoc, h2]
theorem nrm_bn {n s : Nat} {u : Int} (h : Bn n u) : Bn n (nrm s u).1 := by
  obtain ⟨h1, h2, h3⟩ := nrm_spec s u
  unfold Bn at *
  refine Nat.lt_of_le_of_lt ?_ h
  have e : u.natAbs = (nrm s u).1.natAbs * 10 ^ (s - (nrm s u).2) := by
    rw [← h2, Int.natAbs_mul, Int.natAbs_pow, h2]; rfl
  rw [e]
  exact Nat.le_mul_of_pos_right _ (Nat.pow_pos (by decide))
/-- a least decimal is told by its value -/
theorem lst_eq {p : Int × Nat} (h : Lst p) : ∀ (m : Nat), nrm (p.2 + m) (p.1 * 10 ^ m) = p
  | 0 => by
    obtain ⟨u, s⟩ := p
    simp only [Nat.add_zero, Int.pow_zero, Int.mul_one]
    cases s with
    | zero => rfl
    | succ s =>
      unfold nrm
      rw [if_neg]
      rcases h with h | h
      · cases h
      · intro e
        apply h
        show u % 10 = 0
        omega
  | m + 1 => by
    show nrm ((p.2 + m) + 1) _ = p
    unfold nrm
    have e : p.1 * 10 ^ (m + 1) / 10 = p.1 * 10 ^ m := by
      rw [Int.pow_succ, ← Int.mul_assoc]
      exact Int.mul_ediv_cancel _ (by decide)
    rw [if_pos (by rw [e, Int.pow_succ, Int.mul_assoc]), e]
    exact lst_eq h m
/-- from one value to the other -/
theorem nrm_eq_of {s t : Nat} {u v : Int} (h : u * 10 ^ t = v * 10 ^ s) : nrm s u = nrm t v := by
  obtain ⟨a1, a2, a3⟩ := nrm_spec s u
  have key : ∀ (s t : Nat) (u v : Int), s ≤ t → u * 10 ^ t = v * 10 ^ s → nrm s u = nrm t v := by
    intro s t u v hst h
    obtain ⟨a1, a2, a3⟩ := nrm_spec s u
    have e : v = u * 10 ^ (t - s) := by
      have h2 : u * 10 ^ (t - s) * 10 ^ s = v * 10 ^ s := by
        rw [Int.mul_assoc, ← Int.pow_add, show t - s + s = t by omega, h]
      exact (Int.eq_of_mul_eq_mul_right (Int.ne_of_gt (pow10_pos s)) h2).symm
    have e2 : v = (nrm s u).1 * 10 ^ (t - (nrm s u).2) := by
      calc v = u * 10 ^ (t - s) := e
        _ = (nrm s u).1 * 10 ^ (s - (nrm s u).2) * 10 ^ (t - s) := by rw [a2]
        _ = (nrm s u).1 * 10 ^ (t - (nrm s u).2) := by rw [Int.mul_assoc, ← Int.pow_add, show s - (nrm s u).2 + (t - s) = t - (nrm s u).2 by omega]
    have e3 := lst_eq a3 (t - (nrm s u).2)
    rw [← e2, show (nrm s u).2 + (t - (nrm s u).2) = t by omega] at e3
    exact e3.symm
  by_cases hst : s ≤ t
  · exact key s t u v hst h
  · exact (key t s v u (by omega) h.symm).symm
theorem t_power {k : Nat} (hk : 1 ≤ k) (n : Nat) (hn : n ≤ 1000000) (S : Sto) : (T k).power [.int n] S = .ok (.int (10 ^ n)) S := by
  obtain ⟨k, rfl⟩ := Nat.exists_eq_add_of_le' hk
  have lp : ∀ (a : Option D) (l : List D) (r : Int) (z : Option D), ∃ z', forD none (gN 2) (l_power_1 (T k)) l [a, some (.int r), z] S = .nx [a, some (.int (r * 10 ^ l.length)), z'] S := by
    intro a l
    induction l with
    | nil => exact fun r z => ⟨z, by rw [forD_nil]; simp⟩
    | cons x l ih =>
      intro r z
      have h : turn (gN 2) (l_power_1 (T k)) x [a, some (D.int r), z] S = SO.nx [a, some (.int (r * 10)), some x] S := by
        unfold l_power_1; walk_at "ev"
      obtain ⟨z', h2⟩ := ih (r * 10) (some x)
      refine ⟨z', ?_⟩
      rw [forD_cons, h]
      simp only
      rw [h2, List.length_cons, Int.pow_succ, Int.mul_assoc, Int.mul_comm 10]
  rw [T_power]
  obtain ⟨z', h⟩ := lp (some (.int n)) (rngD 0 n) 1 none
  rw [rng_len, Int.one_mul] at h
  have hs := small62_nat hn
  generalize (10 : Int) ^ n = r at h ⊢
  unfold b_power
  walk_at "ev*"
theorem t_aligned {k : Nat} (hk : 2 ≤ k) (u : Int) (t s n : Nat) (hu : Bn n u) (hn : n ≤ 10000) (ht : t ≤ s) (hs : s ≤ 10000) (S : Sto) : (T k).aligned [dec (u, t), .int s] S = .ok (.int (u * 10 ^ (s - t))) S := by
  obtain ⟨k, rfl⟩ := Nat.exists_eq_add_of_le' hk
  have p := t_power (k := k + 1) (by omega) (s - t) (by omega) S
  have e : ((s : Int) - (t : Int)) = ((s - t : Nat) : Int) := by omega
  have m := mulOk_bn hu (bn_pow (s - t)) (by omega)
  rw [show k + 2 = (k + 1) + 1 from rfl, T_aligned]
  unfold b_aligned dec
  generalize (10 : Int) ^ (s - t) = r at p m ⊢
  walk_at "ev"
  rw [e, p]
  walk_at "ev*"
/-! quotients -/
theorem ab_nn (i : Int) : 0 ≤ ab i := by unfold ab; split <;> omega
theorem ab_pos {i : Int} (h : i ≠ 0) : 0 < ab i := by unfold ab; split <;> omega
theorem ab_nat (i : Int) : ab i = (i.natAbs : Int) := by unfold ab; split <;> omega
theorem ab_mul (i j : Int) : ab (i * j) = ab i * ab j := by rw [ab_nat, ab_nat, ab_nat, Int.natAbs_mul, Int.natCast_mul]
theorem ab_neg (i : Int) : ab (-i) = ab i := by unfold ab; split <;> split <;> omega
theorem ab_of_nn {i : Int} (h : 0 ≤ i) : ab i = i := by unfold ab; rw [if_neg (by omega)]
theorem ab_bn {n : Nat} {i : Int} (h : Bn n i) : Bn n (ab i) := by
  unfold Bn at *
  rw [ab_nat, Int.natAbs_natCast]; exact h
theorem bn_le {n : Nat} {i j : Int} (h : Bn n j) (h0 : 0 ≤ i) (h1 : i ≤ ab j) : Bn n i := by
  unfold Bn at *
  rw [ab_nat] at h1
  omega
theorem divOk_bn {n : Nat} {j : Int} (h : Bn n j) (h0 : 0 < j) (hn : n ≤ 2000) : divOk j := by
  refine ⟨h0, Nat.lt_of_lt_of_le (PySem.Flt.log2_lt_of (k := 4 * n + 1) (by omega) ?_) (show 4 * n + 1 ≤ 9000 by omega)⟩
  exact Nat.lt_of_lt_of_le h (Nat.le_trans (pow_bits n) (Nat.pow_le_pow_right (by decide) (by omega)))
/-- the size of a quotient, cut off or rounded -/
def qsize (n d : Int) (r : Bool) : Int := if r = true ∧ 2 * (n - n / d * d) ≥ d then n / d + 1 else n / d
def quo (a b : Int) (r : Bool) : Int := if decide (a < 0) = decide (b < 0) then qsize (ab a) (ab b) r else -qsize (ab a) (ab b) r
theorem qsize_spec (n d : Int) (r : Bool) (hn : 0 ≤ n) (hd : 0 < d) :
    0 ≤ qsize n d r ∧ (r = false → qsize n d r * d ≤ n ∧ n < (qsize n d r + 1) * d) ∧ (r = true → (2 * qsize n d r - 1) * d ≤ 2 * n ∧ 2 * n < (2 * qsize n d r + 1) * d) := by
  have h1 := Int.emod_nonneg n (Int.ne_of_gt hd)
  have h2 := Int.emod_lt_of_pos n hd
  have h3 := Int.mul_ediv_add_emod n d
  have h4 : 0 ≤ n / d := Int.ediv_nonneg hn (by omega)
  rw [Int.mul_comm] at h3
  unfold qsize
  generalize n / d = q at *
  generalize n % d = m at *
  by_cases c : r = true ∧ 2 * (n - q * d) ≥ d
  · rw [if_pos c]
    refine ⟨by omega, fun e => ?_, fun _ => ?_⟩
    · rw [e] at c; exact absurd c.1 (by simp)
    · have e1 : (2 * (q + 1) - 1) * d = 2 * (q * d) + d := by rw [show 2 * (q + 1) - 1 = 2 * q + 1 by omega, Int.add_mul, Int.mul_assoc, Int.one_mul]
      have e2 : (2 * (q + 1) + 1) * d = 2 * (q * d) + 3 * d := by rw [show 2 * (q + 1) + 1 = 2 * q + 3 by omega, Int.add_mul, Int.mul_assoc]
      rw [e1, e2]
      have := c.2
      generalize q * d = p at *
      omega
  · rw [if_neg c]
    refine ⟨h4, fun _ => ?_, fun e => ?_⟩
    · have e1 : (q + 1) * d = q * d + d := by rw [Int.add_mul, Int.one_mul]
      rw [e1]
      generalize q * d = p at *
      omega
    · have e1 : (2 * q - 1) * d = 2 * (q * d) - d := by rw [Int.sub_mul, Int.mul_assoc, Int.one_mul]
      have e2 : (2 * q + 1) * d = 2 * (q * d) + d := by rw [Int.add_mul, Int.mul_assoc, Int.one_mul]
      rw [e1, e2]
      have : ¬ 2 * (n - q * d) ≥ d := fun z => c ⟨e, z⟩
      generalize q * d = p at *
      omega
/-- what the law asks -/
structure Rgt (v a b : Int) (r : Bool) : Prop where
  sg : v = 0 ∨ decide (v < 0) = !(decide (decide (a < 0) = decide (b < 0)))
  cut : r = false → ab v * ab b ≤ ab a ∧ ab a < (ab v + 1) * ab b
  rnd : r = true → (2 * ab v - 1) * ab b ≤ 2 * ab a ∧ 2 * ab a < (2 * ab v + 1) * ab b
theorem quo_right (a b : Int) (r : Bool) (hb : b ≠ 0) : Rgt (quo a b r) a b r := by
  obtain ⟨h0, h1, h2⟩ := qsize_spec (ab a) (ab b) r (ab_nn a) (ab_pos hb)
  have ha : ab (quo a b r) = qsize (ab a) (ab b) r := by
    unfold quo
    split
    · exact ab_of_nn h0
    · rw [ab_neg]; exact ab_of_nn h0
  refine ⟨?_, by rw [ha]; exact h1, by rw [ha]; exact h2⟩
  unfold quo
  generalize qsize (ab a) (ab b) r = s at *
  by_cases c : decide (a < 0) = decide (b < 0)
  · rw [if_pos c, c]
    simp
    omega
  · rw [if_neg c]
    have : decide (decide (a < 0) = decide (b < 0)) = false := by simpa using c
    rw [this]
    simp
    omega
/-- a common factor does not count -/
theorem rgt_scale {v a b c : Int} {r : Bool} (h : Rgt v a b r) (hc : 0 < c) : Rgt v (a * c) (b * c) r := by
  have s : ∀ x : Int, decide (x * c < 0) = decide (x < 0) := fun x => by
    by_cases hx : x < 0
    · have := Int.mul_neg_of_neg_of_pos hx hc
      simp [hx, this]
    · have : 0 ≤ x * c := Int.mul_nonneg (by omega) (by omega)
      have h2 : ¬ x * c < 0 := by omega
      simp [hx, h2]
  have e : ∀ x : Int, ab (x * c) = ab x * c := fun x => by rw [ab_mul, ab_of_nn (show 0 ≤ c by omega)]
  refine ⟨by rw [s, s]; exact h.sg, fun hr => ?_, fun hr => ?_⟩
  · rw [e, e, ← Int.mul_assoc, ← Int.mul_assoc]
    exact ⟨Int.mul_le_mul_of_nonneg_right (h.cut hr).1 (by omega), Int.mul_lt_mul_of_pos_right (h.cut hr).2 hc⟩
  · rw [e, e, ← Int.mul_assoc, ← Int.mul_assoc, ← Int.mul_assoc]
    exact ⟨Int.mul_le_mul_of_nonneg_right (h.rnd hr).1 (by omega), Int.mul_lt_mul_of_pos_right (h.rnd hr).2 hc⟩
/-- an exact value -/
theorem rgt_exact {v a b : Int} {r : Bool} (hb : 0 < b) (h : v * b = a) : Rgt v a b r := by
  have e : ab a = ab v * b := by rw [← h, ab_mul, ab_of_nn (show 0 ≤ b by omega)]
  have e2 : ab b = b := ab_of_nn (by omega)
  have hn := ab_nn v
  refine ⟨?_, fun _ => ?_, fun _ => ?_⟩
  · by_cases hv : v = 0
    · exact .inl hv
    · right
      have hb2 : decide (b < 0) = false := by simp; omega
      rw [hb2]
      by_cases hv2 : v < 0
      · have : a < 0 := by rw [← h]; exact Int.mul_neg_of_neg_of_pos hv2 hb
        simp [hv2, this]
      · have : 0 ≤ a := by rw [← h]; exact Int.mul_nonneg (by omega) (by omega)
        have h1 : decide (v < 0) = false := by simpa using hv2
        have h2 : decide (a < 0) = false := by simpa using this
        rw [h1, h2]
        rfl
  · rw [e, e2, Int.add_mul, Int.one_mul]
    generalize ab v * b = p
    omega
  · rw [e, e2, Int.add_mul, Int.sub_mul, Int.one_mul, Int.mul_assoc]
    generalize ab v * b = p
    omega
theorem t_quotient {k : Nat} (hk : 1 ≤ k) (a b : Int) (r : Bool) (n : Nat) (ha : Bn n a) (hb : Bn n b) (hn : n ≤ 2000) (h0 : b ≠ 0) (S : Sto) : (T k).quotient [.int a, .int b, .bl r] S = .ok (.int (quo a b r)) S := by
  obtain ⟨k, rfl⟩ := Nat.exists_eq_add_of_le' hk
  have d := divOk_bn (ab_bn hb) (ab_pos h0) hn
  have hq : 0 ≤ ab a / ab b := Int.ediv_nonneg (ab_nn a) (ab_nn b)
  have hq2 : ab a / ab b ≤ ab a := Int.ediv_le_self _ (ab_nn a)
  have m := mulOk_bn (bn_le ha hq hq2) (ab_bn hb) (by omega)
  have m2 : mulOk 2 (ab a - ab a / ab b * ab b) := mulOk_smallL (by decide)
  rw [T_quotient]
  unfold b_quotient quo qsize
  by_cases c2 : decide (a < 0) = decide (b < 0)
  · cases r with
    | false => walk_at "ev*"; simp
    | true =>
      by_cases c : ab b ≤ 2 * (ab a - ab a / ab b * ab b)
      · walk_at "ev*"
        simp [c]
      · walk_at "ev*"
        simp [c]
  · cases r with
    | false => walk_at "ev*"; simp
    | true =>
      by_cases c : ab b ≤ 2 * (ab a - ab a / ab b * ab b)
      · walk_at "ev*"
        simp [c]
      · walk_at "ev*"
        simp [c]
theorem t_units_at {k : Nat} (hk : 3 ≤ k) (a : Int × Nat) (s n : Nat) (r : Bool) (ha : Bn n a.1) (hn : n ≤ 900) (h1 : a.2 ≤ 1000) (h2 : s ≤ 1000) (S : Sto) :
    ∃ v, (T k).units_at [dec a, .int s, .bl r] S = .ok (.int v) S ∧ Rgt v (a.1 * 10 ^ s) (10 ^ a.2) r ∧ v = (if a.2 ≤ s then a.1 * 10 ^ (s - a.2) else quo a.1 (10 ^ (a.2 - s)) r) := by
  obtain ⟨k, rfl⟩ := Nat.exists_eq_add_of_le' hk
  rw [show k + 3 = (k + 2) + 1 from rfl, T_units_at]
  unfold b_units_at
  by_cases c : a.2 ≤ s
  · have al := t_aligned (k := k + 2) (by omega) a.1 a.2 s n ha (by omega) c (by omega) S
    refine ⟨a.1 * 10 ^ (s - a.2), ?_, rgt_exact (pow10_pos _) (by rw [Int.mul_assoc, ← Int.pow_add, show s - a.2 + a.2 = s by omega]), by rw [if_pos c]⟩
    have c' : (a.2 : Int) ≤ (s : Int) := by omega
    unfold dec at *
    generalize a.1 * 10 ^ (s - a.2) = v at *
    generalize (s : Int) = ss at *
    walk_at "ev*"
  · have p := t_power (k := k + 2) (by omega) (a.2 - s) (by omega) S
    have q := t_quotient (k := k + 2) (by omega) a.1 (10 ^ (a.2 - s)) r (n + 1001) (bn_mono ha (by omega)) (bn_mono (bn_pow _) (by omega)) (by omega) (Int.ne_of_gt (pow10_pos _)) S
    have e : ((a.2 : Int) - (s : Int)) = ((a.2 - s : Nat) : Int) := by omega
    have rg := rgt_scale (quo_right a.1 (10 ^ (a.2 - s)) r (Int.ne_of_gt (pow10_pos _))) (pow10_pos s)
    rw [← Int.pow_add, show a.2 - s + s = a.2 by omega] at rg
    refine ⟨quo a.1 (10 ^ (a.2 - s)) r, ?_, rg, by rw [if_neg c]⟩
    have c' : ¬ (a.2 : Int) ≤ (s : Int) := by omega
    unfold dec
    clear rg
    generalize (10 : Int) ^ (a.2 - s) = P at *
    generalize quo a.1 P r = v at *
    generalize (s : Int) = ss at *
    walk_at "ev*"
theorem t_normal {k : Nat} (hk : 1 ≤ k) (s : Nat) (u : Int) (S : Sto) : (T k).normal [.int u, .int s] S = .ok (dec (nrm s u)) S := by
  obtain ⟨k, rfl⟩ := Nat.exists_eq_add_of_le' hk
  have lp : ∀ (s : Nat) (u : Int), mWhile (w_normal_1 (T k)) (l_normal_1 (T k)) [some (.int u), some (.int s)] S = .nx [some (.int (nrm s u).1), some (.int (nrm s u).2)] S := by
    intro s
    induction s with
    | zero =>
      intro u
      refine mWhile_done ?_
      unfold w_normal_1
      walk_at "ev"
      simp
    | succ s ih =>
      intro u
      have e1 : (0 : Int) < ((s + 1 : Nat) : Int) := by omega
      have e2 : ((s + 1 : Nat) : Int) - 1 = s := by omega
      by_cases h : u / 10 * 10 = u
      · refine (mWhile_step (E2 := [some (.int (u / 10)), some (.int s)]) (S1 := S) (S2 := S) ?_ ?_).trans ?_
        · unfold w_normal_1; generalize ((s + 1 : Nat) : Int) = z at e1 e2 ⊢; walk_at "ev*"
        · unfold l_normal_1; generalize ((s + 1 : Nat) : Int) = z at e1 e2 ⊢; walk_at "ev*"
        · rw [ih (u / 10), nrm, if_pos h]
      · refine (mWhile_done (S1 := S) ?_).trans ?_
        · unfold w_normal_1; generalize ((s + 1 : Nat) : Int) = z at e1 e2 ⊢; walk_at "ev*"
        · rw [nrm, if_neg h]
  rw [T_normal]
  unfold b_normal
  simp only [a_run, a_seq, List.map, List.length, List.replicate, List.cons_append, List.nil_append, Nat.sub_self, List.append_nil, Nat.reduceAdd]
  rw [lp]
  walk_at "ev"
  rfl
/-! the pictures that the law draws -/
def BASES : List Tx := [[122, 122, 57], [122, 122, 122], [122, 57], [57], [42, 42, 42], [42, 42, 57], [122, 122, 44, 122, 122, 57], [42, 42, 44, 42, 42, 42], [57, 57, 47, 57, 57], [122, 44, 122, 122, 57, 98, 57], [57, 98, 57], [122, 48, 122], [57, 57], [122, 98, 57]]
def SGNS : List Tx := [[], [45], [43], [46, 45], [46, 43], [99, 114], [100, 98], []]
def mkB (b : Tx) (f : Nat) : Tx := if f = 0 then b else b ++ 46 :: List.replicate f 57
def digs (m : Tx) : Nat := (m.filter fun c => decide (c ∈ [122, 42, 57])).length
def textP (n : Nat) : D := .tup [.str [116, 101, 120, 116], .int n]
def numQ (b : Bool) (w f : Nat) : D := .tup [.str [110, 117, 109, 98, 101, 114], .bl b, .int w, .int f]
def edQ (m : Tx) (a b : Nat) (s : Tx) : D := .tup [.str [101, 100, 105, 116, 101, 100], .str m, .int a, .int b, .str s]
def PicL (d : D) : Prop := (∃ n, 1 ≤ n ∧ n ≤ 12 ∧ d = textP n) ∨ (∃ b w f, w ≤ 4 ∧ f ≤ 2 ∧ 1 ≤ w + f ∧ d = numQ b w f) ∨
  (∃ b, b ∈ BASES ∧ ∃ f s, f ≤ 3 ∧ s ∈ SGNS ∧ d = edQ (mkB b f) (digs (mkB b f) - f) f s ∧ (s = [] → ¬ mkB b f ∈ [[57], [57, 57]]))
theorem rep57 (f : Nat) (h : f ≤ 3) : List.take f [57, 57, 57] = List.replicate f 57 := by
  have : f = 0 ∨ f = 1 ∨ f = 2 ∨ f = 3 := by omega
  rcases this with rfl | rfl | rfl | rfl <;> rfl
theorem base_facts : ∀ b ∈ BASES, b.length ≤ 7 ∧ 0 < b.length := by decide
theorem t_lpicture {k : Nat} (hk : 1 ≤ k) (r : Int) (hr : 0 ≤ r) (S : Sto) : OkO ((T k)._law_picture [.int r] S) (fun d S' => S' = S ∧ Hid (PicL d)) (fun _ _ => False) := by
  obtain ⟨k, rfl⟩ := Nat.exists_eq_add_of_le' hk
  rw [T__law_picture]
  unfold b__law_picture
  walk_at "auto*"
  · refine hid (.inl ⟨(1 + r / 8 % 12).toNat, by omega, by omega, ?_⟩)
    unfold textP
    rw [show (((1 + r / 8 % 12).toNat : Nat) : Int) = 1 + r / 8 % 12 by omega]
  · refine hid (.inr (.inl ⟨decide (r / 8 / 5 % 2 = 1), (if 1 - r / 8 / 10 % 3 > r / 8 % 5 then 1 - r / 8 / 10 % 3 else r / 8 % 5).toNat, (r / 8 / 10 % 3).toNat, ?_, by omega, ?_, ?_⟩))
    · split <;> omega
    · split <;> omega
    · unfold numQ
      rw [show (((if 1 - r / 8 / 10 % 3 > r / 8 % 5 then 1 - r / 8 / 10 % 3 else r / 8 % 5).toNat : Nat) : Int) = if 1 - r / 8 / 10 % 3 > r / 8 % 5 then 1 - r / 8 / 10 % 3 else r / 8 % 5 by split <;> omega, show (((r / 8 / 10 % 3).toNat : Nat) : Int) = r / 8 / 10 % 3 by omega]
  unfold q__law_picture_2 q__law_picture_1
  have hB : ∃ b ∈ BASES, (BASES.map D.str)[(r / 8 % 14).toNat]? = some (.str b) := by
    have : (r / 8 % 14).toNat < BASES.length := by show _ < 14; omega
    exact ⟨BASES[(r / 8 % 14).toNat], List.getElem_mem _, by rw [List.getElem?_map, List.getElem?_eq_getElem this]; rfl⟩
  obtain ⟨b, hb, hB⟩ := hB
  have hG : ∃ s ∈ SGNS, (SGNS.map D.str)[(r / 8 / 56 % 8).toNat]? = some (.str s) := by
    have : (r / 8 / 56 % 8).toNat < SGNS.length := by show _ < 8; omega
    exact ⟨SGNS[(r / 8 / 56 % 8).toNat], List.getElem_mem _, by rw [List.getElem?_map, List.getElem?_eq_getElem this]; rfl⟩
  obtain ⟨s, hs, hG⟩ := hG
  have hl := base_facts b hb
  obtain ⟨f, hf, hf3⟩ : ∃ f : Nat, r / 8 / 14 % 4 = (f : Int) ∧ f ≤ 3 := ⟨(r / 8 / 14 % 4).toNat, by omega, by omega⟩
  have eB : ∀ rest : Nat, [D.str [122, 122, 57], .str [122, 122, 122], .str [122, 57], .str [57], .str [42, 42, 42], .str [42, 42, 57], .str [122, 122, 44, 122, 122, 57], .str [42, 42, 44, 42, 42, 42], .str [57, 57, 47, 57, 57], .str [122, 44, 122, 122, 57, 98, 57], .str [57, 98, 57], .str [122, 48, 122], .str [57, 57], .str [122, 98, 57]][rest]? = (BASES.map D.str)[rest]? := fun _ => rfl
  have eG : ∀ rest : Nat, [D.str [], .str [45], .str [43], .str [46, 45], .str [46, 43], .str [99, 114], .str [100, 98], .str []][rest]? = (SGNS.map D.str)[rest]? := fun _ => rfl
  have r3 := rep57 f hf3
  generalize BASES.map D.str = BB at *
  generalize SGNS.map D.str = GG at *
  refine ok_cut (fun E S' => S' = S ∧ E = [some (.int r), some (.int (r % 8)), some (.int (r / 8)), some (.str b), none, none, none, none, none]) ?_ ?_
  · walk_at "auto*"
  rintro _ Sx ⟨rfl, rfl⟩
  refine ok_cut (fun E S' => S' = Sx ∧ E = [some (.int r), some (.int (r % 8)), some (.int (r / 8)), some (.str b), some (.int f), none, none, none, none]) ?_ ?_
  · walk_at "auto*"
  rintro _ Sx ⟨rfl, rfl⟩
  have hm : (mkB b f).length ≤ 12 := by
    unfold mkB
    split
    · omega
    · simp; omega
  refine ok_cut (fun E S' => S' = Sx ∧ E = [some (.int r), some (.int (r % 8)), some (.int (r / 8)), some (.str (mkB b f)), some (.int f), none, none, none, none]) ?_ ?_
  · unfold mkB
    clear hf
    walk_at "auto*"
    · have : ¬ f = 0 := by omega
      simp [*]
    · have : f = 0 := by omega
      simp [*]
  rintro _ Sx ⟨rfl, rfl⟩
  clear hf r3 hB
  refine ok_cut (fun E S' => S' = Sx ∧ E = [some (.int r), some (.int (r % 8)), some (.int (r / 8)), some (.str (mkB b f)), some (.int f), some (.str s), none, none, none]) ?_ ?_
  · walk_at "auto*"
  rintro _ Sx ⟨rfl, rfl⟩
  refine ok_cut (fun E S' => S' = Sx ∧ E = [some (.int r), some (.int (r % 8)), some (.int (r / 8)), some (.str (mkB b f)), some (.int f), some (.str s), some (.int (digs (mkB b f))), none, none]) ?_ ?_
  · walk_at "auto*"
    refine ok_filt (fun c => decide (c ∈ [122, 42, 57])) (by omega) (fun c acc => by walk_at "go") (fun c acc => by walk_at "go") ?_
    unfold digs
    walk_at "auto*"
  rintro _ Sx ⟨rfl, rfl⟩
  have hd : f ≤ digs (mkB b f) := by
    unfold digs mkB
    split
    · omega
    · have e : (List.replicate f 57).filter (fun c => decide (c ∈ [122, 42, 57])) = List.replicate f 57 := by
        rw [List.filter_eq_self]
        intro c hc
        rw [List.eq_of_mem_replicate hc]; decide
      rw [List.filter_append, List.filter_cons, if_neg (by decide), e]
      simp
  have hdi : (digs (mkB b f) : Int) - (f : Int) = ((digs (mkB b f) - f : Nat) : Int) := by omega
  have fin : ∀ s', s' ∈ SGNS → (s' = [] → ¬ mkB b f ∈ [[57], [57, 57]]) → Hid (PicL (.tup [.str [101, 100, 105, 116, 101, 100], .str (mkB b f), .int ((digs (mkB b f) : Int) - (f : Int)), .int f, .str s'])) := fun s' h1 h2 =>
    hid (.inr (.inr ⟨b, hb, f, s', hf3, h1, by rw [hdi]; rfl, h2⟩))
  clear hdi hd
  generalize mkB b f = M at *
  generalize (digs M : Int) = Dg at *
  refine ok_cut (fun E S' => S' = Sx ∧ ∃ s', s' ∈ SGNS ∧ (s' = [] → ¬ M ∈ [[57], [57, 57]]) ∧ E = [some (.int r), some (.int (r % 8)), some (.int (r / 8)), some (.str M), some (.int f), some (.str s'), some (.int Dg), none, none]) ?_ ?_
  · walk_at "auto"
    · exact ⟨[45], by decide, by simp, rfl⟩
    · exact ⟨s, hs, fun _ => by assumption, rfl⟩
    · exact ⟨s, hs, fun h => absurd h (by assumption), rfl⟩
  rintro _ Sx ⟨rfl, s', h1, h2, rfl⟩
  have := fin s' h1 h2
  walk_at "auto"
/-! the body of an edited field -/
def stB (fl : Nat) (fg : Tx) (s : Bool × Nat × Tx) (m : Nat) : Bool × Nat × Tx :=
  if m = 46 then (false, s.2.1, s.2.2 ++ [46])
  else if m = 44 ∨ m = 98 ∨ m = 48 ∨ m = 47 then (s.1, s.2.1, s.2.2 ++ [if s.1 then fl else if m = 98 then 32 else m])
  else (s.1 && !decide (m = 57) && decide (fg.getD s.2.1 0 = 48), s.2.1 + 1, s.2.2 ++ [if s.1 && !decide (m = 57) && decide (fg.getD s.2.1 0 = 48) then fl else fg.getD s.2.1 0])
def flr (c : Nat) : Nat := if c = 42 then 42 else 32
def bodyS (c : Nat) (m fg : Tx) : Bool × Nat × Tx := m.foldl (stB (flr c) fg) (!decide (c = 57), 0, [])
theorem bodyS_len (c : Nat) (m fg : Tx) : (bodyS c m fg).2.2.length = m.length := by
  unfold bodyS
  have : ∀ (m : Tx) (s : Bool × Nat × Tx), (m.foldl (stB (flr c) fg) s).2.2.length = s.2.2.length + m.length := by
    intro m
    induction m with
    | nil => intro s; simp
    | cons a m ih =>
      intro s
      rw [List.foldl_cons, ih]
      unfold stB
      split
      · simp; omega
      · split <;> (simp; omega)
  rw [this]; simp
def MK : List Nat := [122, 42, 57, 46, 44, 98, 48, 47]
theorem bodyS_take {c : Nat} {m fg : Tx} {i x : Nat} (e : m[i]? = some x) : bodyS c (m.take (i + 1)) fg = stB (flr c) fg (bodyS c (m.take i) fg) x := by
  unfold bodyS
  rw [List.take_add_one, e, List.foldl_append]
  rfl
theorem digs_take {m : Tx} {i x : Nat} (e : m[i]? = some x) : digs (m.take (i + 1)) = digs (m.take i) + (if x ∈ [122, 42, 57] then 1 else 0) ∧ digs (m.take (i + 1)) ≤ digs m := by
  constructor
  · unfold digs
    rw [List.take_add_one, e, List.filter_append, List.length_append]
    congr 1
    show (List.filter _ [x]).length = _
    by_cases h : x ∈ [122, 42, 57] <;> simp only [List.filter_cons, List.filter_nil, h, decide_true, decide_false, if_true, if_false, Bool.false_eq_true] <;> rfl
  · unfold digs
    exact (List.Sublist.filter _ (List.take_sublist _ _)).length_le
theorem bodyS_at {c : Nat} {m fg : Tx} (hc : ∀ x ∈ m, x ∈ MK) : ∀ i, (bodyS c (m.take i) fg).2.1 = digs (m.take i)
  | 0 => by simp [bodyS, digs]
  | i + 1 => by
    cases e : m[i]? with
    | none =>
      rw [List.take_of_length_le (by have := List.getElem?_eq_none_iff.mp e; omega)]
      have := bodyS_at hc (c := c) (fg := fg) i
      rwa [List.take_of_length_le (by have := List.getElem?_eq_none_iff.mp e; omega)] at this
    | some x =>
      rw [bodyS_take e, (digs_take e).1]
      have ih := bodyS_at hc (c := c) (fg := fg) i
      have hx := hc x (List.mem_of_getElem? e)
      simp only [MK, List.mem_cons, List.not_mem_nil, or_false] at hx
      unfold stB
      rcases hx with rfl | rfl | rfl | rfl | rfl | rfl | rfl | rfl <;> simp [ih]
theorem map_snoc (acc : Tx) (x : Nat) : (acc.map fun c => D.str [c]) ++ [.str [x]] = (acc ++ [x]).map fun c => D.str [c] := by simp
theorem joinL_chars : ∀ z : Tx, TL.joinL [] (z.map fun c => [c]) = z
  | [] => rfl
  | [c] => by simp [TL.joinL]
  | c :: d :: r => by
    have ih := joinL_chars (d :: r)
    simp only [List.map_cons] at ih ⊢
    simp only [TL.joinL, List.nil_append] at ih ⊢
    simpa using ih
theorem map_chars (z : Tx) : (z.map fun c => D.str [c]) = (z.map fun c => [c]).map D.str := by rw [List.map_map]; rfl
theorem st_dot (fl : Nat) (fg : Tx) (h : Bool) (n : Nat) (acc : Tx) : stB fl fg (h, n, acc) 46 = (false, n, acc ++ [46]) := rfl
theorem st_tx (fl : Nat) (fg : Tx) (h : Bool) (n : Nat) (acc : Tx) {x : Nat} (hx : x = 44 ∨ x = 98 ∨ x = 48 ∨ x = 47) : ∃ y, stB fl fg (h, n, acc) x = (h, n, acc ++ [y]) ∧ y = if h = true then fl else if x = 98 then 32 else x := by
  refine ⟨_, ?_, rfl⟩
  unfold stB
  rw [if_neg (by omega), if_pos hx]
theorem st_dig (fl : Nat) (fg : Tx) (h : Bool) (n : Nat) (acc : Tx) {x g : Nat} (hx : x = 122 ∨ x = 42 ∨ x = 57) (hg : fg[n]? = some g) :
    ∃ h' y, stB fl fg (h, n, acc) x = (h', n + 1, acc ++ [y]) ∧ (h' = true ↔ h = true ∧ x ≠ 57 ∧ g = 48) ∧ y = if h' = true then fl else g := by
  have hgd : fg.getD n 0 = g := by rw [List.getD_eq_getElem?_getD, hg]; rfl
  refine ⟨h && !decide (x = 57) && decide (g = 48), if (h && !decide (x = 57) && decide (g = 48)) = true then fl else g, ?_, ?_, rfl⟩
  · unfold stB
    rw [if_neg (by omega), if_neg (by omega), hgd]
  · simp [and_assoc]
theorem lk : lookT K_TEXTS [46] = none ∧ lookT K_TEXTS [122] = none ∧ lookT K_TEXTS [42] = none ∧ lookT K_TEXTS [57] = none ∧ lookT K_TEXTS [44] = some (.str [44]) ∧ lookT K_TEXTS [98] = some (.str [32]) ∧ lookT K_TEXTS [48] = some (.str [48]) ∧ lookT K_TEXTS [47] = some (.str [47]) := ⟨rfl, rfl, rfl, rfl, rfl, rfl, rfl, rfl⟩
theorem sum_ones : ∀ acc : Tx, ((acc.map fun c => [c]).map (·.length)).sum = acc.length
  | [] => rfl
  | a :: t => by
    have ih := sum_ones t
    simp only [List.map_cons, List.sum_cons, List.length_cons, List.length_nil] at ih ⊢
    omega
theorem t_body {k : Nat} (hk : 1 ≤ k) (c : Nat) (m fg : Tx) (h0 : m[0]? = some c) (hm : m.length ≤ 100) (hf : digs m ≤ fg.length) (hfl : fg.length ≤ 100) (hc : ∀ x ∈ m, x ∈ MK) (S : Sto) :
    (T k)._body [.str m, .str fg] S = .ok (.str (bodyS c m fg).2.2) S := by
  obtain ⟨k, rfl⟩ := Nat.exists_eq_add_of_le' hk
  rw [T__body]
  apply ok_out
  refine w_trim ?_
  unfold b__body q__body_1
  have hl := bodyS_len c m fg
  walk_at "run"
  refine ok_cut (fun E S' => S' = S ∧ E = [some (.str m), some (.str fg), some (.bl (!decide (c = 57))), none, none, none, none, none]) ?_ ?_
  · walk_at "auto*"
    all_goals simp [*]
  rintro _ S1 ⟨rfl, rfl⟩
  refine ok_cut (fun E S' => S' = S1 ∧ E = [some (.str m), some (.str fg), some (.bl (!decide (c = 57))), some (.str [flr c]), none, none, none, none]) ?_ ?_
  · unfold flr
    walk_at "auto*"
    all_goals simp [*]
  rintro _ S ⟨rfl, rfl⟩
  walk_at "go"
  refine ok_forT (fun i E S' => S' = S ++ [.lst ((bodyS c (m.take i) fg).2.2.map fun x => .str [x])] ∧ ∃ a f, E = [some (.str m), some (.str fg), some (.bl (bodyS c (m.take i) fg).1), some (.str [flr c]), some (.loc S.length), some (.int (bodyS c (m.take i) fg).2.1), a, f]) ?_ ?_ ?_
  · exact ⟨rfl, _, _, rfl⟩
  · rintro i x _ S1 e ⟨rfl, a, f, rfl⟩
    have h1 := bodyS_at hc (c := c) (fg := fg) i
    have h2 := digs_take e
    have h3 := bodyS_len c (m.take i) fg
    have h4 : (m.take i).length ≤ 100 := by rw [List.length_take]; omega
    rw [bodyS_take e]
    have hx := hc x (List.mem_of_getElem? e)
    generalize bodyS c (m.take i) fg = s at *
    obtain ⟨h, n, acc⟩ := s
    simp only at h1 h3 ⊢
    obtain ⟨k1, k2, k3, k4, k5, k6, k7, k8⟩ := lk
    clear hc e hl h0 hm
    simp only [MK, List.mem_cons, List.not_mem_nil, or_false] at hx
    unfold l__body_1
    have hg : ∀ b, b ∈ [122, 42, 57] → (b = x) → ∃ g, fg[n]? = some g := fun b hb e => by
      have : n < fg.length := by
        have h2' := h2.1
        rw [if_pos (by rw [← e]; exact hb)] at h2'
        omega
      exact ⟨_, List.getElem?_eq_getElem this⟩
    have hz : acc.length ≤ 100 := by omega
    have hn : n ≤ 1000000 := by
      have := h2.2
      have := h2.1
      omega
    clear h1 h2 h3 h4
    rcases hx with rfl | rfl | rfl | rfl | rfl | rfl | rfl | rfl
    · obtain ⟨g, hg⟩ := hg 122 (by decide) rfl
      obtain ⟨h', y, st, e1, e2⟩ := st_dig (flr c) fg h n acc (x := 122) (by decide) hg
      rw [st]
      have i1 := congrArg Option.isSome k1
      have i2 := congrArg Option.isSome k2
      have i3 := congrArg Option.isSome k3
      have i4 := congrArg Option.isSome k4
      simp only [Option.isSome_none] at i1 i2 i3 i4
      clear st
      walk_at "auto*"
      all_goals (try simp_all)
    · obtain ⟨g, hg⟩ := hg 42 (by decide) rfl
      obtain ⟨h', y, st, e1, e2⟩ := st_dig (flr c) fg h n acc (x := 42) (by decide) hg
      rw [st]
      have i1 := congrArg Option.isSome k1
      have i2 := congrArg Option.isSome k2
      have i3 := congrArg Option.isSome k3
      have i4 := congrArg Option.isSome k4
      simp only [Option.isSome_none] at i1 i2 i3 i4
      clear st
      walk_at "auto*"
      all_goals (try simp_all)
    · obtain ⟨g, hg⟩ := hg 57 (by decide) rfl
      obtain ⟨h', y, st, e1, e2⟩ := st_dig (flr c) fg h n acc (x := 57) (by decide) hg
      rw [st]
      have i1 := congrArg Option.isSome k1
      have i2 := congrArg Option.isSome k2
      have i3 := congrArg Option.isSome k3
      have i4 := congrArg Option.isSome k4
      simp only [Option.isSome_none] at i1 i2 i3 i4
      clear st
      walk_at "auto*"
      all_goals (try simp_all)
    · rw [st_dot]
      have i1 := congrArg Option.isSome k1
      simp only [Option.isSome_none] at i1
      walk_at "auto*"
      all_goals (try simp_all)
    · obtain ⟨y, st, e1⟩ := st_tx (flr c) fg h n acc (x := 44) (by decide)
      rw [st]
      have i5 := congrArg Option.isSome k5
      have i6 := congrArg Option.isSome k6
      have i7 := congrArg Option.isSome k7
      have i8 := congrArg Option.isSome k8
      simp only [Option.isSome_some] at i5 i6 i7 i8
      clear st
      walk_at "auto*"
      all_goals (try simp_all)
    · obtain ⟨y, st, e1⟩ := st_tx (flr c) fg h n acc (x := 98) (by decide)
      rw [st]
      have i5 := congrArg Option.isSome k5
      have i6 := congrArg Option.isSome k6
      have i7 := congrArg Option.isSome k7
      have i8 := congrArg Option.isSome k8
      simp only [Option.isSome_some] at i5 i6 i7 i8
      clear st
      walk_at "auto*"
      all_goals (try simp_all)
    · obtain ⟨y, st, e1⟩ := st_tx (flr c) fg h n acc (x := 48) (by decide)
      rw [st]
      have i5 := congrArg Option.isSome k5
      have i6 := congrArg Option.isSome k6
      have i7 := congrArg Option.isSome k7
      have i8 := congrArg Option.isSome k8
      simp only [Option.isSome_some] at i5 i6 i7 i8
      clear st
      walk_at "auto*"
      all_goals (try simp_all)
    · obtain ⟨y, st, e1⟩ := st_tx (flr c) fg h n acc (x := 47) (by decide)
      rw [st]
      have i5 := congrArg Option.isSome k5
      have i6 := congrArg Option.isSome k6
      have i7 := congrArg Option.isSome k7
      have i8 := congrArg Option.isSome k8
      simp only [Option.isSome_some] at i5 i6 i7 i8
      clear st
      walk_at "auto*"
      all_goals (try simp_all)
  · rintro _ S1 ⟨rfl, a, f, rfl⟩
    rw [List.take_length]
    have hj : (bodyS c m fg).2.2.length ≤ 100 := by omega
    generalize bodyS c m fg = s at *
    obtain ⟨h, n, acc⟩ := s
    simp only at *
    have jo : joinOk [] (acc.map fun c => [c]) := by
      apply joinOk_le
      rw [sum_ones]
      simp only [List.length_nil]
      omega
    rw [map_chars]
    have jl := joinL_chars acc
    walk_at "auto*"
    exact ⟨_, rfl, rfl⟩
/-! figures and signs -/
def fgs (u : Int) (n : Nat) : Tx := List.replicate (n - (TL.numL u.natAbs).length) 48 ++ TL.numL u.natAbs
theorem numT_nn {i : Int} (h : 0 ≤ i) : numT i = TL.numL i.natAbs := by unfold numT; rw [if_neg (by omega)]
theorem zfill_fgs (u : Int) (n : Nat) : zfillD (TL.numL u.natAbs) (n : Int) = fgs u n := by
  unfold zfillD fgs
  by_cases h : (n : Int) ≤ (TL.numL u.natAbs).length
  · rw [if_pos h, show n - (TL.numL u.natAbs).length = 0 by omega]; rfl
  · rw [if_neg h]
    have e : ((n : Int)).toNat = n := by omega
    rw [e]
    have ne := TL.numL_digits u.natAbs
    generalize TL.numL u.natAbs = z at *
    split
    · rename_i r
      have := ne 43 List.mem_cons_self
      omega
    · rename_i r
      have := ne 45 List.mem_cons_self
      omega
    · rfl
theorem fgs_ge (u : Int) (n : Nat) : n ≤ (fgs u n).length := by
  unfold fgs
  rw [List.length_append, List.length_replicate]
  omega
theorem fgs_le {u : Int} {n m : Nat} (hm : 0 < m) (h : u.natAbs < 10 ^ m) : (fgs u n).length ≤ n + m := by
  unfold fgs
  rw [List.length_append, List.length_replicate]
  have := TL.numL_len hm h
  omega
theorem fgs_len {u : Int} {n : Nat} (hm : 0 < n) (h : u.natAbs < 10 ^ n) : (fgs u n).length = n := by
  unfold fgs
  rw [List.length_append, List.length_replicate]
  have := TL.numL_len hm h
  omega
theorem strOk_small {i : Int} (h0 : 0 ≤ i) (h : i < 18446744073709551616) : strOkI i := by
  unfold strOkI
  exact Nat.lt_of_lt_of_le (PySem.Flt.log2_lt_of (k := 64) (by omega) (by omega)) (by decide)
/-- a body with its sign -/
def sgW (b s : Tx) (neg : Bool) : Tx :=
  if s = [] then b
  else if s = [99, 114] ∨ s = [100, 98] then b ++ (if neg then s.map upT else [32, 32])
  else if s.take 1 = [46] then b ++ [if neg then 45 else if s = [46, 43] then 43 else 32] else (if neg then 45 else if s = [43] then 43 else 32) :: b
theorem t_with_sign {k : Nat} (hk : 1 ≤ k) (b s : Tx) (neg : Bool) (hb : b.length ≤ 1000) (hs : s ∈ SGNS) (S : Sto) : (T k)._with_sign [.str b, .str s, .bl neg] S = .ok (.str (sgW b s neg)) S := by
  obtain ⟨k, rfl⟩ := Nat.exists_eq_add_of_le' hk
  rw [T__with_sign]
  apply ok_out
  unfold b__with_sign q__with_sign_1
  have u1 : upOk [99, 114] := ⟨by decide, by decide⟩
  have u2 : upOk [100, 98] := ⟨by decide, by decide⟩
  simp only [SGNS, List.mem_cons, List.not_mem_nil, or_false] at hs
  rcases hs with rfl | rfl | rfl | rfl | rfl | rfl | rfl | rfl <;> cases neg
  all_goals walk_at "auto*"
  all_goals first | rfl | (exfalso; simp_all; done) | (simp_all; done)
/-! reading back what was written -/
def fixC (c : Nat) : Nat := if c = 42 then 48 else if c = 32 then 48 else c
def isM (c : Nat) : Bool := decide (c ∈ [122, 42, 57])
def fgT (m b : Tx) : Tx := (((m.zip b).filter fun p => isM p.1).map (·.2)).map fixC
theorem replL_one (a b : Nat) : ∀ z : Tx, StrLaws.replL [a] [b] z = z.map fun c => if c = a then b else c
  | [] => StrLaws.replL_nil
  | c :: r => by
    by_cases h : c = a
    · rw [StrLaws.replL_hit (by simp) (by simp [h])]
      simp only [List.length_cons, List.length_nil, List.drop_succ_cons, List.drop_zero, List.map_cons, if_pos h, List.cons_append, List.nil_append]
      rw [replL_one a b r]
    · rw [StrLaws.replL_miss (by simp [h]), List.map_cons, if_neg h, replL_one a b r]
theorem fix_repl (z : Tx) : StrLaws.replL [42] [48] (StrLaws.replL [32] [48] z) = z.map fixC := by
  rw [replL_one, replL_one, List.map_map]
  apply List.map_congr_left
  intro c _
  unfold fixC
  by_cases h1 : c = 32
  · subst h1; rfl
  · by_cases h2 : c = 42
    · subst h2; rfl
    · simp [h1, h2]
theorem digs_cons (c : Nat) (m : Tx) : digs (c :: m) = (if isM c then 1 else 0) + digs m := by
  unfold digs isM
  rw [List.filter_cons]
  split <;> simp <;> omega
/-- the digits of a body -/
theorem body_fg (fl : Nat) (fg : Tx) (hfl : fl = 42 ∨ fl = 32) (hd : ∀ c ∈ fg, 48 ≤ c ∧ c ≤ 57) : ∀ (m : Tx) (h : Bool) (k : Nat) (acc : Tx), (∀ x ∈ m, x ∈ MK) → k + digs m ≤ fg.length →
    ∃ out, (m.foldl (stB fl fg) (h, k, acc)).2.2 = acc ++ out ∧ out.length = m.length ∧ fgT m out = (fg.drop k).take (digs m)
  | [], h, k, acc, _, _ => ⟨[], by simp, rfl, by simp [fgT, digs]⟩
  | c :: m, h, k, acc, hm, hk => by
    have hc := hm c (by simp)
    have hm2 : ∀ x ∈ m, x ∈ MK := fun x hx => hm x (by simp [hx])
    rw [digs_cons] at hk
    rw [List.foldl_cons]
    have go : ∀ (h' : Bool) (k' : Nat) (y : Nat), stB fl fg (h, k, acc) c = (h', k', acc ++ [y]) → k' + digs m ≤ fg.length → (isM c = false → k' = k) → (isM c = true → k' = k + 1 ∧ fg[k]? = some (fixC y)) →
        ∃ out, (m.foldl (stB fl fg) (stB fl fg (h, k, acc) c)).2.2 = acc ++ out ∧ out.length = (c :: m).length ∧ fgT (c :: m) out = (fg.drop k).take (digs (c :: m)) := by
      intro h' k' y e hk' e1 e2
      rw [e]
      obtain ⟨out, o1, o2, o3⟩ := body_fg fl fg hfl hd m h' k' (acc ++ [y]) hm2 hk'
      refine ⟨y :: out, by rw [o1]; simp, by simp [o2], ?_⟩
      rw [digs_cons]
      unfold fgT at o3 ⊢
      rw [List.zip_cons_cons, List.filter_cons]
      cases q : isM c with
      | false =>
        simp only [q, Bool.false_eq_true, if_false, Nat.zero_add]
        rw [e1 q] at o3
        exact o3
      | true =>
        obtain ⟨f1, f2⟩ := e2 q
        simp only [q, if_true, List.map_cons]
        rw [o3, f1, Nat.add_comm 1, drop_cons_of f2, List.take_succ_cons]
    simp only [MK, List.mem_cons, List.not_mem_nil, or_false] at hc
    have dig : isM c = true → c = 122 ∨ c = 42 ∨ c = 57 → ∃ out, (m.foldl (stB fl fg) (stB fl fg (h, k, acc) c)).2.2 = acc ++ out ∧ out.length = (c :: m).length ∧ fgT (c :: m) out = (fg.drop k).take (digs (c :: m)) := by
      intro q hx
      rw [q, if_pos rfl] at hk
      have hkl : k < fg.length := by omega
      obtain ⟨h', y, st, e1, e2⟩ := st_dig fl fg h k acc hx (List.getElem?_eq_getElem hkl)
      have hb := hd _ (List.getElem_mem hkl)
      refine go h' (k + 1) y st (by omega) (fun z => by rw [q] at z; cases z) fun _ => ⟨rfl, ?_⟩
      rw [List.getElem?_eq_getElem hkl]
      congr 1
      rw [e2]
      by_cases h1 : h' = true
      · rw [if_pos h1]
        have := (e1.mp h1).2.2
        rw [this]
        rcases hfl with rfl | rfl <;> rfl
      · rw [if_neg h1]
        generalize fg[k] = g at *
        unfold fixC
        rw [if_neg (by omega), if_neg (by omega)]
    rcases hc with rfl | rfl | rfl | rfl | rfl | rfl | rfl | rfl
    · exact dig rfl (by decide)
    · exact dig rfl (by decide)
    · exact dig rfl (by decide)
    · exact go false k 46 rfl (by have : isM 46 = false := rfl; rw [this] at hk; simpa using hk) (fun _ => rfl) fun z => by cases z
    · obtain ⟨y, st, _⟩ := st_tx fl fg h k acc (x := 44) (by decide)
      exact go h k y st (by have : isM 44 = false := rfl; rw [this] at hk; simpa using hk) (fun _ => rfl) fun z => by cases z
    · obtain ⟨y, st, _⟩ := st_tx fl fg h k acc (x := 98) (by decide)
      exact go h k y st (by have : isM 98 = false := rfl; rw [this] at hk; simpa using hk) (fun _ => rfl) fun z => by cases z
    · obtain ⟨y, st, _⟩ := st_tx fl fg h k acc (x := 48) (by decide)
      exact go h k y st (by have : isM 48 = false := rfl; rw [this] at hk; simpa using hk) (fun _ => rfl) fun z => by cases z
    · obtain ⟨y, st, _⟩ := st_tx fl fg h k acc (x := 47) (by decide)
      exact go h k y st (by have : isM 47 = false := rfl; rw [this] at hk; simpa using hk) (fun _ => rfl) fun z => by cases z
theorem flr_or (c : Nat) : flr c = 42 ∨ flr c = 32 := by unfold flr; split <;> simp
theorem bodyS_fg {c : Nat} {m fg : Tx} (hm : ∀ x ∈ m, x ∈ MK) (hl : fg.length = digs m) (hd : ∀ c ∈ fg, 48 ≤ c ∧ c ≤ 57) : fgT m (bodyS c m fg).2.2 = fg := by
  obtain ⟨out, o1, o2, o3⟩ := body_fg (flr c) fg (flr_or c) hd m (!decide (c = 57)) 0 [] hm (by omega)
  unfold bodyS
  rw [o1, List.nil_append, o3, List.drop_zero]
  exact List.take_of_length_le (by omega)
theorem fgs_dig (u : Int) (n : Nat) : ∀ c ∈ fgs u n, 48 ≤ c ∧ c ≤ 57 := by
  intro c hc
  unfold fgs at hc
  rcases List.mem_append.mp hc with h | h
  · rw [List.eq_of_mem_replicate h]; omega
  · exact TL.numL_digits u.natAbs c h
theorem dv_zeros (n : Nat) (z : Tx) : NumText.digitsVal (List.replicate n 48 ++ z) = NumText.digitsVal z := by
  induction n with
  | zero => rfl
  | succ n ih => rw [List.replicate_succ, List.cons_append, NumText.digitsVal_zero, ih]
theorem fgs_val (u : Int) (n : Nat) : NumText.digitsVal (fgs u n) = u.natAbs := by
  unfold fgs
  rw [dv_zeros]
  exact TL.numL_val u.natAbs
/-! the picture's figures, whole and broken; the sign -/
def wD (d : D) : Int := match d with
  | .tup [_, _, .int a, .int _] => a
  | .tup [_, _, .int a, .int _, _] => a
  | _ => 0
def BfL (d : D) (n : Nat) (sg : Bool) : Prop := (∃ b w f, w + f = n ∧ sg = b ∧ d = numQ b w f) ∨ ∃ m c a f s, m[0]? = some c ∧ m.length ≤ 100 ∧ digs m = a + f ∧ (∀ x ∈ m, x ∈ MK) ∧ a + f = n ∧ s ∈ SGNS ∧ (sg = !decide (s = [])) ∧ d = edQ m a f s
theorem t_fits {k : Nat} (hk : 2 ≤ k) (u : Int) (n : Nat) (hn : n ≤ 1000) (S : Sto) : (T k).fits [.int u, .int n] S = .ok (.bl (decide (((u.natAbs : Nat) : Int) < 10 ^ n))) S := by
  obtain ⟨k, rfl⟩ := Nat.exists_eq_add_of_le' hk
  have tp := t_power (k := k + 1) (by omega) n (by omega)
  rw [T_fits]
  apply ok_out
  unfold b_fits
  generalize (10 : Int) ^ n = L at *
  have ea : ((u.natAbs : Nat) : Int) = ab u := by unfold ab; split <;> omega
  rw [ea]
  clear ea
  walk_at "auto*"
theorem t_is_signed {k : Nat} (hk : 1 ≤ k) {d : D} {n : Nat} {sg : Bool} (h : BfL d n sg) (S : Sto) : (T k).is_signed [d] S = .ok (.bl sg) S := by
  obtain ⟨k, rfl⟩ := Nat.exists_eq_add_of_le' hk
  rw [T_is_signed]
  apply ok_out
  unfold b_is_signed
  rcases h with ⟨b, w, f, _, rfl, rfl⟩ | ⟨m, c, a, f, s, _, _, _, _, _, _, rfl, rfl⟩
  · unfold numQ
    walk_at "auto*"
  · unfold edQ
    walk_at "auto*"
    all_goals (try simp_all)
    all_goals (try trace_state)
/-- whole and broken figures -/
theorem t_digits_in {k : Nat} (hk : 1 ≤ k) {d : D} {n : Nat} {sg : Bool} (h : BfL d n sg) : ∃ a b : Nat, a + b = n ∧ ∀ S, (T k).digits_in [d] S = .ok (.tup [.int a, .int b]) S := by
  obtain ⟨k, rfl⟩ := Nat.exists_eq_add_of_le' hk
  rw [T_digits_in]
  rcases h with ⟨b, w, f, hn, rfl, rfl⟩ | ⟨m, c, a, f, s, _, _, _, _, hn, _, rfl, rfl⟩
  · refine ⟨w, f, hn, fun S => ?_⟩
    apply ok_out
    unfold b_digits_in numQ
    walk_at "auto*"
  · refine ⟨a, f, hn, fun S => ?_⟩
    apply ok_out
    unfold b_digits_in edQ
    walk_at "auto*"
def cutD (u : Int) (n : Nat) (sg : Bool) : Int := if u < 0 ∧ sg = true then -((u.natAbs : Int) % 10 ^ n) else (u.natAbs : Int) % 10 ^ n
def suitB (u : Int) (n : Nat) (sg : Bool) : Bool := decide (((u.natAbs : Nat) : Int) < 10 ^ n) && (decide (0 ≤ u) || sg)
theorem lim_b {n : Nat} (h : n ≤ 12) : 1 ≤ (10 : Int) ^ n ∧ (10 : Int) ^ n ≤ 1000000000000 := by
  have : ∀ n : Nat, n < 13 → 1 ≤ (10 : Int) ^ n ∧ (10 : Int) ^ n ≤ 1000000000000 := by decide
  exact this n (by omega)
theorem lim18 {n : Nat} (h : n ≤ 18) : 1 ≤ (10 : Int) ^ n ∧ (10 : Int) ^ n ≤ 1000000000000000000 := by
  have : ∀ n : Nat, n < 19 → 1 ≤ (10 : Int) ^ n ∧ (10 : Int) ^ n ≤ 1000000000000000000 := by decide
  exact this n (by omega)
theorem t_suits {k : Nat} (hk : 3 ≤ k) {d : D} {n : Nat} {sg : Bool} (h : BfL d n sg) (hn : n ≤ 18) (u : Int) (S : Sto) : (T k).suits [d, .int u] S = .ok (.bl (suitB u n sg)) S := by
  obtain ⟨k, rfl⟩ := Nat.exists_eq_add_of_le' hk
  have ts := t_is_signed (k := k + 2) (by omega) h
  obtain ⟨a, b, hab, td⟩ := t_digits_in (k := k + 2) (by omega) h
  have tf := t_fits (k := k + 2) (by omega) u n (by omega)
  have eab : (a : Int) + (b : Int) = (n : Int) := by omega
  rw [T_suits]
  apply ok_out
  unfold b_suits suitB
  clear hab h
  generalize decide (((u.natAbs : Nat) : Int) < 10 ^ n) = B at *
  walk_at "auto*"
  all_goals (try simp_all)
  all_goals (intro h; omega)
theorem t_trimmed {k : Nat} (hk : 2 ≤ k) {d : D} {n : Nat} {sg : Bool} (h : BfL d n sg) (hn : n ≤ 18) (u : Int) (S : Sto) : (T k).trimmed [d, .int u] S = .ok (.int (cutD u n sg)) S := by
  obtain ⟨k, rfl⟩ := Nat.exists_eq_add_of_le' hk
  have ts := t_is_signed (k := k + 1) (by omega) h
  obtain ⟨a, b, hab, td⟩ := t_digits_in (k := k + 1) (by omega) h
  have tp := t_power (k := k + 1) (by omega) n (by omega)
  have hL := lim18 hn
  have eab : (a : Int) + (b : Int) = (n : Int) := by omega
  rw [T_trimmed]
  apply ok_out
  unfold b_trimmed q_trimmed_1 cutD
  have em : ((u.natAbs : Nat) : Int) % 10 ^ n = (u.natAbs : Int) - (u.natAbs : Int) / 10 ^ n * 10 ^ n := by
    rw [Int.emod_def, Int.mul_comm]
  rw [em]
  have hd1 : (u.natAbs : Int) / 10 ^ n ≤ u.natAbs := Int.ediv_le_self _ (by omega)
  have hd2 : 0 ≤ (u.natAbs : Int) / 10 ^ n := Int.ediv_nonneg (by omega) (by omega)
  have ml : mulOk ((u.natAbs : Int) / 10 ^ n) (10 ^ n) := mulOk_R (by constructor <;> omega)
  have hv : (u.natAbs : Int) / 10 ^ n * 10 ^ n ≤ u.natAbs := Int.ediv_mul_le _ (by omega)
  have hv2 : 0 ≤ (u.natAbs : Int) / 10 ^ n * 10 ^ n := Int.mul_nonneg hd2 (by omega)
  generalize (10 : Int) ^ n = L at *
  clear em hab h
  have ea : ((u.natAbs : Nat) : Int) = ab u := by unfold ab; split <;> omega
  rw [ea] at *
  clear ea
  walk_at "auto*"
  all_goals (try simp_all)
  all_goals (intro h; omega)
/-! written, by the program and by the law -/
def wrB (d : D) (u : Int) (n : Nat) : Tx := match d with
  | .tup [_, .bl b, _, _] => if b then (if u < 0 then 45 else 43) :: fgs u n else fgs u n
  | .tup [_, .str m, _, _, .str s] => sgW (bodyS (m.headD 0) m (fgs u n)).2.2 s (decide (u < 0))
  | _ => []
theorem len1 {x : D} {n : Nat} (h : n ≤ 100) : n ≤ 100 := h
theorem t_written {k : Nat} (hk : 4 ≤ k) {d : D} {n : Nat} {sg : Bool} (h : BfL d n sg) (h1 : 1 ≤ n) (hn : n ≤ 18) (u : Int) (hu : u.natAbs < 1000000000000000000) (S : Sto) :
    (T k).written [d, .int u] S = if suitB u n sg = true then .ok (.str (wrB d u n)) S else .ex ⟨.own "BadPicture", none⟩ S := by
  obtain ⟨k, rfl⟩ := Nat.exists_eq_add_of_le' hk
  have ts := t_suits (k := k + 3) (by omega) h hn u
  obtain ⟨a, b, hab, td⟩ := t_digits_in (k := k + 3) (by omega) h
  have so : strOkI (ab u) := strOk_small (by unfold ab; split <;> omega) (by unfold ab; split <;> omega)
  have e1 : numT (ab u) = TL.numL u.natAbs := by
    rw [numT_nn (by unfold ab; split <;> omega)]
    congr 1
    unfold ab; split <;> omega
  have eab : (a : Int) + (b : Int) = (n : Int) := by omega
  have ez := zfill_fgs u n
  have l1 := fgs_ge u n
  have l2 := fgs_le (u := u) (n := n) (m := 18) (by decide) hu
  have pk : padOk (n : Int) := by
    unfold padOk PadOk fitsSsize Builtin.Str.tooLong
    have hz := sizeLine_eq
    rw [decide_eq_false (show ¬ ((n : Int) < -(2 ^ 63)) by omega), decide_eq_false (show ¬ ((n : Int) ≥ 2 ^ 63) by omega), decide_eq_false (show ¬ ((n : Int)).toNat > sizeLine by omega)]
    rfl
  rw [T_written]
  apply ok_out
  unfold b_written q_written_1
  cases hs : suitB u n sg with
  | false =>
    rw [hs] at ts
    rw [if_neg (by decide)]
    clear td
    walk_at "auto*"
  | true =>
    rw [hs] at ts
    rw [if_pos rfl]
    rcases h with ⟨bb, w, f, hn2, rfl, rfl⟩ | ⟨m, c, a2, f, s, g0, g1, g2, g3, g4, g5, rfl, rfl⟩
    · unfold wrB numQ
      unfold numQ at ts td
      generalize fgs u n = F at *
      generalize TL.numL u.natAbs = N at *
      clear l1
      have l3 : F.length ≤ 36 := by omega
      clear l2 hn2
      generalize (n : Int) = ni at *
      cases sg <;> walk_at "auto*"
      all_goals (try simp_all)
      all_goals (try trace_state)
    · have tb := t_body (k := k + 3) (by omega) c m (fgs u n) g0 g1 (by omega) (by omega) g3
      have hl := bodyS_len c m (fgs u n)
      have hc : m.headD 0 = c := by
        cases m with
        | nil => simp at g0
        | cons x r => simp at g0; simpa using g0
      unfold wrB edQ
      unfold edQ at ts td
      dsimp only
      rw [hc]
      generalize fgs u n = F at *
      generalize (bodyS c m F).2.2 = Z at *
      have tw := t_with_sign (k := k + 3) (by omega) Z s (decide (u < 0)) (by omega) g5
      generalize TL.numL u.natAbs = N at *
      clear l1 g0 g1 g2 g3 g4 g5 hl hc
      have l3 : F.length ≤ 36 := by omega
      clear l2
      generalize (n : Int) = ni at *
      walk_at "auto*"
      all_goals (try simp_all)
      all_goals (try trace_state)
theorem forD_scan {g : MG} {b : MS} {S : Sto} {d : D} (P : Evn → Prop) (p : D → Bool) : ∀ (l : List D) (E : Evn), P E →
    (∀ x E, x ∈ l → P E → (p x = true → ∃ E2, turn g b x E S = .nx E2 S ∧ P E2) ∧ (p x = false → turn g b x E S = .rt d S)) →
    (l.all p = true → ∃ E2, forD none g b l E S = .nx E2 S ∧ P E2) ∧ (l.all p = false → forD none g b l E S = .rt d S)
  | [], E, h0, h => ⟨fun _ => ⟨E, forD_nil, h0⟩, fun z => by simp at z⟩
  | x :: l, E, h0, h => by
    obtain ⟨h1, h2⟩ := h x E List.mem_cons_self h0
    rw [forD_cons, List.all_cons]
    cases hp : p x with
    | false => rw [h2 hp]; exact ⟨fun z => by simp at z, fun _ => rfl⟩
    | true =>
      obtain ⟨E2, h3, h4⟩ := h1 hp
      rw [h3, Bool.true_and]
      exact forD_scan P p l E2 h4 fun y E hy => h y E (List.mem_cons_of_mem _ hy)
theorem str_scan {g : MG} {b : MS} {S : Sto} {d : D} (P : Evn → Prop) (q : Nat → Bool) (z : Tx) (E : Evn) (h0 : P E)
    (h : ∀ c E, c ∈ z → P E → (q c = true → ∃ E2, turn g b (.str [c]) E S = .nx E2 S ∧ P E2) ∧ (q c = false → turn g b (.str [c]) E S = .rt d S)) :
    (z.all q = true → ∃ E2, forD none g b (z.map fun c => .str [c]) E S = .nx E2 S ∧ P E2) ∧ (z.all q = false → forD none g b (z.map fun c => .str [c]) E S = .rt d S) := by
  have := forD_scan (g := g) (b := b) (S := S) (d := d) P (fun x => match x with | .str [c] => q c | _ => true) (z.map fun c => .str [c]) E h0 fun x E hx hP => by
    obtain ⟨c, hc, rfl⟩ := List.mem_map.mp hx
    exact h c E hc hP
  rw [List.all_map] at this
  exact this
theorem len_cutL {α : Type} (z : List α) (lo hi : Option Int) : (cutL z lo hi).length ≤ z.length := by
  unfold cutL
  rw [List.length_take, List.length_drop]
  omega
theorem lt1 {c d : Nat} : ([c] : List Nat) < [d] ↔ c < d := by
  rw [List.cons_lt_cons_iff]
  simp
theorem ixS_in {z : Tx} {i : Int} {S : Sto} (h0 : 0 ≤ i) (h1 : i < z.length) (hz : PD.sizeOk z.length) : ∃ c, gIx S (.str z) (.int i) = some (.str [c]) := by
  have h2 : i.toNat < z.length := by omega
  refine ⟨z[i.toNat], ?_⟩
  simp only [gIx]
  rw [if_pos hz, if_pos h0, List.getElem?_eq_getElem h2]
  rfl
theorem ixS_0 {c : Nat} {z : Tx} {S : Sto} (hz : PD.sizeOk (c :: z).length) : gIx S (.str (c :: z)) (.int 0) = some (.str [c]) := by
  simp only [gIx]
  rw [if_pos hz]
  rfl
theorem ixS_last {c : Nat} {z : Tx} {S : Sto} (hz : PD.sizeOk (c :: z).length) : gIx S (.str (c :: z)) (.int (-1)) = some (.str [(c :: z).getLast (by simp)]) := by
  have e : (-1 + ((c :: z).length : Int)).toNat = (c :: z).length - 1 := by simp only [List.length_cons]; omega
  have e2 : (c :: z)[(c :: z).length - 1]? = some ((c :: z).getLast (by simp)) := by
    rw [List.getLast_eq_getElem, List.getElem?_eq_getElem]
  have h1 : -((c :: z).length : Int) ≤ -1 := by simp; omega
  simp only [gIx]
  rw [if_pos hz, if_neg (by decide), if_pos h1, e, e2]
  rfl
theorem small62_le {n : Nat} (h : n ≤ 1000000) : small62 n := ⟨by omega, by omega⟩
def FG : Tx := [48, 49, 50, 51, 52, 53, 54, 55, 56, 57]
def fgB (z : Tx) : Bool := !decide (z = []) && z.all fun c => decide (c ∈ FG)
theorem t_are_figures {k : Nat} (hk : 1 ≤ k) (z : Tx) (S : Sto) : (T k).are_figures [.str z] S = .ok (.bl (fgB z)) S := by
  obtain ⟨k, rfl⟩ := Nat.exists_eq_add_of_le' hk
  have x2 : ([48, 49, 50, 51, 52, 53, 54, 55, 56, 57] : Tx) = FG := rfl
  obtain ⟨s1, s2⟩ := str_scan (g := gN 1) (b := l_are_figures_1 (T k)) (S := S) (d := .bl false) (fun E => ∃ y, E = [some (.str z), y]) (fun c => decide (c ∈ FG)) z [some (.str z), none] ⟨none, rfl⟩ fun c E hc hE => by
    obtain ⟨y, rfl⟩ := hE
    unfold l_are_figures_1
    rw [x2]
    refine ⟨fun h => ⟨[some (.str z), some (.str [c])], ?_, ⟨_, rfl⟩⟩, fun h => ?_⟩
    · walk_at "ev*"
    · walk_at "ev*"
  rw [T_are_figures]
  unfold b_are_figures fgB
  by_cases h0 : z = []
  · rw [decide_eq_true h0]
    walk_at "ev*"
  · rw [decide_eq_false h0]
    cases h : z.all fun c => decide (c ∈ FG) with
    | true =>
      obtain ⟨E2, e, y, rfl⟩ := s1 h
      walk_at "ev*"
    | false =>
      have e := s2 h
      walk_at "ev*"
def PR : Tx := [32, 33, 34, 35, 36, 38, 39, 40, 41, 42, 43, 44, 45, 46, 47, 48, 49, 50, 51, 52, 53, 54, 55, 56, 57, 58, 59, 60, 61, 62, 63, 64, 65, 66, 67, 68, 69, 70, 71, 72, 73, 74, 75, 76, 77, 78, 79, 80, 81, 82, 83, 84, 85, 86, 87, 88, 89, 90, 91, 92, 93, 94, 95, 96, 97, 98, 99, 100, 101, 102, 103, 104, 105, 106, 107, 108, 109, 110, 111, 112, 113, 114, 115, 116, 117, 118, 119, 120, 121, 122, 123, 124, 125, 126]
theorem pr_small : ∀ c < 127, decide (c ∈ PR) = (decide (32 ≤ c) && (decide (c ≤ 126) && !decide (c = 37))) := by decide +kernel
theorem pr_iff (c : Nat) : decide (c ∈ PR) = (decide (32 ≤ c) && (decide (c ≤ 126) && !decide (c = 37))) := by
  by_cases h : c < 127
  · exact pr_small c h
  · have h1 : ∀ x ∈ PR, x < 127 := by decide +kernel
    rw [decide_eq_false (fun q => h (h1 c q)), decide_eq_false (show ¬ c ≤ 126 by omega)]
    simp
theorem t_is_printable {k : Nat} (hk : 1 ≤ k) (z : Tx) (S : Sto) : (T k).is_printable [.str z] S = .ok (.bl (z.all fun c => decide (c ∈ PR))) S := by
  obtain ⟨k, rfl⟩ := Nat.exists_eq_add_of_le' hk
  obtain ⟨s1, s2⟩ := str_scan (g := gN 1) (b := l_is_printable_1 (T k)) (S := S) (d := .bl false) (fun E => ∃ y, E = [some (.str z), y]) (fun c => decide (c ∈ PR)) z [some (.str z), none] ⟨none, rfl⟩ fun c E hc hE => by
    obtain ⟨y, rfl⟩ := hE
    unfold l_is_printable_1
    have e1 : ([c] : Tx) < [32] ↔ c < 32 := lt1
    have e2 : ([126] : Tx) < [c] ↔ 126 < c := lt1
    rw [pr_iff]
    by_cases a1 : c < 32
    · have b1 := e1.mpr a1
      rw [decide_eq_false (show ¬ 32 ≤ c by omega)]
      clear e1 e2
      refine ⟨fun h => by simp at h, fun h => ?_⟩
      walk_at "ev*"
    · have b1 : ¬ ([c] : Tx) < [32] := fun q => a1 (e1.mp q)
      by_cases a2 : 126 < c
      · have b2 := e2.mpr a2
        rw [decide_eq_true (show 32 ≤ c by omega), decide_eq_false (show ¬ c ≤ 126 by omega)]
        clear e1 e2
        refine ⟨fun h => by simp at h, fun h => ?_⟩
        walk_at "ev*"
      · have b2 : ¬ ([126] : Tx) < [c] := fun q => a2 (e2.mp q)
        clear e1 e2
        by_cases a3 : c = 37
        · have b3 : (c : Int) = 37 := by omega
          rw [decide_eq_true a3]
          clear a3
          refine ⟨fun h => by simp at h, fun h => ?_⟩
          walk_at "ev*"
        · have b3 : ¬ (c : Int) = 37 := by omega
          refine ⟨fun h => ⟨[some (.str z), some (.str [c])], ?_, ⟨_, rfl⟩⟩, fun h => by rw [decide_eq_true (show 32 ≤ c by omega), decide_eq_true (show c ≤ 126 by omega), decide_eq_false a3] at h; simp at h⟩
          clear a3 h
          walk_at "ev*"
  rw [T_is_printable]
  unfold b_is_printable
  cases h : z.all fun c => decide (c ∈ PR) with
  | true =>
    obtain ⟨E2, e, y, rfl⟩ := s1 h
    walk_at "ev*"
  | false =>
    have e := s2 h
    walk_at "ev*"
/-! size, halves, reading -/
def sgl (s : Tx) : Nat := (s.dropWhile fun c => decide (c ∈ [46])).length
def szP (d : D) : Nat := match d with
  | .tup [_, .bl b, .int w, .int f] => (if b then 1 else 0) + w.toNat + f.toNat
  | .tup [_, .str m, _, _, .str s] => m.length + sgl s
  | _ => 0
theorem sgl_le {s : Tx} (h : s ∈ SGNS) : sgl s ≤ 2 := (show ∀ s ∈ SGNS, sgl s ≤ 2 by decide) s h
theorem t_size_of {k : Nat} (hk : 1 ≤ k) {d : D} {n : Nat} {sg : Bool} (h : BfL d n sg) (S : Sto) : (T k).size_of [d] S = .ok (.int (szP d)) S := by
  obtain ⟨k, rfl⟩ := Nat.exists_eq_add_of_le' hk
  rw [T_size_of]
  apply ok_out
  unfold b_size_of
  rcases h with ⟨b, w, f, _, rfl, rfl⟩ | ⟨m, c, a, f, s, h0, h1, h2, h3, h4, h5, h6, rfl⟩
  · unfold numQ szP
    cases sg <;> walk_at "auto*"
    all_goals (try simp_all)
  · unfold edQ szP
    have hs := (show ∀ s ∈ SGNS, s.length ≤ 2 by decide) s h5
    clear h0 h2 h3 h4 h5 h6
    unfold sgl
    have hd : PD.sizeOk (List.dropWhile (fun c => decide (c = 46)) s).length := so_le (by
      have := (List.dropWhile_suffix (fun c => decide (c = 46)) (l := s)).length_le
      omega)
    walk_at "auto*"
    all_goals (try simp_all)
def sgE (d : D) : Tx := match d with
  | .tup [_, .str _, _, _, .str s] => s
  | _ => [45]
def halT (s : Tx) (sg : Bool) (t : Tx) : Tx × Bool :=
  if sg = false then (t, false)
  else if s = [99, 114] ∨ s = [100, 98] then (t.take (t.length - 2), decide (t.drop (t.length - 2) = s.map upT))
  else if s.take 1 = [46] then (t.take (t.length - 1), decide (t.drop (t.length - 1) = [45]))
  else (t.drop 1, decide (t.take 1 = [45]))
theorem t_halves {k : Nat} (hk : 2 ≤ k) {d : D} {n : Nat} {sg : Bool} (h : BfL d n sg) (t : Tx) (ht : t.length ≤ 1000) (S : Sto) :
    (T k)._halves [d, .str t] S = .ok (.tup [.str (halT (sgE d) sg t).1, .bl (halT (sgE d) sg t).2]) S := by
  obtain ⟨k, rfl⟩ := Nat.exists_eq_add_of_le' hk
  have ts := t_is_signed (k := k + 1) (by omega) h
  rw [T__halves]
  apply ok_out
  unfold b__halves
  have u1 : upOk [99, 114] := ⟨by decide, by decide⟩
  have u2 : upOk [100, 98] := ⟨by decide, by decide⟩
  rcases h with ⟨b, w, f, _, rfl, rfl⟩ | ⟨m, c, a, f, s, h0, h1, h2, h3, h4, h5, rfl, rfl⟩
  · unfold numQ sgE halT
    unfold numQ at ts
    cases sg <;> walk_at "auto*"
    all_goals first | rfl | (simp_all; done) | trace_state
  · unfold edQ sgE
    unfold edQ at ts
    clear h0 h1 h2 h3 h4
    simp only [SGNS, List.mem_cons, List.not_mem_nil, or_false] at h5
    rcases h5 with rfl | rfl | rfl | rfl | rfl | rfl | rfl | rfl
    all_goals
      simp only [decide_true, decide_false, Bool.not_true, Bool.not_false, reduceCtorEq] at ts ⊢
      unfold halT
      walk_at "auto*"
    all_goals first | rfl | (simp_all; done) | trace_state
def figT (d : D) (b : Tx) : Tx := match d with
  | .tup [_, .str m, _, _, .str _] => fgT m b
  | _ => b
def uOf (f : Tx) (neg : Bool) : Int := if neg = true then -(NumText.digitsVal f : Int) else (NumText.digitsVal f : Int)
def rdP (d : D) (n : Nat) (sg : Bool) (t : Tx) : Option Int :=
  if t.length = szP d then
    if fgB (figT d (halT (sgE d) sg t).1) = true then
      if suitB (uOf (figT d (halT (sgE d) sg t).1) (halT (sgE d) sg t).2) n sg = true ∧ wrB d (uOf (figT d (halT (sgE d) sg t).1) (halT (sgE d) sg t).2) n = t then some (uOf (figT d (halT (sgE d) sg t).1) (halT (sgE d) sg t).2)
      else none
    else none
  else none
def oD : Option Int → D
  | none => .non
  | some u => .int u
theorem halT_len (s : Tx) (sg : Bool) (t : Tx) : (halT s sg t).1.length ≤ t.length := by
  unfold halT
  split
  · exact Nat.le_refl _
  · split
    · simp
    · split <;> simp
theorem fig_dig {w : Tx} (h : fgB w = true) (hl : w.length ≤ 600) : digT w := by
  unfold fgB at h
  simp only [Bool.and_eq_true, Bool.not_eq_true', decide_eq_false_iff_not, List.all_eq_true, decide_eq_true_eq] at h
  refine ⟨?_, h.1, by omega⟩
  rw [List.all_eq_true]
  intro c hc
  have := h.2 c hc
  simp only [FG, List.mem_cons, List.not_mem_nil, or_false] at this
  simp
  omega
theorem zip_len {m b : Tx} (h : b.length ≤ 1000) : (m.zip b).length ≤ 16777216 := by
  rw [List.length_zip]
  omega
theorem fgT_len (m b : Tx) : (((m.zip b).filter fun p => isM p.1).map (·.2)).length ≤ b.length := by
  rw [List.length_map]
  have := List.length_filter_le (fun p : Nat × Nat => isM p.1) (m.zip b)
  rw [List.length_zip] at this
  omega
theorem t_reading {k : Nat} (hk : 5 ≤ k) {d : D} {n : Nat} {sg : Bool} (h : BfL d n sg) (h1 : 1 ≤ n) (hn : n ≤ 18) (t : Tx) (ht : t.length ≤ 500) (S : Sto) :
    (T k).reading [d, .str t] S = .ok (oD (rdP d n sg t)) S := by
  obtain ⟨k, rfl⟩ := Nat.exists_eq_add_of_le' hk
  have tz := t_size_of (k := k + 4) (by omega) h
  have th := t_halves (k := k + 4) (by omega) h t (by omega)
  have tf := t_are_figures (k := k + 4) (by omega) (figT d (halT (sgE d) sg t).1)
  have ts := t_suits (k := k + 4) (by omega) h hn (uOf (figT d (halT (sgE d) sg t).1) (halT (sgE d) sg t).2)
  have tw := fun hu => t_written (k := k + 4) (by omega) h h1 hn (uOf (figT d (halT (sgE d) sg t).1) (halT (sgE d) sg t).2) hu
  have hb := halT_len (sgE d) sg t
  have hL := lim18 hn
  have hsu : suitB (uOf (figT d (halT (sgE d) sg t).1) (halT (sgE d) sg t).2) n sg = true → (uOf (figT d (halT (sgE d) sg t).1) (halT (sgE d) sg t).2).natAbs < 1000000000000000000 := by
    generalize uOf (figT d (halT (sgE d) sg t).1) (halT (sgE d) sg t).2 = u
    unfold suitB
    simp only [Bool.and_eq_true, decide_eq_true_eq]
    intro q
    omega
  rw [T_reading]
  apply ok_out
  unfold b_reading q_reading_1 rdP
  generalize hH : halT (sgE d) sg t = hh at *
  obtain ⟨body, neg⟩ := hh
  simp only at *
  have hfl : (figT d body).length ≤ 500 := by
    unfold figT
    split
    · unfold fgT
      rw [List.length_map]
      exact Nat.le_trans (fgT_len _ body) (by omega)
    · omega
  generalize hF : figT d body = F at *
  by_cases c1 : t.length = szP d
  · rw [if_pos c1]
    have c1' : (t.length : Int) = (szP d : Int) := by omega
    walk_at "run"
    refine ok_cut (fun E S' => S' = S ∧ E = [some d, some (.str t), none, none, none, none, none, none, none]) ?_ ?_
    · clear tf ts tw th
      walk_at "auto*"
    rintro _ S1 ⟨rfl, rfl⟩
    refine ok_cut (fun E S' => S' = S1 ∧ E = [some d, some (.str t), none, none, some (.str body), some (.bl neg), none, none, none]) ?_ ?_
    · clear tf ts tw tz
      walk_at "auto*"
    rintro _ S2 ⟨rfl, rfl⟩
    refine ok_cut (fun E S' => S' = S2 ∧ E = [some d, some (.str t), some (.str body), none, some (.str body), some (.bl neg), none, none, none]) ?_ ?_
    · clear tf ts tw tz
      walk_at "auto*"
    rintro _ S3 ⟨rfl, rfl⟩
    refine ok_cut (fun E S' => S' = S3 ∧ Hid (∃ x, E = [some d, some (.str t), some (.str F), none, some (.str body), some (.bl neg), x, none, none])) ?_ ?_
    · clear tf ts tw tz
      rcases h with ⟨bb, w, f, _, rfl, rfl⟩ | ⟨m, c, a, f, s, h0, _, h2, h3, h4, h5, rfl, rfl⟩
      · unfold numQ figT at hF
        subst hF
        unfold numQ
        walk_at "auto*"
        exact hid ⟨_, rfl⟩
      · unfold edQ figT fgT at hF
        simp only at hF
        unfold edQ
        clear h0 h2 h3 h4 h5
        have fl := fgT_len m body
        have zl := zip_len (m := m) (b := body) (by omega)
        rw [← fix_repl] at hF
        walk_at "auto*"
        refine ok_comp (fun p => isM p.1) (fun p => .str [p.2]) zl (fun p hp acc => ?_) ?_
        · walk_at "go"
          unfold isM
          walk_at "auto*"
          all_goals first | rfl | (simp_all; done) | trace_state
        have em : ((m.zip body).filter fun p => isM p.1).map (fun p => D.str [p.2]) = ((((m.zip body).filter fun p => isM p.1).map (·.2)).map fun c => [c]).map D.str := by
          rw [List.map_map, List.map_map]; rfl
        rw [em]
        generalize ((m.zip body).filter fun p => isM p.1).map (·.2) = F2 at *
        have jo : joinOk [] (F2.map fun c => [c]) := by
          apply joinOk_le
          rw [sum_ones]
          simp only [List.length_nil]
          omega
        have jl := joinL_chars F2
        have r1 : replOk F2 [48] := by
          unfold replOk
          simp only [List.length_cons, List.length_nil]
          omega
        have r2 : replOk (StrLaws.replL [32] [48] F2) [48] := by
          unfold replOk
          rw [replL_one]
          simp only [List.length_cons, List.length_nil, List.length_map]
          omega
        clear em zl
        walk_at "auto*"
        rw [hF]
        exact hid ⟨_, rfl⟩
    rintro _ S4 ⟨rfl, x, rfl⟩
    by_cases c2 : fgB F = true
    · rw [if_pos c2]
      have dg := fig_dig c2 (by omega)
      rw [c2] at tf
      clear tz th hL
      refine ok_cut (fun E S' => S' = S4 ∧ E = [some d, some (.str t), some (.str F), none, some (.str body), some (.bl neg), x, none, none]) ?_ ?_
      · walk_at "auto*"
      rintro _ S5 ⟨rfl, rfl⟩
      refine ok_cut (fun E S' => S' = S5 ∧ E = [some d, some (.str t), some (.str F), some (.int (uOf F neg)), some (.str body), some (.bl neg), x, none, none]) ?_ ?_
      · unfold uOf
        clear tf ts tw hsu
        cases neg <;> walk_at "auto*"
        all_goals first | rfl | (simp_all; done) | trace_state
      rintro _ S6 ⟨rfl, rfl⟩
      generalize uOf F neg = u at *
      clear tf dg
      cases hs : suitB u n sg with
      | false =>
        rw [hs] at ts
        rw [if_neg (by simp)]
        clear tw
        walk_at "auto*"
        all_goals first | rfl | (simp_all; done) | trace_state
      | true =>
        have tw := tw (hsu hs)
        rw [hs] at ts tw
        simp only [if_true] at tw
        generalize wrB d u n = Z at *
        clear hsu h
        by_cases hz : Z = t
        · rw [if_pos ⟨rfl, hz⟩]
          subst hz
          walk_at "auto*"
          all_goals first | rfl | (simp_all; done) | trace_state
        · rw [if_neg (by simp [hz])]
          walk_at "auto*"
          all_goals first | rfl | (simp_all; done) | trace_state
    · rw [if_neg c2]
      have c2 : fgB F = false := by simpa using c2
      rw [c2] at tf
      clear ts tw tz th
      walk_at "auto*"
      all_goals first | rfl | (simp_all; done) | trace_state
  · rw [if_neg c1]
    have c1' : ¬ (t.length : Int) = (szP d : Int) := by omega
    clear tf ts tw th
    walk_at "auto*"
    all_goals first | rfl | (simp_all; done) | trace_state
/-! what was written is read back -/
theorem wrB_num {b : Bool} {w f : Nat} {u : Int} {n : Nat} : wrB (numQ b w f) u n = if b then (if u < 0 then 45 else 43) :: fgs u n else fgs u n := rfl
theorem wrB_ed {m s : Tx} {a f : Nat} {u : Int} {n : Nat} : wrB (edQ m a f s) u n = sgW (bodyS (m.headD 0) m (fgs u n)).2.2 s (decide (u < 0)) := rfl
theorem suit_nat {u : Int} {n : Nat} {sg : Bool} (h : suitB u n sg = true) : u.natAbs < 10 ^ n ∧ (u < 0 → sg = true) := by
  unfold suitB at h
  simp only [Bool.and_eq_true, decide_eq_true_eq, Bool.or_eq_true] at h
  refine ⟨?_, fun q => ?_⟩
  · have := h.1
    have e : ((10 ^ n : Nat) : Int) = (10 : Int) ^ n := Int.natCast_pow 10 n
    omega
  · rcases h.2 with q2 | q2
    · omega
    · exact q2
theorem hal_sg {b : Tx} {s : Tx} {neg sg : Bool} (hs : s ∈ SGNS) (hg : sg = !decide (s = [])) (hn : neg = true → sg = true) : halT s sg (sgW b s neg) = (b, neg) := by
  subst hg
  simp only [SGNS, List.mem_cons, List.not_mem_nil, or_false] at hs
  have e2 : ∀ x y : Nat, (b ++ [x, y]).take ((b ++ [x, y]).length - 2) = b ∧ (b ++ [x, y]).drop ((b ++ [x, y]).length - 2) = [x, y] := fun x y => by
    have : (b ++ [x, y]).length - 2 = b.length := by simp
    rw [this]
    exact ⟨by simp, by simp⟩
  have e1 : ∀ x : Nat, (b ++ [x]).take ((b ++ [x]).length - 1) = b ∧ (b ++ [x]).drop ((b ++ [x]).length - 1) = [x] := fun x => by
    have : (b ++ [x]).length - 1 = b.length := by simp
    rw [this]
    exact ⟨by simp, by simp⟩
  rcases hs with rfl | rfl | rfl | rfl | rfl | rfl | rfl | rfl
  · cases neg
    · rfl
    · exact absurd (hn rfl) (by simp)
  · cases neg <;> rfl
  · cases neg <;> rfl
  · cases neg
    · show ((b ++ [32]).take ((b ++ [32]).length - 1), decide ((b ++ [32]).drop ((b ++ [32]).length - 1) = [45])) = _
      rw [(e1 32).1, (e1 32).2]; rfl
    · show ((b ++ [45]).take ((b ++ [45]).length - 1), decide ((b ++ [45]).drop ((b ++ [45]).length - 1) = [45])) = _
      rw [(e1 45).1, (e1 45).2]; rfl
  · cases neg
    · show ((b ++ [43]).take ((b ++ [43]).length - 1), decide ((b ++ [43]).drop ((b ++ [43]).length - 1) = [45])) = _
      rw [(e1 43).1, (e1 43).2]; rfl
    · show ((b ++ [45]).take ((b ++ [45]).length - 1), decide ((b ++ [45]).drop ((b ++ [45]).length - 1) = [45])) = _
      rw [(e1 45).1, (e1 45).2]; rfl
  · cases neg
    · show ((b ++ [32, 32]).take ((b ++ [32, 32]).length - 2), decide ((b ++ [32, 32]).drop ((b ++ [32, 32]).length - 2) = [67, 82])) = _
      rw [(e2 32 32).1, (e2 32 32).2]; rfl
    · show ((b ++ [67, 82]).take ((b ++ [67, 82]).length - 2), decide ((b ++ [67, 82]).drop ((b ++ [67, 82]).length - 2) = [67, 82])) = _
      rw [(e2 67 82).1, (e2 67 82).2]; rfl
  · cases neg
    · show ((b ++ [32, 32]).take ((b ++ [32, 32]).length - 2), decide ((b ++ [32, 32]).drop ((b ++ [32, 32]).length - 2) = [68, 66])) = _
      rw [(e2 32 32).1, (e2 32 32).2]; rfl
    · show ((b ++ [68, 66]).take ((b ++ [68, 66]).length - 2), decide ((b ++ [68, 66]).drop ((b ++ [68, 66]).length - 2) = [68, 66])) = _
      rw [(e2 68 66).1, (e2 68 66).2]; rfl
  · cases neg
    · rfl
    · exact absurd (hn rfl) (by simp)
theorem sgW_len {b s : Tx} {neg : Bool} (hs : s ∈ SGNS) : (sgW b s neg).length = b.length + sgl s := by
  simp only [SGNS, List.mem_cons, List.not_mem_nil, or_false] at hs
  rcases hs with rfl | rfl | rfl | rfl | rfl | rfl | rfl | rfl <;> cases neg <;> simp [sgW, sgl]
theorem fgB_of {f : Tx} (h : ∀ c ∈ f, 48 ≤ c ∧ c ≤ 57) (h0 : f ≠ []) : fgB f = true := by
  unfold fgB
  simp only [Bool.and_eq_true, Bool.not_eq_true', decide_eq_false_iff_not, List.all_eq_true, decide_eq_true_eq]
  refine ⟨h0, fun c hc => ?_⟩
  have := h c hc
  have : c = 48 ∨ c = 49 ∨ c = 50 ∨ c = 51 ∨ c = 52 ∨ c = 53 ∨ c = 54 ∨ c = 55 ∨ c = 56 ∨ c = 57 := by omega
  rcases this with rfl | rfl | rfl | rfl | rfl | rfl | rfl | rfl | rfl | rfl <;> decide
/-- the parts of a written text -/
theorem wr_parts {d : D} {n : Nat} {sg : Bool} (h : BfL d n sg) (h1 : 1 ≤ n) {u : Int} (hs : suitB u n sg = true) :
    (wrB d u n).length = szP d ∧ (halT (sgE d) sg (wrB d u n)).2 = decide (u < 0) ∧ figT d (halT (sgE d) sg (wrB d u n)).1 = fgs u n := by
  obtain ⟨hu, hn⟩ := suit_nat hs
  have fl : (fgs u n).length = n := fgs_len (by omega) hu
  rcases h with ⟨b, w, f, hw, rfl, rfl⟩ | ⟨m, c, a, f, s, h0, h1, h2, h3, h4, h5, h6, rfl⟩
  · rw [wrB_num]
    unfold szP numQ sgE figT halT
    cases sg with
    | false =>
      have : ¬ u < 0 := fun q => by have := hn q; cases this
      simp [this, fl]
      omega
    | true =>
      by_cases q : u < 0
      · simp [q, fl]; omega
      · simp [q, fl]; omega
  · have hc : m.headD 0 = c := by
      cases m with
      | nil => simp at h0
      | cons x r => simp at h0; simpa using h0
    rw [wrB_ed, hc]
    have hb := bodyS_len c m (fgs u n)
    have hf := bodyS_fg (c := c) h3 (by omega) (fgs_dig u n)
    have hh := hal_sg (b := (bodyS c m (fgs u n)).2.2) (neg := decide (u < 0)) h5 h6 (fun q => hn (by simpa using q))
    refine ⟨?_, ?_, ?_⟩
    · rw [sgW_len h5, hb]; rfl
    · show (halT s sg _).2 = _
      rw [hh]
    · show fgT m (halT s sg _).1 = _
      rw [hh]
      exact hf
theorem u_of {u : Int} {n : Nat} : uOf (fgs u n) (decide (u < 0)) = u := by
  unfold uOf
  rw [fgs_val]
  by_cases q : u < 0
  · simp [q]; omega
  · simp [q]; omega
/-- what was written is read back -/
theorem rd_wr {d : D} {n : Nat} {sg : Bool} (h : BfL d n sg) (h1 : 1 ≤ n) {u : Int} (hs : suitB u n sg = true) : rdP d n sg (wrB d u n) = some u := by
  obtain ⟨e1, e2, e3⟩ := wr_parts h h1 hs
  have fl : (fgs u n).length = n := fgs_len (by omega) (suit_nat hs).1
  unfold rdP
  rw [if_pos e1, e3, e2, if_pos (fgB_of (fgs_dig u n) (fun z => by rw [z] at fl; simp at fl; omega)), u_of, if_pos ⟨hs, rfl⟩]
theorem rd_some {d : D} {n : Nat} {sg : Bool} {t : Tx} {u : Int} (h : rdP d n sg t = some u) : suitB u n sg = true ∧ wrB d u n = t ∧ t.length = szP d := by
  unfold rdP at h
  split at h
  · rename_i hl
    split at h
    · split at h
      · rename_i q
        cases h
        exact ⟨q.1, q.2, hl⟩
      · cases h
    · cases h
  · cases h
theorem rd_none {d : D} {n : Nat} {sg : Bool} (h : BfL d n sg) (h1 : 1 ≤ n) {t : Tx} (hn : rdP d n sg t = none) {u : Int} (hs : suitB u n sg = true) : ¬ wrB d u n = t := by
  intro e
  rw [← e, rd_wr h h1 hs] at hn
  cases hn
theorem rd_inj {d : D} {n : Nat} {sg : Bool} (h : BfL d n sg) (h1 : 1 ≤ n) {t : Tx} {u v : Int} (hr : rdP d n sg t = some u) (hs : suitB v n sg = true) : wrB d v n = t ↔ v = u := by
  constructor
  · intro e
    rw [← e, rd_wr h h1 hs] at hr
    exact Option.some.inj hr
  · rintro rfl
    exact (rd_some hr).2.1
/-! written texts can be printed -/
theorem pr_of {c : Nat} (h : 32 ≤ c ∧ c ≤ 126 ∧ c ≠ 37) : c ∈ PR := by
  have := pr_iff c
  rw [decide_eq_true (show 32 ≤ c by omega), decide_eq_true (show c ≤ 126 by omega), decide_eq_false h.2.2] at this
  simpa using this
theorem body_pr (fl : Nat) (fg : Tx) (hfl : fl = 42 ∨ fl = 32) (hd : ∀ c ∈ fg, 48 ≤ c ∧ c ≤ 57) : ∀ (m : Tx) (h : Bool) (k : Nat) (acc : Tx), (∀ x ∈ m, x ∈ MK) → k + digs m ≤ fg.length → (∀ c ∈ acc, c ∈ PR) →
    ∀ c ∈ (m.foldl (stB fl fg) (h, k, acc)).2.2, c ∈ PR
  | [], h, k, acc, _, _, ha => ha
  | c :: m, h, k, acc, hm, hk, ha => by
    have hc := hm c (by simp)
    have hm2 : ∀ x ∈ m, x ∈ MK := fun x hx => hm x (by simp [hx])
    have hF : fl ∈ PR := by rcases hfl with rfl | rfl <;> exact pr_of (by omega)
    rw [digs_cons] at hk
    rw [List.foldl_cons]
    have go : ∀ (h' : Bool) (k' : Nat) (y : Nat), stB fl fg (h, k, acc) c = (h', k', acc ++ [y]) → k' + digs m ≤ fg.length → y ∈ PR → ∀ c' ∈ (m.foldl (stB fl fg) (stB fl fg (h, k, acc) c)).2.2, c' ∈ PR := by
      intro h' k' y e hk' hy
      rw [e]
      refine body_pr fl fg hfl hd m h' k' (acc ++ [y]) hm2 hk' fun c hc => ?_
      rcases List.mem_append.mp hc with q | q
      · exact ha c q
      · rw [List.mem_singleton.mp q]; exact hy
    simp only [MK, List.mem_cons, List.not_mem_nil, or_false] at hc
    have dig : isM c = true → c = 122 ∨ c = 42 ∨ c = 57 → ∀ c' ∈ (m.foldl (stB fl fg) (stB fl fg (h, k, acc) c)).2.2, c' ∈ PR := by
      intro q hx
      rw [q, if_pos rfl] at hk
      have hkl : k < fg.length := by omega
      obtain ⟨h', y, st, e1, e2⟩ := st_dig fl fg h k acc hx (List.getElem?_eq_getElem hkl)
      have hb := hd _ (List.getElem_mem hkl)
      refine go h' (k + 1) y st (by omega) ?_
      rw [e2]
      split
      · exact hF
      · exact pr_of (by omega)
    have tx : isM c = false → c = 44 ∨ c = 98 ∨ c = 48 ∨ c = 47 → ∀ c' ∈ (m.foldl (stB fl fg) (stB fl fg (h, k, acc) c)).2.2, c' ∈ PR := by
      intro q hx
      rw [q] at hk
      obtain ⟨y, st, e⟩ := st_tx fl fg h k acc hx
      refine go h k y st (by simpa using hk) ?_
      rw [e]
      split
      · exact hF
      · split
        · exact pr_of (by omega)
        · exact pr_of (by omega)
    rcases hc with rfl | rfl | rfl | rfl | rfl | rfl | rfl | rfl
    · exact dig rfl (by decide)
    · exact dig rfl (by decide)
    · exact dig rfl (by decide)
    · exact go false k 46 rfl (by have : isM 46 = false := rfl; rw [this] at hk; simpa using hk) (pr_of (by omega))
    · exact tx rfl (by decide)
    · exact tx rfl (by decide)
    · exact tx rfl (by decide)
    · exact tx rfl (by decide)
theorem sgW_pr {b s : Tx} {neg : Bool} (hs : s ∈ SGNS) (hb : ∀ c ∈ b, c ∈ PR) : ∀ c ∈ sgW b s neg, c ∈ PR := by
  simp only [SGNS, List.mem_cons, List.not_mem_nil, or_false] at hs
  have k1 : (45 ∈ PR ∧ 43 ∈ PR ∧ 32 ∈ PR ∧ 67 ∈ PR ∧ 82 ∈ PR ∧ 68 ∈ PR ∧ 66 ∈ PR) := by decide
  rcases hs with rfl | rfl | rfl | rfl | rfl | rfl | rfl | rfl <;> cases neg
  all_goals
    intro c hc
    by_cases hcb : c ∈ b
    · exact hb c hcb
    · simp [sgW, upT, hcb] at hc <;> first | (subst hc; decide) | (rcases hc with rfl | rfl <;> decide)
theorem wr_pr {d : D} {n : Nat} {sg : Bool} (h : BfL d n sg) (h1 : 1 ≤ n) {u : Int} (hs : suitB u n sg = true) : ((wrB d u n).all fun c => decide (c ∈ PR)) = true := by
  rw [List.all_eq_true]
  intro c hc
  rw [decide_eq_true_eq]
  have fd := fgs_dig u n
  have fp : ∀ c ∈ fgs u n, c ∈ PR := fun c hc => pr_of (by have := fd c hc; omega)
  have fl : (fgs u n).length = n := fgs_len (by omega) (suit_nat hs).1
  rcases h with ⟨b, w, f, hw, rfl, rfl⟩ | ⟨m, c0, a, f, s, h0, h1, h2, h3, h4, h5, h6, rfl⟩
  · rw [wrB_num] at hc
    have k1 : (45 ∈ PR ∧ 43 ∈ PR) := by decide
    split at hc
    · rcases List.mem_cons.mp hc with q | q
      · rw [q]; split
        · exact k1.1
        · exact k1.2
      · exact fp c q
    · exact fp c hc
  · rw [wrB_ed] at hc
    refine sgW_pr h5 (fun c hc => ?_) c hc
    exact body_pr (flr (m.headD 0)) (fgs u n) (flr_or _) fd m _ 0 [] h3 (by omega) (by simp) c hc
def PicN (d : D) : Prop := (∃ b w f, w ≤ 4 ∧ f ≤ 2 ∧ 1 ≤ w + f ∧ d = numQ b w f) ∨
  (∃ b, b ∈ BASES ∧ ∃ f s, f ≤ 3 ∧ s ∈ SGNS ∧ d = edQ (mkB b f) (digs (mkB b f) - f) f s ∧ (s = [] → ¬ mkB b f ∈ [[57], [57, 57]]))
theorem base_mk : ∀ b ∈ BASES, ∀ x ∈ b, x ∈ MK := by decide
theorem bf_of {d : D} (h : PicN d) : ∃ n sg, 1 ≤ n ∧ n ≤ 12 ∧ BfL d n sg := by
  rcases h with ⟨b, w, f, h1, h2, h3, rfl⟩ | ⟨b, hb, f, s, hf, hs, rfl, h2⟩
  · exact ⟨w + f, b, by omega, by omega, .inl ⟨b, w, f, rfl, rfl, rfl⟩⟩
  · have hl := base_facts b hb
    have hm : (mkB b f).length ≤ 12 := by
      unfold mkB
      split
      · omega
      · simp; omega
    have hd : digs (mkB b f) ≤ 12 := by
      unfold digs
      have := List.length_filter_le (fun c => decide (c ∈ [122, 42, 57])) (mkB b f)
      omega
    have h1 : 1 ≤ digs b := (show ∀ b ∈ BASES, 1 ≤ digs b by decide) b hb
    have hdf : f + 1 ≤ digs (mkB b f) := by
      unfold mkB
      split
      · omega
      · unfold digs at *
        have e : (List.replicate f 57).filter (fun c => decide (c ∈ [122, 42, 57])) = List.replicate f 57 := by
          rw [List.filter_eq_self]
          intro c hc
          rw [List.eq_of_mem_replicate hc]; decide
        rw [List.filter_append, List.filter_cons, if_neg (by decide), e, List.length_append, List.length_replicate]
        omega
    refine ⟨digs (mkB b f), !decide (s = []), by omega, hd, .inr ⟨mkB b f, b.headD 0, digs (mkB b f) - f, f, s, ?_, by omega, by omega, ?_, by omega, hs, rfl, rfl⟩⟩
    · have : ∃ c r, b = c :: r := by
        cases b with
        | nil => simp at hl
        | cons c r => exact ⟨c, r, rfl⟩
      obtain ⟨c, r, rfl⟩ := this
      unfold mkB
      split <;> rfl
    · have q := base_mk b hb
      unfold mkB
      intro x hx
      split at hx
      · exact q x hx
      · rcases List.mem_append.mp hx with h | h
        · exact q x h
        · rcases List.mem_cons.mp h with h | h
          · rw [h]; decide
          · rw [List.eq_of_mem_replicate h]; decide
/-! holds, value_of, and what the law knows -/
def frP (d : D) : Nat := match d with
  | .tup [_, _, _, .int f] => f.toNat
  | .tup [_, _, _, .int f, _] => f.toNat
  | _ => 0
theorem t_digits2 {k : Nat} (hk : 1 ≤ k) {d : D} {n : Nat} {sg : Bool} (h : BfL d n sg) : ∃ a : Nat, a + frP d = n ∧ ∀ S, (T k).digits_in [d] S = .ok (.tup [.int a, .int (frP d)]) S := by
  obtain ⟨k, rfl⟩ := Nat.exists_eq_add_of_le' hk
  rw [T_digits_in]
  rcases h with ⟨b, w, f, hn, rfl, rfl⟩ | ⟨m, c, a, f, s, _, _, _, _, hn, _, rfl, rfl⟩
  · refine ⟨w, by show w + (f : Int).toNat = n; omega, fun S => ?_⟩
    apply ok_out
    unfold b_digits_in numQ frP
    walk_at "auto*"
    all_goals (try simp_all)
  · refine ⟨a, by show a + (f : Int).toNat = n; omega, fun S => ?_⟩
    apply ok_out
    unfold b_digits_in edQ frP
    walk_at "auto*"
    all_goals (try simp_all)
def prB (t : Tx) : Bool := t.all fun c => decide (c ∈ PR)
theorem t_holds {k : Nat} (hk : 6 ≤ k) {d : D} {n : Nat} {sg : Bool} (h : BfL d n sg) (h1 : 1 ≤ n) (hn : n ≤ 18) (t : Tx) (ht : t.length ≤ 500) (S : Sto) :
    (T k).holds [d, .str t] S = .ok (.bl (rdP d n sg t).isSome) S := by
  obtain ⟨k, rfl⟩ := Nat.exists_eq_add_of_le' hk
  have tz := t_size_of (k := k + 5) (by omega) h
  have tr := t_reading (k := k + 5) (by omega) h h1 hn t ht
  have tp := t_is_printable (k := k + 5) (by omega) t
  rw [T_holds]
  apply ok_out
  unfold b_holds
  cases hr : rdP d n sg t with
  | none =>
    rw [hr] at tr
    replace tr : ∀ S, (T (k + 5)).reading [d, .str t] S = .ok .non S := tr
    generalize (t.all fun c => decide (c ∈ PR)) = pb at *
    generalize szP d = z at *
    rcases h with ⟨b, w, f, _, rfl, rfl⟩ | ⟨m, c, a, f, s, h0, _, h2, h3, h4, h5, rfl, rfl⟩
    · unfold numQ at *
      cases pb <;> walk_at "auto*"
      all_goals first | rfl | (simp_all; done) | trace_state
    · unfold edQ at *
      clear h0 h2 h3 h4 h5
      cases pb <;> walk_at "auto*"
      all_goals first | rfl | (simp_all; done) | trace_state
  | some u =>
    rw [hr] at tr
    replace tr : ∀ S, (T (k + 5)).reading [d, .str t] S = .ok (.int u) S := tr
    obtain ⟨e1, e2, e3⟩ := rd_some hr
    have hp := wr_pr h h1 e1
    rw [e2] at hp
    rw [hp] at tp
    have e3 : (t.length : Int) = (szP d : Int) := by omega
    clear hr hp e2 e1
    generalize szP d = z at *
    rcases h with ⟨b, w, f, _, rfl, rfl⟩ | ⟨m, c, a, f, s, h0, _, h2, h3, h4, h5, rfl, rfl⟩
    · unfold numQ at *
      walk_at "auto*"
      all_goals first | rfl | (simp_all; done) | trace_state
    · unfold edQ at *
      clear h0 h2 h3 h4 h5
      walk_at "auto*"
      all_goals first | rfl | (simp_all; done) | trace_state
theorem t_holdsT {k : Nat} (hk : 2 ≤ k) (n : Nat) (t : Tx) (ht : t.length ≤ 500) (S : Sto) : (T k).holds [textP n, .str t] S = .ok (.bl ((t.all fun c => decide (c ∈ PR)) && decide (t.length = n))) S := by
  obtain ⟨k, rfl⟩ := Nat.exists_eq_add_of_le' hk
  have tp := t_is_printable (k := k + 1) (by omega) t
  have tz : ∀ S, (T (k + 1)).size_of [textP n] S = .ok (.int n) S := fun S => by
    rw [T_size_of]
    apply ok_out
    unfold b_size_of textP
    walk_at "auto*"
  rw [T_holds]
  apply ok_out
  unfold b_holds
  unfold textP at *
  generalize (t.all fun c => decide (c ∈ PR)) = pb at *
  by_cases hl : t.length = n
  · have hl' : (t.length : Int) = (n : Int) := by omega
    cases pb <;> walk_at "auto*"
    all_goals first | rfl | (simp_all; done) | trace_state
  · have hl' : ¬ (t.length : Int) = (n : Int) := by omega
    cases pb <;> walk_at "auto*"
    all_goals first | rfl | (simp_all; done) | trace_state
theorem t_value_of {k : Nat} (hk : 6 ≤ k) {d : D} {n : Nat} {sg : Bool} (h : BfL d n sg) (h1 : 1 ≤ n) (hn : n ≤ 18) (t : Tx) (ht : t.length ≤ 500) (S : Sto) :
    (T k).value_of [d, .str t] S = match rdP d n sg t with
      | none => .ex ⟨.own "BadPicture", none⟩ S
      | some u => .ok (dec (nrm (frP d) u)) S := by
  obtain ⟨k, rfl⟩ := Nat.exists_eq_add_of_le' hk
  have tr := t_reading (k := k + 5) (by omega) h h1 hn t ht
  obtain ⟨a, ha, td⟩ := t_digits2 (k := k + 5) (by omega) h
  have tn := t_normal (k := k + 5) (by omega) (frP d)
  rw [T_value_of]
  apply ok_out
  unfold b_value_of
  cases hr : rdP d n sg t with
  | none =>
    rw [hr] at tr
    replace tr : ∀ S, (T (k + 5)).reading [d, .str t] S = .ok .non S := tr
    clear hr
    walk_at "auto*"
  | some u =>
    rw [hr] at tr
    replace tr : ∀ S, (T (k + 5)).reading [d, .str t] S = .ok (.int u) S := tr
    replace tn := tn u
    clear hr
    generalize hN : dec (nrm (frP d) u) = N at *
    walk_at "auto*"
    all_goals (subst hN; rfl)
/-! the law -/
theorem t_lunits {k : Nat} (hk : 1 ≤ k) {d : D} {n : Nat} {sg : Bool} (h : BfL d n sg) (hn : n ≤ 12) (r : Int) (S : Sto) : OkO ((T k)._law_units [d, .int r] S) (fun x S' => S' = S ∧ Hid (∃ u : Int, x = .int u ∧ (u.natAbs : Int) < 10 ^ n ∧ (u < 0 → sg = true))) (fun _ _ => False) := by
  obtain ⟨k, rfl⟩ := Nat.exists_eq_add_of_le' hk
  rw [T__law_units]
  have hL := lim_b hn
  unfold b__law_units q__law_units_1
  rcases h with ⟨bb, w, f, hn2, rfl, rfl⟩ | ⟨m, c, a2, f, s, g0, g1, g2, g3, g4, g5, rfl, rfl⟩
  · have eab : (w : Int) + (f : Int) = (n : Int) := by omega
    unfold numQ
    clear hn2
    walk_at "auto*"
    refine ok_forR (fun i E S' => Hid (S' = S ∧ ∃ a c e, E = [some (.tup [.str [110, 117, 109, 98, 101, 114], .bl sg, .int w, .int f]), some (.int r), some (.int (10 ^ i)), a, c, e])) ?_ ?_ ?_
    · exact hid ⟨rfl, _, _, _, rfl⟩
    · rintro i _ S hi ⟨rfl, a, c, e, rfl⟩
      unfold l__law_units_1
      have hp : (10 : Int) ^ (i + 1) = 10 ^ i * 10 := Int.pow_succ ..
      rw [hp]
      generalize (10 : Int) ^ i = P at *
      walk_at "auto*"
      exact hid ⟨rfl, _, _, _, rfl⟩
    · rintro _ S ⟨rfl, a, c, e, rfl⟩
      generalize (10 : Int) ^ n = L at *
      have m1 := Int.emod_nonneg r (show L ≠ 0 by omega)
      have m2 := Int.emod_lt_of_pos r (show 0 < L by omega)
      have m3 := Int.emod_nonneg (r % 100) (show L ≠ 0 by omega)
      have m4 := Int.emod_lt_of_pos (r % 100) (show 0 < L by omega)
      walk_at "auto*"
      all_goals (refine hid ⟨_, rfl, by omega, ?_⟩; first | exact fun _ => by assumption | exact fun q => by omega | (intro q; simp_all; done) | (intro q; omega))
  · have eab : (a2 : Int) + (f : Int) = (n : Int) := by omega
    unfold edQ
    clear g0 g1 g2 g3 g4 g5
    walk_at "auto*"
    refine ok_forR (fun i E S' => Hid (S' = S ∧ ∃ a c e, E = [some (.tup [.str [101, 100, 105, 116, 101, 100], .str m, .int a2, .int f, .str s]), some (.int r), some (.int (10 ^ i)), a, c, e])) ?_ ?_ ?_
    · exact hid ⟨rfl, _, _, _, rfl⟩
    · rintro i _ S hi ⟨rfl, a, c, e, rfl⟩
      unfold l__law_units_1
      have hp : (10 : Int) ^ (i + 1) = 10 ^ i * 10 := Int.pow_succ ..
      rw [hp]
      generalize (10 : Int) ^ i = P at *
      walk_at "auto*"
      exact hid ⟨rfl, _, _, _, rfl⟩
    · rintro _ S ⟨rfl, a, c, e, rfl⟩
      generalize (10 : Int) ^ n = L at *
      have m1 := Int.emod_nonneg r (show L ≠ 0 by omega)
      have m2 := Int.emod_lt_of_pos r (show 0 < L by omega)
      have m3 := Int.emod_nonneg (r % 100) (show L ≠ 0 by omega)
      have m4 := Int.emod_lt_of_pos (r % 100) (show 0 < L by omega)
      walk_at "auto*"
      all_goals (refine hid ⟨_, rfl, by omega, ?_⟩; first | exact fun _ => by assumption | exact fun q => by omega | (intro q; simp_all; done) | (intro q; omega))
theorem t_lbody {k : Nat} (hk : 1 ≤ k) (c : Nat) (m fg : Tx) (h0 : m[0]? = some c) (hm : m.length ≤ 100) (hf : digs m ≤ fg.length) (hfl : fg.length ≤ 100) (hc : ∀ x ∈ m, x ∈ MK) (S : Sto) :
    (T k)._law_body [.str m, .str fg] S = .ok (.str (bodyS c m fg).2.2) S := by
  obtain ⟨k, rfl⟩ := Nat.exists_eq_add_of_le' hk
  rw [T__law_body]
  apply ok_out
  refine w_trim ?_
  unfold b__law_body q__law_body_1
  have hl := bodyS_len c m fg
  walk_at "run"
  refine ok_cut (fun E S' => S' = S ∧ E = [some (.str m), some (.str fg), some (.bl (!decide (c = 57))), none, none, none, none]) ?_ ?_
  · walk_at "auto*"
    all_goals simp [*]
  rintro _ S1 ⟨rfl, rfl⟩
  refine ok_cut (fun E S' => S' = S1 ∧ E = [some (.str m), some (.str fg), some (.bl (!decide (c = 57))), some (.str [flr c]), none, none, none]) ?_ ?_
  · unfold flr
    walk_at "auto*"
    all_goals simp [*]
  rintro _ S ⟨rfl, rfl⟩
  walk_at "go"
  refine ok_forT (fun i E S' => (∃ T, S' = S ++ T) ∧ ∃ f, E = [some (.str m), some (.str fg), some (.bl (bodyS c (m.take i) fg).1), some (.str [flr c]), some (.str (bodyS c (m.take i) fg).2.2), some (.int (bodyS c (m.take i) fg).2.1), f]) ?_ ?_ ?_
  · exact ⟨⟨[], by simp⟩, _, rfl⟩
  · rintro i x _ Z e ⟨hZ, f, rfl⟩
    have hZ1 : ∀ W, ∃ T', Z ++ W = S ++ T' := fun W => by obtain ⟨T, rfl⟩ := hZ; exact ⟨T ++ W, by simp⟩
    have hZ := hid hZ
    have hZ1 := hid hZ1
    have h1 := bodyS_at hc (c := c) (fg := fg) i
    have h2 := digs_take e
    have h3 := bodyS_len c (m.take i) fg
    have h4 : (m.take i).length ≤ 100 := by rw [List.length_take]; omega
    rw [bodyS_take e]
    have hx := hc x (List.mem_of_getElem? e)
    generalize bodyS c (m.take i) fg = s at *
    obtain ⟨h, n, acc⟩ := s
    simp only at h1 h3 ⊢
    clear hc e hl h0 hm
    simp only [MK, List.mem_cons, List.not_mem_nil, or_false] at hx
    unfold l__law_body_1
    have hg : ∀ b, b ∈ [122, 42, 57] → (b = x) → ∃ g, fg[n]? = some g := fun b hb e => by
      have : n < fg.length := by
        have h2' := h2.1
        rw [if_pos (by rw [← e]; exact hb)] at h2'
        omega
      exact ⟨_, List.getElem?_eq_getElem this⟩
    have hz : acc.length ≤ 100 := by omega
    have hn : n ≤ 1000000 := by
      have := h2.2
      have := h2.1
      omega
    clear h1 h2 h3 h4
    rcases hx with rfl | rfl | rfl | rfl | rfl | rfl | rfl | rfl
    · obtain ⟨g, hg⟩ := hg 122 (by decide) rfl
      obtain ⟨h', y, st, e1, e2⟩ := st_dig (flr c) fg h n acc (x := 122) (by decide) hg
      rw [st]
      clear st
      have q1 : ¬ 122 ∈ [44, 98, 48, 47] := by decide
      walk_at "auto*"
      all_goals first | exact hZ | exact hZ1 _ | (simp_all; done)
    · obtain ⟨g, hg⟩ := hg 42 (by decide) rfl
      obtain ⟨h', y, st, e1, e2⟩ := st_dig (flr c) fg h n acc (x := 42) (by decide) hg
      rw [st]
      clear st
      have q1 : ¬ 42 ∈ [44, 98, 48, 47] := by decide
      walk_at "auto*"
      all_goals first | exact hZ | exact hZ1 _ | (simp_all; done)
    · obtain ⟨g, hg⟩ := hg 57 (by decide) rfl
      obtain ⟨h', y, st, e1, e2⟩ := st_dig (flr c) fg h n acc (x := 57) (by decide) hg
      rw [st]
      clear st
      have q1 : ¬ 57 ∈ [44, 98, 48, 47] := by decide
      walk_at "auto*"
      all_goals first | exact hZ | exact hZ1 _ | (simp_all; done)
    · rw [st_dot]
      have q1 : ¬ 46 ∈ [44, 98, 48, 47] := by decide
      walk_at "auto*"
      all_goals first | exact hZ | exact hZ1 _ | (simp_all; done)
    · obtain ⟨y, st, e1⟩ := st_tx (flr c) fg h n acc (x := 44) (by decide)
      rw [st]
      clear st
      have q1 : 44 ∈ [44, 98, 48, 47] := by decide
      have q2 : (valD (putD [] (Sum.inr ⟨#[98]⟩) (D.str [32])) (Sum.inr ⟨#[44]⟩)).getD (D.str [44]) = D.str [44] := rfl
      walk_at "auto*"
      all_goals first | exact hZ | exact hZ1 _ | (simp_all; done)
    · obtain ⟨y, st, e1⟩ := st_tx (flr c) fg h n acc (x := 98) (by decide)
      rw [st]
      clear st
      have q1 : 98 ∈ [44, 98, 48, 47] := by decide
      have q2 : (valD (putD [] (Sum.inr ⟨#[98]⟩) (D.str [32])) (Sum.inr ⟨#[98]⟩)).getD (D.str [98]) = D.str [32] := rfl
      walk_at "auto*"
      all_goals first | exact hZ | exact hZ1 _ | (simp_all; done)
    · obtain ⟨y, st, e1⟩ := st_tx (flr c) fg h n acc (x := 48) (by decide)
      rw [st]
      clear st
      have q1 : 48 ∈ [44, 98, 48, 47] := by decide
      have q2 : (valD (putD [] (Sum.inr ⟨#[98]⟩) (D.str [32])) (Sum.inr ⟨#[48]⟩)).getD (D.str [48]) = D.str [48] := rfl
      walk_at "auto*"
      all_goals first | exact hZ | exact hZ1 _ | (simp_all; done)
    · obtain ⟨y, st, e1⟩ := st_tx (flr c) fg h n acc (x := 47) (by decide)
      rw [st]
      clear st
      have q1 : 47 ∈ [44, 98, 48, 47] := by decide
      have q2 : (valD (putD [] (Sum.inr ⟨#[98]⟩) (D.str [32])) (Sum.inr ⟨#[47]⟩)).getD (D.str [47]) = D.str [47] := rfl
      walk_at "auto*"
      all_goals first | exact hZ | exact hZ1 _ | (simp_all; done)
  · rintro _ S1 ⟨⟨T, rfl⟩, f, rfl⟩
    rw [List.take_length]
    walk_at "auto*"
    exact ⟨_, rfl, rfl⟩
theorem t_lfigures {k : Nat} (hk : 1 ≤ k) (u : Int) (n : Nat) (hn : n ≤ 100) (hu : u.natAbs < 1000000000000000000) (S : Sto) : (T k)._law_figures [.int u, .int n] S = .ok (.str (fgs u n)) S := by
  obtain ⟨k, rfl⟩ := Nat.exists_eq_add_of_le' hk
  have so : strOkI (ab u) := strOk_small (by unfold ab; split <;> omega) (by unfold ab; split <;> omega)
  have e1 : numT (ab u) = TL.numL u.natAbs := by
    rw [numT_nn (by unfold ab; split <;> omega)]
    congr 1
    unfold ab; split <;> omega
  have hl : (TL.numL u.natAbs).length ≤ 18 := TL.numL_len (by decide) hu
  rw [T__law_figures]
  apply ok_out
  unfold b__law_figures fgs
  generalize TL.numL u.natAbs = N at *
  walk_at "auto*"
  clear so e1 hu
  refine ok_forR (fun i E S' => S' = S ∧ ∃ a, E = [some (.int u), some (.int n), some (.str (List.replicate (min i (n - N.length)) 48 ++ N)), a]) ?_ ?_ ?_
  · exact ⟨rfl, none, by simp⟩
  · rintro i _ S hi ⟨rfl, a, rfl⟩
    have hi : i < n := by omega
    unfold l__law_figures_1
    have hL : (List.replicate (min i (n - N.length)) 48 ++ N).length = min i (n - N.length) + N.length := by rw [List.length_append, List.length_replicate]
    by_cases h : min i (n - N.length) + N.length < n
    · have e : 48 :: (List.replicate (min i (n - N.length)) 48 ++ N) = List.replicate (min (i + 1) (n - N.length)) 48 ++ N := by
        rw [show min (i + 1) (n - N.length) = min i (n - N.length) + 1 by omega, List.replicate_succ]; rfl
      generalize List.replicate (min i (n - N.length)) 48 ++ N = Z at *
      rw [← e]
      have h2 : (Z.length : Int) < (n : Int) := by omega
      have h3 : Z.length ≤ 200 := by omega
      clear e hL
      walk_at "auto*"
      exact ⟨_, rfl⟩
    · have e : min (i + 1) (n - N.length) = min i (n - N.length) := by omega
      rw [e]
      generalize List.replicate (min i (n - N.length)) 48 ++ N = Z at *
      have h2 : ¬ (Z.length : Int) < (n : Int) := by omega
      have h3 : Z.length ≤ 200 := by omega
      clear hL e
      walk_at "auto*"
      exact ⟨_, rfl⟩
  · rintro _ S ⟨rfl, a, rfl⟩
    walk_at "auto*"
    rw [show min n (n - N.length) = n - N.length by omega]
theorem t_lwritten {k : Nat} (hk : 2 ≤ k) {d : D} {n : Nat} {sg : Bool} (h : BfL d n sg) (h1 : 1 ≤ n) (hn : n ≤ 18) (u : Int) (hu : u.natAbs < 1000000000000000000) (S : Sto) :
    (T k)._law_written [d, .int u] S = .ok (.str (wrB d u n)) S := by
  obtain ⟨k, rfl⟩ := Nat.exists_eq_add_of_le' hk
  have tf := t_lfigures (k := k + 1) (by omega) u n (by omega) hu
  have l1 := fgs_ge u n
  have l2 := fgs_le (u := u) (n := n) (m := 18) (by decide) hu
  rw [T__law_written]
  apply ok_out
  refine w_trim ?_
  unfold b__law_written q__law_written_1
  rcases h with ⟨bb, w, f, hn2, rfl, rfl⟩ | ⟨m, c, a2, f, s, g0, g1, g2, g3, g4, g5, rfl, rfl⟩
  · unfold wrB numQ
    have eab : (w : Int) + (f : Int) = (n : Int) := by omega
    generalize fgs u n = F at *
    clear l1
    have l3 : F.length ≤ 36 := by omega
    clear l2 hn2
    generalize (n : Int) = ni at *
    cases sg <;> walk_at "auto*"
    all_goals (try simp_all)
    all_goals rfl
  · have tb := t_lbody (k := k + 1) (by omega) c m (fgs u n) g0 g1 (by omega) (by omega) g3
    have hl := bodyS_len c m (fgs u n)
    have eab : (a2 : Int) + (f : Int) = (n : Int) := by omega
    have hc : m.headD 0 = c := by
      cases m with
      | nil => simp at g0
      | cons x r => simp at g0; simpa using g0
    unfold wrB edQ
    dsimp only
    rw [hc]
    generalize fgs u n = F at *
    generalize (bodyS c m F).2.2 = Z at *
    clear l1 g0 g2 g3 g4
    have hz : Z.length ≤ 100 := by omega
    clear hl hc g1
    have l3 : F.length ≤ 36 := by omega
    clear l2
    generalize (n : Int) = ni at *
    have u1 : upOk [99, 114] := ⟨by decide, by decide⟩
    have u2 : upOk [100, 98] := ⟨by decide, by decide⟩
    simp only [SGNS, List.mem_cons, List.not_mem_nil, or_false] at g5
    have v1 : valD (putD (putD [] (Sum.inr ⟨#[45]⟩) (D.str [32])) (Sum.inr ⟨#[43]⟩) (D.str [43])) (Sum.inr ⟨#[45]⟩) = some (D.str [32]) := rfl
    have v2 : valD (putD (putD [] (Sum.inr ⟨#[45]⟩) (D.str [32])) (Sum.inr ⟨#[43]⟩) (D.str [43])) (Sum.inr ⟨#[43]⟩) = some (D.str [43]) := rfl
    have hu2 : (u < 0 ∧ decide (u < 0) = true) ∨ (¬ u < 0 ∧ decide (u < 0) = false) := by by_cases h : u < 0 <;> simp [h]
    rcases hu2 with ⟨hu2, e2⟩ | ⟨hu2, e2⟩ <;> rw [e2] <;> clear e2 <;> rcases g5 with rfl | rfl | rfl | rfl | rfl | rfl | rfl | rfl
    all_goals walk_at "auto*"
    all_goals first | exact ⟨_, rfl, rfl, rfl⟩ | exact ⟨[], by simp, rfl, rfl⟩ | exact ⟨rfl, rfl⟩ | (simp_all; done) | trace_state
theorem t_ldec {k : Nat} (hk : 1 ≤ k) (u : Int) (s : Nat) (hs : s ≤ 1000) (S : Sto) : (T k)._law_decimal [.int u, .int s] S = .ok (dec (nrm s u)) S := by
  obtain ⟨k, rfl⟩ := Nat.exists_eq_add_of_le' hk
  have m10 : modOk 10 := modOk_of (by decide)
  have lp : ∀ (l : List D) (s : Nat) (u : Int) (z : Option D), l.length = s →
      (∃ z', forD none (gN 2) (l__law_decimal_1 (T k)) l [some (.int u), some (.int s), z] S = .nx [some (.int (nrm s u).1), some (.int (nrm s u).2), z'] S) ∨
      forD none (gN 2) (l__law_decimal_1 (T k)) l [some (.int u), some (.int s), z] S = .rt (dec (nrm s u)) S := by
    intro l
    induction l with
    | nil =>
      intro s u z e
      cases e
      exact .inl ⟨z, by rw [forD_nil]; rfl⟩
    | cons x l ih =>
      intro s u z e
      cases e
      have e2 : ((l.length + 1 : Nat) : Int) - 1 = l.length := by omega
      rw [forD_cons, List.length_cons]
      by_cases h : u % 10 = 0
      · have h2 : u / 10 * 10 = u := by omega
        have t : turn (gN 2) (l__law_decimal_1 (T k)) x [some (.int u), some (.int ((l.length + 1 : Nat) : Int)), z] S = .nx [some (.int (u / 10)), some (.int (l.length : Int)), some x] S := by
          unfold l__law_decimal_1
          generalize ((l.length + 1 : Nat) : Int) = y at e2 ⊢
          walk_at "ev*"
        rw [t, nrm, if_pos h2]
        exact ih _ (u / 10) (some x) rfl
      · have h2 : ¬ u / 10 * 10 = u := by omega
        have t : turn (gN 2) (l__law_decimal_1 (T k)) x [some (.int u), some (.int ((l.length + 1 : Nat) : Int)), z] S = .rt (.tup [.int u, .int ((l.length + 1 : Nat) : Int)]) S := by
          unfold l__law_decimal_1
          generalize ((l.length + 1 : Nat) : Int) = y at e2 ⊢
          walk_at "ev*"
        rw [t, nrm, if_neg h2]
        exact .inr rfl
  rw [T__law_decimal]
  unfold b__law_decimal
  have hsm := small62_nat (n := s) (by omega)
  rcases lp (rngD 0 s) s u none rng_len with ⟨z', h⟩ | h
  · generalize nrm s u = res at h ⊢
    walk_at "ev*"
    rfl
  · walk_at "ev*"
theorem menu6 (i : Int) (h0 : 0 ≤ i) (h : i < 6) : ∃ u : Int, Bn 4 u ∧ atD [.int 0, .int 1, .int (-1), .int 10, .int (-100), .int 5] i = some (.int u) := by
  have : i = 0 ∨ i = 1 ∨ i = 2 ∨ i = 3 ∨ i = 4 ∨ i = 5 := by omega
  rcases this with rfl | rfl | rfl | rfl | rfl | rfl
  · exact ⟨0, by unfold Bn; decide, rfl⟩
  · exact ⟨1, by unfold Bn; decide, rfl⟩
  · exact ⟨-1, by unfold Bn; decide, rfl⟩
  · exact ⟨10, by unfold Bn; decide, rfl⟩
  · exact ⟨-100, by unfold Bn; decide, rfl⟩
  · exact ⟨5, by unfold Bn; decide, rfl⟩
theorem t_number {k : Nat} (hk : 2 ≤ k) (r : Int) (hr : 0 ≤ r) (S : Sto) : ∃ p : Int × Nat, Lst p ∧ Bn 19 p.1 ∧ p.2 ≤ 18 ∧ (T k)._law_number [.int r] S = .ok (dec p) S := by
  obtain ⟨k, rfl⟩ := Nat.exists_eq_add_of_le' hk
  have go : ∀ (u s : Int) (n : Nat), 0 ≤ s → s ≤ 18 → n ≤ 19 → Bn n u → ∃ p : Int × Nat, Lst p ∧ Bn 19 p.1 ∧ p.2 ≤ 18 ∧ (T (k + 1))._law_decimal [.int u, .int s] S = .ok (dec p) S := by
    intro u s n h0 h1 hn hu
    have t := t_ldec (k := k + 1) (by omega) u s.toNat (by omega) S
    rw [Int.toNat_of_nonneg h0] at t
    obtain ⟨a1, a2, a3⟩ := nrm_spec s.toNat u
    exact ⟨_, a3, bn_mono (nrm_bn hu) hn, by omega, t⟩
  rw [show k + 2 = (k + 1) + 1 from rfl, T__law_number]
  unfold b__law_number
  have m6 : modOk 6 := modOk_of (by decide)
  have d6 : divOk 6 := divOk_of (by decide) (by decide)
  have h6 := Int.emod_nonneg r (show (6 : Int) ≠ 0 by decide)
  have hrest : 0 ≤ r / 6 := Int.ediv_nonneg hr (by decide)
  by_cases c0 : r % 6 = 0
  · have m3 : modOk 3 := modOk_of (by decide)
    obtain ⟨u, hu, e⟩ := menu6 (r / 6 % 6) (Int.emod_nonneg _ (by decide)) (Int.emod_lt_of_pos _ (by decide))
    obtain ⟨p, p1, p2, p3, p4⟩ := go u (r / 6 / 6 % 3) 4 (Int.emod_nonneg _ (by decide)) (by have := Int.emod_lt_of_pos (r / 6 / 6) (show (0 : Int) < 3 by decide); omega) (by decide) hu
    refine ⟨p, p1, p2, p3, ?_⟩
    walk_at "ev*"
  · by_cases c4 : r % 6 < 4
    · have m5 : modOk 5 := modOk_of (by decide)
      have mA : modOk 20001 := modOk_of (by decide)
      have dA : divOk 20001 := divOk_of (by decide) (by decide)
      have b1 := Int.emod_nonneg (r / 6) (show (20001 : Int) ≠ 0 by decide)
      have b2 := Int.emod_lt_of_pos (r / 6) (show (0 : Int) < 20001 by decide)
      obtain ⟨p, p1, p2, p3, p4⟩ := go (r / 6 % 20001 - 10000) (r / 6 / 20001 % 5) 5 (Int.emod_nonneg _ (by decide)) (by have := Int.emod_lt_of_pos (r / 6 / 20001) (show (0 : Int) < 5 by decide); omega) (by decide) (bn_of (z := 100000) (by decide) (by omega) (by omega))
      refine ⟨p, p1, p2, p3, ?_⟩
      walk_at "ev*"
    · have m19 : modOk 19 := modOk_of (by decide)
      have mA : modOk 2000000000000000000 := modOk_of (by decide)
      have dA : divOk 1000000000000000 := divOk_of (by decide) (by decide)
      have p18 : powOk 10 18 := ⟨by decide, by decide, by decide⟩
      have p15 : powOk 10 15 := ⟨by decide, by decide, by decide⟩
      have e18 : (10 : Int) ^ (Int.toNat 18) = 1000000000000000000 := by decide
      have e15 : (10 : Int) ^ (Int.toNat 15) = 1000000000000000 := by decide
      have m2 : mulOk 2 1000000000000000000 := mulOk_smallL (by decide)
      have e2 : (2 : Int) * 1000000000000000000 = 2000000000000000000 := by decide
      have b1 := Int.emod_nonneg (r / 6) (show (2000000000000000000 : Int) ≠ 0 by decide)
      have b2 := Int.emod_lt_of_pos (r / 6) (show (0 : Int) < 2000000000000000000 by decide)
      obtain ⟨p, p1, p2, p3, p4⟩ := go (r / 6 % 2000000000000000000 - 1000000000000000000) (r / 6 / 1000000000000000 % 19) 19 (Int.emod_nonneg _ (by decide)) (by have := Int.emod_lt_of_pos (r / 6 / 1000000000000000) (show (0 : Int) < 19 by decide); omega) (by decide) (bn_of (z := 10000000000000000000) (by decide) (by omega) (by omega))
      refine ⟨p, p1, p2, p3, ?_⟩
      walk_at "ev"
      simp only [p18, p15, e18, e15, m2, e2, c0, c4]
      walk_at "ev*"
/-! the law's own cells and decimals -/
theorem t_cell {k : Nat} (hk : 1 ≤ k) (ns : List Int) (i : Nat) (S : Sto) : (T k)._law_cell [.fz (ns.map D.int), .int i] S = .ok (.int (ns.getD i 0)) S := by
  obtain ⟨k, rfl⟩ := Nat.exists_eq_add_of_le' hk
  rw [T__law_cell]
  unfold b__law_cell
  by_cases h : i < ns.length
  · have h1 : (i : Int) < (ns.length : Int) := by omega
    have h2 : (ns.map D.int)[i]? = some (D.int ns[i]) := by rw [List.getElem?_map, List.getElem?_eq_getElem h]; rfl
    have h3 : ns.getD i 0 = ns[i] := by rw [List.getD_eq_getElem?_getD, List.getElem?_eq_getElem h]; rfl
    rw [h3]
    walk_at "ev*"
  · have h1 : ¬ (i : Int) < (ns.length : Int) := by omega
    have h3 : ns.getD i 0 = 0 := by rw [List.getD_eq_getElem?_getD, List.getElem?_eq_none (by omega)]; rfl
    rw [h3]
    walk_at "ev*"
theorem t_rich {k : Nat} (hk : 1 ≤ k) (c : Int) (i : Nat) (hi : i ≤ 100) (S : Sto) : ∃ r : Int, 0 ≤ r ∧ (T k)._law_rich [.int c, .int i] S = .ok (.int r) S := by
  obtain ⟨k, rfl⟩ := Nat.exists_eq_add_of_le' hk
  rw [T__law_rich]
  unfold b__law_rich
  have p18 : powOk 10 18 := ⟨by decide, by decide, by decide⟩
  have e18 : (10 : Int) ^ (Int.toNat 18) = 1000000000000000000 := by decide
  by_cases h : (1000000000000000000 : Int) ≤ c
  · refine ⟨c, by omega, ?_⟩
    walk_at "ev"
    simp only [p18, e18, h]
    walk_at "ev*"
  · have m1 : mulOk c 48271 := mulOk_small (by decide)
    have m2 : mulOk (i : Int) 69621 := mulOk_small (by decide)
    have d1 : modOk 2147483647 := modOk_of (by decide)
    have d2 : modOk 2147483629 := modOk_of (by decide)
    have hx := Int.emod_nonneg (c * 48271 + i * 69621 + 11) (show (2147483647 : Int) ≠ 0 by decide)
    have hx2 := Int.emod_lt_of_pos (c * 48271 + i * 69621 + 11) (show (0 : Int) < 2147483647 by decide)
    refine ⟨(c * 48271 + i * 69621 + 11) % 2147483647 * 2147483629 + ((c * 48271 + i * 69621 + 11) % 2147483647 * 16807 + c) % 2147483629, ?_, ?_⟩
    · have := Int.emod_nonneg ((c * 48271 + i * 69621 + 11) % 2147483647 * 16807 + c) (show (2147483629 : Int) ≠ 0 by decide)
      omega
    · generalize (i : Int) = z at *
      walk_at "ev"
      simp only [p18, e18, h]
      walk_at "ev*"
      generalize (c * 48271 + z * 69621 + 11) % 2147483647 = y at *
      have m3 : mulOk y 2147483629 := mulOk_small (by decide)
      have m4 : mulOk y 16807 := mulOk_small (by decide)
      walk_at "ev*"
theorem ixS_mem {z : Tx} {i : Int} {S : Sto} (h0 : 0 ≤ i) (h1 : i < z.length) (hz : PD.sizeOk z.length) : ∃ c, c ∈ z ∧ gIx S (.str z) (.int i) = some (.str [c]) := by
  have h2 : i.toNat < z.length := by omega
  refine ⟨z[i.toNat], List.getElem_mem _, ?_⟩
  simp only [gIx]
  rw [if_pos hz, if_pos h0, List.getElem?_eq_getElem h2]
  rfl
theorem t_wordA {k : Nat} (hk : 1 ≤ k) (n : Nat) (hn : n ≤ 1000) (A : Tx) (ha : 0 < A.length) (ha2 : A.length ≤ 100) (r : Int) (hr : 0 ≤ r) (S : Sto) : ∃ z : Tx, z.length = n ∧ (∀ c ∈ z, c ∈ A) ∧ (T k)._law_word [.int n, .str A, .int r] S = .ok (.str z) S := by
  obtain ⟨k, rfl⟩ := Nat.exists_eq_add_of_le' hk
  have sA : PD.sizeOk A.length := so_le (by omega)
  have mA : modOk (A.length : Int) := modOk_of (by omega)
  have dA : divOk (A.length : Int) := divOk_of (by omega) (by omega)
  obtain ⟨E2, S2, e, z, r2, y, rfl, hz, hr2, rfl, hmz⟩ := forR_inv (g := gN 5) (b := l__law_word_1 (T k)) (lo := 0) (n := n) (E := [some (.int n), some (.str A), some (.int r), some (.str []), some (.int r), none]) (S := S)
    (fun i E S' => ∃ (z : Tx) (r2 : Int) (y : Option D), E = [some (.int n), some (.str A), some (.int r), some (.str z), some (.int r2), y] ∧ z.length = i ∧ 0 ≤ r2 ∧ S' = S ∧ ∀ c ∈ z, c ∈ A) ⟨[], r, none, rfl, rfl, hr, rfl, by simp⟩ fun i E S' hi hE => by
      obtain ⟨z, r2, y, rfl, hz, hr2, rfl, hmz⟩ := hE
      have b1 := Int.emod_nonneg r2 (show (A.length : Int) ≠ 0 by omega)
      have b2 := Int.emod_lt_of_pos r2 (show (0 : Int) < A.length by omega)
      obtain ⟨c, hcA, hc⟩ := ixS_mem (S := S') b1 b2 sA
      have sz : PD.sizeOk (z.length + 1) := so_le (by omega)
      refine ⟨[some (.int n), some (.str A), some (.int r), some (.str (z ++ [c])), some (.int (r2 / A.length)), some (.int (0 + (i : Int)))], _, .inl ?_, z ++ [c], r2 / A.length, _, rfl, by simp [hz], Int.ediv_nonneg hr2 (by omega), rfl, ?_⟩
      · unfold l__law_word_1
        clear hz hmz hcA
        walk_at "ev*"
      · intro x hx
        rcases List.mem_append.mp hx with q | q
        · exact hmz x q
        · rw [List.mem_singleton.mp q]; exact hcA
  refine ⟨z, hz, hmz, ?_⟩
  rw [T__law_word]
  unfold b__law_word
  clear hmz
  have s62 : small62 (n : Int) := small62_le (by omega)
  have e0 : (n : Int).toNat = n := Int.toNat_natCast n
  walk_at "ev*"
/-! k23: padding, figures, units -/
def padT (t : Tx) (n : Nat) : Tx := (t ++ List.replicate (n - t.length) 32).take n
theorem padT_len (t : Tx) (n : Nat) : (padT t n).length = n := by
  unfold padT
  rw [List.length_take, List.length_append, List.length_replicate]
  omega
theorem padT_all {t : Tx} {n : Nat} {p : Nat → Bool} (h : t.all p = true) (h2 : p 32 = true) : (padT t n).all p = true := by
  unfold padT
  rw [List.all_eq_true]
  intro x hx
  have := List.mem_of_mem_take hx
  rcases List.mem_append.mp this with q | q
  · exact List.all_eq_true.mp h x q
  · rw [List.eq_of_mem_replicate q]; exact h2
theorem t_padded {k : Nat} (hk : 1 ≤ k) (t : Tx) (n : Nat) (ht : t.length ≤ 1000) (hn : n ≤ 1000) (S : Sto) : (T k).padded [.str t, .int n] S = .ok (.str (padT t n)) S := by
  obtain ⟨k, rfl⟩ := Nat.exists_eq_add_of_le' hk
  have pk : padOk (n : Int) := by
    unfold padOk PadOk fitsSsize Builtin.Str.tooLong
    have hz := sizeLine_eq
    rw [decide_eq_false (show ¬ ((n : Int) < -(2 ^ 63)) by omega), decide_eq_false (show ¬ ((n : Int) ≥ 2 ^ 63) by omega), decide_eq_false (show ¬ ((n : Int)).toNat > sizeLine by omega)]
    rfl
  have e1 : ljustT t (n : Int) = t ++ List.replicate (n - t.length) 32 := by unfold ljustT; rw [Int.toNat_natCast]
  have e2 : (ljustT t (n : Int)).length ≤ 2000 := by rw [e1, List.length_append, List.length_replicate]; omega
  have e3 : (ljustT t (n : Int)).take n = padT t n := by rw [e1]; rfl
  rw [T_padded]
  apply ok_out
  unfold b_padded
  walk_at "auto"
  all_goals first | exact so_le (n := (ljustT t (n : Int)).length) (by omega) | rw [e3]
theorem t_lpad {k : Nat} (hk : 1 ≤ k) (t : Tx) (n : Nat) (ht : t.length ≤ 1000) (hn : n ≤ 1000) (S : Sto) : (T k)._law_pad [.str t, .int n] S = .ok (.str (padT t n)) S := by
  obtain ⟨k, rfl⟩ := Nat.exists_eq_add_of_le' hk
  rw [T__law_pad]
  apply ok_out
  unfold b__law_pad
  walk_at "auto*"
  refine ok_forR (fun i E S' => Hid (S = S' ∧ (∃ u : Nat → Option D, E = [some (.str (t ++ List.replicate (min i (n - t.length)) 32)), some (.int (n : Nat)), u 2]))) ?_ ?_ ?_
  · refine hid ⟨rfl, ?_⟩
    rw [Nat.zero_min, List.replicate_zero, List.append_nil]
    exact exE rfl
  · rintro i _ _ hi ⟨rfl, u, rfl⟩
    have e0 : (0 : Int) + (i : Int) = (i : Int) := Int.zero_add _
    rw [w_gN, e0]
    walk_at "n"
    unfold l__law_pad_1
    by_cases c : i < n - t.length
    · have e1 : t ++ List.replicate (min (i + 1) (n - t.length)) 32 = (t ++ List.replicate (min i (n - t.length)) 32) ++ [32] := by
        rw [Nat.min_eq_left (by omega), Nat.min_eq_left (by omega), List.replicate_succ', List.append_assoc]
      have e2 : (t ++ List.replicate (min i (n - t.length)) 32).length = t.length + i := by
        rw [List.length_append, List.length_replicate, Nat.min_eq_left (by omega)]
      rw [e1]
      generalize t ++ List.replicate (min i (n - t.length)) 32 = Y at *
      walk_at "auto*"
      all_goals first | exact hid ⟨rfl, exE rfl⟩ | omega
    · have e1 : t ++ List.replicate (min (i + 1) (n - t.length)) 32 = t ++ List.replicate (min i (n - t.length)) 32 := by
        rw [Nat.min_eq_right (by omega), Nat.min_eq_right (by omega)]
      have e2 : (t ++ List.replicate (min i (n - t.length)) 32).length = t.length + (n - t.length) := by
        rw [List.length_append, List.length_replicate, Nat.min_eq_right (by omega)]
      rw [e1]
      generalize t ++ List.replicate (min i (n - t.length)) 32 = Y at *
      walk_at "auto*"
      all_goals first | exact hid ⟨rfl, exE rfl⟩ | omega
  · rintro _ _ ⟨rfl, u, rfl⟩
    have e3 : (t ++ List.replicate (min n (n - t.length)) 32).take n = padT t n := by rw [Nat.min_eq_right (by omega)]; rfl
    have e2 : (t ++ List.replicate (min n (n - t.length)) 32).length ≤ 2000 := by
      rw [List.length_append, List.length_replicate]; omega
    generalize t ++ List.replicate (min n (n - t.length)) 32 = Y at *
    generalize padT t n = P at *
    walk_at "auto*"
theorem t_figures_of {k : Nat} (hk : 1 ≤ k) (b : Bool) (w f : Nat) (t : Tx) (ht : t.length ≤ 1000) (S : Sto) : (T k).figures_of [numQ b w f, .str t] S = .ok (.str (if b then t.drop 1 else t)) S := by
  obtain ⟨k, rfl⟩ := Nat.exists_eq_add_of_le' hk
  rw [T_figures_of]
  apply ok_out
  unfold b_figures_of numQ
  cases b <;> walk_at "auto*"
def unF (a : Int × Nat) (s : Nat) (r : Bool) : Int := if a.2 ≤ s then a.1 * 10 ^ (s - a.2) else quo a.1 (10 ^ (a.2 - s)) r
theorem t_unF {k : Nat} (hk : 3 ≤ k) (a : Int × Nat) (s : Nat) (r : Bool) (ha : Bn 19 a.1) (h1 : a.2 ≤ 1000) (h2 : s ≤ 1000) (S : Sto) :
    (T k).units_at [dec a, .int s, .bl r] S = .ok (.int (unF a s r)) S := by
  obtain ⟨v, e, _, rfl⟩ := t_units_at hk a s 19 r ha (by decide) h1 h2 S
  exact e
/-! k23: cut_to and stored, by the program and by the law -/
theorem suit_cut {u : Int} {n : Nat} {sg : Bool} (hL : (1 : Int) ≤ 10 ^ n) : suitB (cutD u n sg) n sg = true := by
  unfold suitB cutD
  have m1 := Int.emod_nonneg (u.natAbs : Int) (show (10 : Int) ^ n ≠ 0 by omega)
  have m2 := Int.emod_lt_of_pos (u.natAbs : Int) (show 0 < (10 : Int) ^ n by omega)
  by_cases q : u < 0 ∧ sg = true
  · rw [if_pos q, q.2]
    simp
    omega
  · rw [if_neg q]
    simp
    omega
theorem suit_lt {u : Int} {n : Nat} {sg : Bool} (h : suitB u n sg = true) (hn : n ≤ 12) : u.natAbs < 1000000000000000000 := by
  have h1 := (suit_nat h).1
  have e10 : ((10 ^ n : Nat) : Int) = (10 : Int) ^ n := Int.natCast_pow 10 n
  have hL := lim_b hn
  omega
theorem frP_le {d : D} {n : Nat} {sg : Bool} (h : BfL d n sg) : frP d ≤ n := by
  obtain ⟨a, ha, _⟩ := t_digits2 (k := 1) (by omega) h
  omega
theorem t_cut_to {k : Nat} (hk : 6 ≤ k) {d : D} {n : Nat} {sg : Bool} (h : BfL d n sg) (h1 : 1 ≤ n) (hn : n ≤ 12) (p : Int × Nat) (hp : Bn 19 p.1) (hp2 : p.2 ≤ 1000) (S : Sto) :
    (T k).cut_to [d, dec p] S = .ok (.str (wrB d (cutD (unF p (frP d) false) n sg) n)) S := by
  obtain ⟨k, rfl⟩ := Nat.exists_eq_add_of_le' hk
  have hL := lim_b hn
  obtain ⟨a, ha, td⟩ := t_digits2 (k := k + 5) (by omega) h
  have tu := t_unF (k := k + 5) (by omega) p (frP d) false hp hp2 (by omega)
  have tt := t_trimmed (k := k + 5) (by omega) h (by omega) (unF p (frP d) false)
  have hs := suit_cut (u := unF p (frP d) false) (sg := sg) hL.1
  have tw := t_written (k := k + 5) (by omega) h h1 (by omega) (cutD (unF p (frP d) false) n sg) (suit_lt hs hn)
  simp only [if_pos hs] at tw
  rw [T_cut_to]
  apply ok_out
  unfold b_cut_to
  clear hs h hp hp2 hL ha
  generalize wrB d (cutD (unF p (frP d) false) n sg) n = W at *
  generalize cutD (unF p (frP d) false) n sg = C at *
  generalize unF p (frP d) false = U at *
  generalize (frP d : Int) = F at *
  generalize dec p = P at *
  walk_at "auto*"
theorem t_stored {k : Nat} (hk : 6 ≤ k) {d : D} {n : Nat} {sg : Bool} (h : BfL d n sg) (h1 : 1 ≤ n) (hn : n ≤ 12) (p : Int × Nat) (hp : Bn 19 p.1) (hp2 : p.2 ≤ 1000) (r : Bool) (S : Sto) :
    (T k).stored [d, dec p, .bl r] S = .ok (if suitB (unF p (frP d) r) n sg = true then .str (wrB d (unF p (frP d) r) n) else .non) S := by
  obtain ⟨k, rfl⟩ := Nat.exists_eq_add_of_le' hk
  obtain ⟨a, ha, td⟩ := t_digits2 (k := k + 5) (by omega) h
  have tu := t_unF (k := k + 5) (by omega) p (frP d) r hp hp2 (by omega)
  have ts := t_suits (k := k + 5) (by omega) h (by omega) (unF p (frP d) r)
  have tw := fun hs => t_written (k := k + 5) (by omega) h h1 (by omega) (unF p (frP d) r) (suit_lt (n := n) (sg := sg) hs hn)
  rw [T_stored]
  apply ok_out
  unfold b_stored
  cases hs : suitB (unF p (frP d) r) n sg with
  | false =>
    rw [hs] at ts
    clear tw h hp hp2 ha
    rw [if_neg (by decide)]
    generalize unF p (frP d) r = U at *
    generalize (frP d : Int) = F at *
    generalize dec p = P at *
    walk_at "auto*"
  | true =>
    rw [hs] at ts
    replace tw := tw hs
    simp only [if_pos hs] at tw
    clear h hp hp2 ha
    rw [if_pos rfl]
    generalize wrB d (unF p (frP d) r) n = W at *
    generalize unF p (frP d) r = U at *
    generalize (frP d : Int) = F at *
    generalize dec p = P at *
    walk_at "auto*"
theorem t_lcut {k : Nat} (hk : 6 ≤ k) {d : D} {n : Nat} {sg : Bool} (h : BfL d n sg) (h1 : 1 ≤ n) (hn : n ≤ 12) (p : Int × Nat) (hp : Bn 19 p.1) (hp2 : p.2 ≤ 1000) (S : Sto) :
    (T k)._law_cut [d, dec p] S = .ok (.str (wrB d (cutD (unF p (frP d) false) n sg) n)) S := by
  obtain ⟨k, rfl⟩ := Nat.exists_eq_add_of_le' hk
  have hL := lim_b hn
  have hf := frP_le h
  have tu := t_unF (k := k + 5) (by omega) p (frP d) false hp hp2 (by omega)
  have hs := suit_cut (u := unF p (frP d) false) (sg := sg) hL.1
  have tw := t_lwritten (k := k + 5) (by omega) h h1 (by omega) (cutD (unF p (frP d) false) n sg) (suit_lt hs hn)
  have c1 : ∀ u : Int, (u < 0 ∧ sg = true ∧ cutD u n sg = -(ab u % 10 ^ n)) ∨ (u < 0 ∧ sg = false ∧ cutD u n sg = ab u % 10 ^ n) ∨ (¬ u < 0 ∧ cutD u n sg = ab u % 10 ^ n) := by
    intro u
    have e0 : ab u = (u.natAbs : Int) := by unfold ab; split <;> omega
    unfold cutD
    rw [e0]
    clear tw hs tu h
    by_cases hu : u < 0
    · cases sg with
      | true => exact .inl ⟨hu, rfl, if_pos ⟨hu, rfl⟩⟩
      | false => exact .inr (.inl ⟨hu, rfl, if_neg (by simp)⟩)
    · exact .inr (.inr ⟨hu, if_neg fun ⟨h1, _⟩ => hu h1⟩)
  replace c1 := c1 (unF p (frP d) false)
  have hFd : ∀ b w f, d = numQ b w f → frP d = f := fun b w f e => by rw [e]; show ((f : Int)).toNat = f; omega
  have hFe : ∀ m a f s, d = edQ m a f s → frP d = f := fun m a f s e => by rw [e]; show ((f : Int)).toNat = f; omega
  rw [T__law_cut]
  apply ok_out
  unfold b__law_cut
  generalize hU : unF p (frP d) false = U at *
  generalize dec p = P at *
  generalize hW : wrB d (cutD U n sg) n = W at *
  clear hs hp hp2 hU
  walk_at "run"
  refine ok_cut (fun E S' => S = S' ∧ E = [some d, some P, some (.int U), none, none, none, none]) ?_ ?_
  · rcases h with ⟨bb, w, f, hn2, rfl, rfl⟩ | ⟨m, c, a2, f, s, g0, g1, g2, g3, g4, g5, rfl, rfl⟩
    · rw [hFd _ _ _ rfl] at tu
      clear tw hW
      unfold numQ at *
      walk_at "auto*"
    · rw [hFe _ _ _ _ rfl] at tu
      clear tw hW g0 g1 g2 g3 g4 g5
      unfold edQ at *
      walk_at "auto*"
  rintro _ S ⟨rfl, rfl⟩
  refine ok_cut (fun E S' => S = S' ∧ E = [some d, some P, some (.int U), some (.int 1), none, none, none]) ?_ ?_
  · walk_at "auto*"
  rintro _ S ⟨rfl, rfl⟩
  refine ok_cut (fun E S' => Hid (S = S' ∧ (∃ u : Nat → Option D, E = [some d, some P, some (.int U), some (.int (10 ^ n)), u 4, u 5, u 6]))) ?_ ?_
  · have lp : ∀ d : D, OkS (forD none (gN 4) (l__law_cut_1 (T (k + 5))) (rngD 0 n) [some d, some P, some (.int U), some (.int 1), none, none, none] S) (fun E S' => Hid (S = S' ∧ (∃ u : Nat → Option D, E = [some d, some P, some (.int U), some (.int (10 ^ n)), u 4, u 5, u 6]))) (fun _ _ => False) (fun _ _ _ => False) (fun _ _ => False) (fun _ _ => False) := by
      intro d
      refine ok_forR (fun i2 E S' => Hid (S = S' ∧ (∃ u : Nat → Option D, E = [some d, some P, some (.int U), some (.int (10 ^ i2)), u 4, u 5, u 6]))) (hid ⟨rfl, exE rfl⟩) ?_ ?_
      · rintro i2 _ S hi ⟨rfl, u, rfl⟩
        unfold l__law_cut_1
        have hp : (10 : Int) ^ (i2 + 1) = 10 ^ i2 * 10 := Int.pow_succ ..
        rw [hp]
        generalize (10 : Int) ^ i2 = P at *
        walk_at "auto*"
        exact hid ⟨rfl, exE rfl⟩
      · rintro _ S ⟨rfl, u, rfl⟩
        exact hid ⟨rfl, exE rfl⟩
    rcases h with ⟨bb, w, f, hn2, rfl, rfl⟩ | ⟨m, c, a2, f, s, g0, g1, g2, g3, g4, g5, rfl, rfl⟩
    · have eab : (w : Int) + (f : Int) = (n : Int) := by omega
      clear tw hW tu
      unfold numQ at *
      walk_at "auto*"
      refine oks_imp (lp _) (fun _ _ h => h) ?_ ?_ ?_ ?_ <;> (intros; contradiction)
    · have eab : (a2 : Int) + (f : Int) = (n : Int) := by omega
      clear tw hW tu g0 g1 g2 g3 g4 g5
      unfold edQ at *
      walk_at "auto*"
      refine oks_imp (lp _) (fun _ _ h => h) ?_ ?_ ?_ ?_ <;> (intros; contradiction)
  rintro _ S ⟨rfl, u, rfl⟩
  refine ok_cut (fun E S' => Hid (S = S' ∧ (∃ u : Nat → Option D, E = [some d, some P, some (.int U), u 3, u 4, some (.int (ab U % 10 ^ n)), u 6]))) ?_ ?_
  · generalize (10 : Int) ^ n = L at *
    clear tw tu hW
    walk_at "auto*"
    exact hid ⟨rfl, exE rfl⟩
  rintro _ S ⟨rfl, u, rfl⟩
  unfold q__law_cut_1
  refine ok_cut (fun E S' => Hid (S = S' ∧ (∃ u : Nat → Option D, E = [some d, some P, some (.int U), u 3, u 4, some (.int (ab U % 10 ^ n)), some (.bl sg)]))) ?_ ?_
  · generalize (10 : Int) ^ n = L at *
    clear tw tu hW
    rcases h with ⟨bb, w, f, hn2, rfl, rfl⟩ | ⟨m, c, a2, f, s, g0, g1, g2, g3, g4, g5, rfl, rfl⟩
    · unfold numQ at *
      walk_at "auto*"
      all_goals exact hid ⟨rfl, exE rfl⟩
    · unfold edQ at *
      clear g0 g1 g2 g3 g4 g5
      walk_at "auto*"
      all_goals exact hid ⟨rfl, exE rfl⟩
  rintro _ S ⟨rfl, u, rfl⟩
  clear h hW tu hFd hFe
  generalize (10 : Int) ^ n = L at *
  rcases c1 with ⟨q1, q2, q3⟩ | ⟨q1, q2, q3⟩ | ⟨q1, q3⟩
  all_goals
    rw [q3] at tw
    walk_at "auto*"
/-! k23: stored, by the law -/
theorem un_bn {p : Int × Nat} (hp : Bn 19 p.1) (s : Nat) (hs : s ≤ 12) (r : Bool) : Bn 40 (unF p s r) := by
  unfold unF
  split
  · exact bn_mono (bn_mul hp (bn_pow (s - p.2))) (by omega)
  · generalize hq : (10 : Int) ^ (p.2 - s) = Q
    have hQ : 0 < Q := by rw [← hq]; exact pow10_pos _
    have hab : ab p.1 = (p.1.natAbs : Int) := ab_nat _
    have hQ2 : ab Q = Q := ab_of_nn (by omega)
    have h1 : 0 ≤ ab p.1 / Q := Int.ediv_nonneg (ab_nn _) (by omega)
    have h2 : ab p.1 / Q ≤ ab p.1 := Int.ediv_le_self _ (ab_nn _)
    have hz : (quo p.1 Q r).natAbs ≤ p.1.natAbs + 1 := by
      unfold quo qsize
      rw [hQ2]
      split <;> split <;> omega
    unfold Bn at *
    have h3 : (10 : Nat) ^ 19 + 1 ≤ 10 ^ 40 := by decide
    omega
theorem dig_ltM : ∀ (n : Nat) (f : Tx), f.length = n → (∀ c ∈ f, 48 ≤ c ∧ c ≤ 57) → NumText.digitsVal f < 10 ^ n
  | 0, f, hl, _ => by
    have : f = [] := List.length_eq_zero_iff.mp hl
    subst this
    decide
  | n + 1, f, hl, hd => by
    have hne : f ≠ [] := fun e => by rw [e] at hl; simp at hl
    have e := (List.dropLast_concat_getLast hne).symm
    have ih := dig_ltM n f.dropLast (by simp; omega) fun c hc => hd c ((List.dropLast_sublist f).subset hc)
    have hc := hd _ (List.getLast_mem hne)
    rw [e, NumText.digitsVal_snoc, Nat.pow_succ]
    omega
theorem num_gt {u n : Nat} (hn : 1 ≤ n) : n < (TL.numL u).length ↔ 10 ^ n ≤ u := by
  constructor
  · intro h
    have : ¬ u < 10 ^ n := fun q => by have := TL.numL_len (by omega) q; omega
    omega
  · intro h
    have h1 := dig_ltM _ (TL.numL u) rfl (TL.numL_digits u)
    rw [TL.numL_val] at h1
    have : ¬ (TL.numL u).length ≤ n := fun q => by
      have := Nat.pow_le_pow_right (n := 10) (by decide) q
      omega
    omega
theorem t_lstored {k : Nat} (hk : 6 ≤ k) {d : D} {n : Nat} {sg : Bool} (h : BfL d n sg) (h1 : 1 ≤ n) (hn : n ≤ 12) (p : Int × Nat) (hp : Bn 19 p.1) (hp2 : p.2 ≤ 1000) (r : Bool) (S : Sto) :
    (T k)._law_stored [d, dec p, .bl r] S = .ok (if suitB (unF p (frP d) r) n sg = true then .str (wrB d (unF p (frP d) r) n) else .non) S := by
  obtain ⟨k, rfl⟩ := Nat.exists_eq_add_of_le' hk
  have hL := lim_b hn
  have hf := frP_le h
  have tu := t_unF (k := k + 5) (by omega) p (frP d) r hp hp2 (by omega)
  have ub := un_bn hp (frP d) (by omega) r
  have tw := fun hs => t_lwritten (k := k + 5) (by omega) h h1 (by omega) (unF p (frP d) r) (suit_lt (n := n) (sg := sg) hs hn)
  have hFd : ∀ b w f, d = numQ b w f → frP d = f := fun b w f e => by rw [e]; show ((f : Int)).toNat = f; omega
  have hFe : ∀ m a f s, d = edQ m a f s → frP d = f := fun m a f s e => by rw [e]; show ((f : Int)).toNat = f; omega
  rw [T__law_stored]
  apply ok_out
  unfold b__law_stored
  generalize hU : unF p (frP d) r = U at *
  generalize dec p = P at *
  have so : strOkI (ab U) := by
    unfold strOkI
    unfold Bn at ub
    have e : (ab U).natAbs = U.natAbs := by unfold ab; split <;> omega
    rw [e]
    have h140 : (10 : Nat) ^ 40 ≤ 2 ^ 140 := by decide
    exact Nat.lt_of_lt_of_le (PySem.Flt.log2_lt_of (k := 140) (by decide) (by omega)) (by decide)
  have e1 : numT (ab U) = TL.numL U.natAbs := by
    rw [numT_nn (by unfold ab; split <;> omega)]
    congr 1
    unfold ab; split <;> omega
  have ng := num_gt (u := U.natAbs) (n := n) h1
  have e10 : ((10 ^ n : Nat) : Int) = (10 : Int) ^ n := Int.natCast_pow 10 n
  have hsb : suitB U n sg = true ↔ ¬ ((U < 0 ∧ sg = false) ∨ (U ≠ 0 ∧ n < (TL.numL U.natAbs).length)) := by
    rw [ng]
    unfold suitB
    cases sg
    · simp
      omega
    · simp
      omega
  have nl : (TL.numL U.natAbs).length ≤ 40 := TL.numL_len (by decide) ub
  generalize TL.numL U.natAbs = N at *
  clear hp hp2 ub ng e10
  walk_at "run"
  refine ok_cut (fun E S' => S = S' ∧ E = [some d, some P, some (.bl r), some (.int U), none]) ?_ ?_
  · rcases h with ⟨bb, w, f, hn2, rfl, rfl⟩ | ⟨m, c, a2, f, s, g0, g1, g2, g3, g4, g5, rfl, rfl⟩
    · rw [hFd _ _ _ rfl] at tu
      clear tw
      unfold numQ at *
      walk_at "auto*"
    · rw [hFe _ _ _ _ rfl] at tu
      clear tw g0 g1 g2 g3 g4 g5
      unfold edQ at *
      walk_at "auto*"
  rintro _ S ⟨rfl, rfl⟩
  refine ok_cut (fun E S' => S = S' ∧ E = [some d, some P, some (.bl r), some (.int U), some (.bl sg)]) ?_ ?_
  · clear tw tu
    rcases h with ⟨bb, w, f, hn2, rfl, rfl⟩ | ⟨m, c, a2, f, s, g0, g1, g2, g3, g4, g5, rfl, rfl⟩
    · unfold numQ at *
      walk_at "auto*"
    · unfold edQ at *
      clear g0 g1 g2 g3 g4 g5
      walk_at "auto*"
  rintro _ S ⟨rfl, rfl⟩
  have hw : ∃ x y z ys, ∃ F : Int, d = .tup (x :: y :: .int z :: .int F :: ys) ∧ z + F = (n : Int) := by
    rcases h with ⟨bb, w, f, hn2, rfl, rfl⟩ | ⟨m, c, a2, f, s, g0, g1, g2, g3, g4, g5, rfl, rfl⟩
    · exact ⟨_, _, (w : Int), _, (f : Int), rfl, by omega⟩
    · exact ⟨_, _, (a2 : Int), _, (f : Int), rfl, by omega⟩
  obtain ⟨x, y, z, ys, F, hd, hz⟩ := hw
  have i2 : ∀ S, gIx S d (.int 2) = some (.int z) := fun S => by rw [hd]; rfl
  have i3 : ∀ S, gIx S d (.int 3) = some (.int F) := fun S => by rw [hd]; rfl
  clear h hFd hFe tu hU hd hf
  by_cases hs : suitB U n sg = true
  · have hq := hsb.mp hs
    replace tw := tw hs
    rw [if_pos hs]
    generalize wrB d U n = W at *
    have q1 : U < 0 → sg = true := fun h => by
      cases sg
      · exact absurd (.inl ⟨h, rfl⟩) hq
      · rfl
    have q2 : U ≠ 0 → N.length ≤ n := fun h => by
      have : ¬ n < N.length := fun q => hq (.inr ⟨h, q⟩)
      omega
    clear hsb hs hq
    walk_at "auto*"
    all_goals (have := q1 (by assumption); simp_all; done)
  · have hq : ((U < 0 ∧ sg = false) ∨ (U ≠ 0 ∧ n < N.length)) := Classical.byContradiction fun q => hs (hsb.mpr q)
    rw [if_neg hs]
    clear hsb hs tw
    rcases hq with ⟨q1, rfl⟩ | ⟨q1, q2⟩
    · walk_at "auto*"
    · walk_at "auto*"
/-! k23: sides and contents -/
def strP : D := .tup [.str [115, 116, 114, 105, 110, 103]]
def decP : D := .tup [.str [100, 101, 99, 105, 109, 97, 108]]
def grpP (ps : List D) : D := .tup [.str [103, 114, 111, 117, 112], .tup ps]
def Side (d : D) : Prop := PicL d ∨ ∃ ps, (∀ p ∈ ps, PicL p) ∧ ps.length ≤ 3 ∧ d = grpP ps
theorem picl_lb {d : D} (h : PicL d) (n : Nat) : lb n d = true := by
  rcases h with ⟨m, _, _, rfl⟩ | ⟨b, w, f, _, _, _, rfl⟩ | ⟨b, _, f, s, _, _, rfl, _⟩ <;> rfl
theorem lbs_of {n : Nat} : ∀ ps : List D, (∀ p ∈ ps, lb n p = true) → lbs n ps = true
  | [], _ => rfl
  | p :: ps, h => by
    show (lb n p && lbs n ps) = true
    rw [h p (by simp), lbs_of ps fun q hq => h q (by simp [hq])]
    rfl
theorem side_lb {d : D} (h : Side d) (n : Nat) : lb n d = true := by
  rcases h with h | ⟨ps, h, _, rfl⟩
  · exact picl_lb h n
  · show (true && (lbs n ps && true)) = true
    rw [lbs_of ps fun p hp => picl_lb (h p hp) n]
    rfl
theorem pic_cases {d : D} (h : PicL d) : (∃ n, 1 ≤ n ∧ n ≤ 12 ∧ d = textP n) ∨ (∃ n sg, 1 ≤ n ∧ n ≤ 12 ∧ BfL d n sg) := by
  rcases h with h | h | h
  · exact .inl h
  · exact .inr (bf_of (.inl h))
  · exact .inr (bf_of (.inr h))
theorem t_side {k : Nat} (hk : 2 ≤ k) (r : Int) (hr : 0 ≤ r) (S : Sto) : OkO ((T k)._law_side [.int r] S) (fun d S' => S = S' ∧ Hid (Side d)) (fun _ _ => False) := by
  obtain ⟨k, rfl⟩ := Nat.exists_eq_add_of_le' hk
  rw [show k + 2 = (k + 1) + 1 from rfl, T__law_side, a_runT]
  refine w_trim ?_
  unfold b__law_side
  have hm0 := Int.emod_nonneg (r / 9) (show (3 : Int) ≠ 0 by decide)
  have hm1 := Int.emod_lt_of_pos (r / 9) (show (0 : Int) < 3 by decide)
  obtain ⟨m, hm⟩ : ∃ m : Nat, 1 + r / 9 % 3 = (m : Int) := ⟨(1 + r / 9 % 3).toNat, by omega⟩
  walk_at "auto*"
  · refine ok_forR (fun i E S' => Hid (∃ ps, (∀ p ∈ ps, PicL p) ∧ ps.length = i ∧ S' = S ++ [.lst ps] ∧ (∃ u : Nat → Option D, E = [some (.int r), some (.loc S.length), u 2]))) (hid ⟨[], by simp, rfl, rfl, exE rfl⟩) ?_ ?_
    · rintro i _ _ hi ⟨ps, hps, hl, rfl, u, rfl⟩
      have e0 : (0 : Int) + (i : Int) = (i : Int) := Int.zero_add _
      rw [w_gN, e0]
      walk_at "n"
      unfold l__law_side_1
      have hr2 : 0 ≤ r / 27 + 11 * (i : Int) := by omega
      replace hps := hid hps
      walk_at "auto*"
      refine ok_imp (t_lpicture (k := k + 1) (by omega) _ hr2 _) ?_ (fun _ _ h => h.elim)
      rintro d _ ⟨rfl, hd⟩
      replace hd := hid hd
      walk_at "auto*"
      refine hid ⟨ps ++ [d], ?_, by simp [hl], by rw [List.set_append_right _ _ (Nat.le_refl _), Nat.sub_self]; rfl, exE rfl⟩
      intro p hp
      rcases List.mem_append.mp hp with q | q
      · exact hps p q
      · rw [List.mem_singleton.mp q]; exact hd
    · rintro _ _ ⟨ps, hps, hl, rfl, u, rfl⟩
      have hsd : Side (grpP ps) := .inr ⟨ps, hps, by omega, rfl⟩
      have hlb := side_lb hsd S.length
      replace hsd := hid hsd
      unfold grpP at hlb
      clear hps
      walk_at "auto*"
      exact ⟨_, rfl, hsd⟩
  · refine ok_imp (t_lpicture (k := k + 1) (by omega) _ (by omega) _) ?_ (fun _ _ h => h.elim)
    rintro d _ ⟨rfl, hd⟩
    exact ⟨[], by simp, picl_lb hd _, rfl, hid (.inl hd)⟩
/-- over a list, with something that each result keeps -/
theorem ok_compR {one : Bool} {is : List Nat} {t : MT} {e : ME} {E0 : Evn} {S0 : Sto} {QL : List D → Sto → Prop} {X : Exn → Sto → Prop} (P : D → Prop) : ∀ (l acc : List D), acc.length + l.length ≤ 16777216 → (∀ y ∈ acc, P y) →
    (∀ x ∈ l, ∀ acc, OkP (stN one is x E0) fun E1 => OkO (t E1 (S0 ++ [.lst acc])) (fun b S' => S' = S0 ++ [.lst acc] ∧ b = true ∧ OkO (e E1 (S0 ++ [.lst acc])) (fun y S' => S' = S0 ++ [.lst acc] ∧ lb S0.length y = true ∧ P y) (fun _ _ => False)) (fun _ _ => False)) →
    (∀ ys, ys.length = acc.length + l.length → (∀ y ∈ ys, P y) → QL ys S0) → OkO (compD none one is t e E0 S0 l acc) QL X
  | [], acc, _, ha, _, q => by rw [compD, if_pos (show chkOk none _ from trivial)]; exact q acc rfl ha
  | x :: l, acc, hz, ha, h, q => by
    have h0 := h x List.mem_cons_self acc
    rw [compD, if_pos (show chkOk none _ from trivial)]
    cases h1 : stN one is x E0 with
    | none => rw [h1] at h0; exact h0.elim
    | some E1 =>
      rw [h1, w_some] at h0
      simp only
      cases h2 : t E1 (S0 ++ [.lst acc]) with
      | bad => rw [h2] at h0; exact h0.elim
      | ex _ _ => rw [h2] at h0; exact h0.elim
      | ok b S1 =>
        rw [h2, w_ok] at h0
        obtain ⟨rfl, rfl, h4⟩ := h0
        simp only
        rw [if_pos trivial, if_pos trivial]
        cases h5 : e E1 (S0 ++ [.lst acc]) with
        | bad => rw [h5] at h4; exact h4.elim
        | ex _ _ => rw [h5] at h4; exact h4.elim
        | ok y S2 =>
          rw [h5, w_ok] at h4
          obtain ⟨rfl, h6, h7⟩ := h4
          simp only [List.length_cons] at hz
          simp only
          rw [if_pos ⟨rfl, h6, sizeOk_of (by omega)⟩]
          refine ok_compR P l _ (by rw [List.length_append, List.length_singleton]; omega) ?_ (fun y hy => h y (List.mem_cons_of_mem _ hy)) ?_
          · intro z hz
            rcases List.mem_append.mp hz with w | w
            · exact ha z w
            · rw [List.mem_singleton.mp w]; exact h7
          · intro ys hl
            exact q ys (by rw [hl, List.length_append, List.length_singleton, List.length_cons]; omega)
def TxO (b : Nat) (y : D) : Prop := ∃ z : Tx, y = .str z ∧ (z.all fun c => decide (c ∈ PR)) = true ∧ z.length ≤ b
theorem join_flat : ∀ zs : List Tx, TL.joinL [] zs = zs.flatten
  | [] => rfl
  | [z] => by simp [TL.joinL]
  | y :: z :: r => by rw [TL.joinL, join_flat (z :: r)]; simp
theorem txo_list {b : Nat} : ∀ ys : List D, (∀ y ∈ ys, TxO b y) → ∃ zs : List Tx, ys = zs.map D.str ∧ ((TL.joinL [] zs).all fun c => decide (c ∈ PR)) = true ∧ (TL.joinL [] zs).length ≤ b * ys.length ∧ (zs.map (·.length)).sum ≤ b * ys.length
  | [], _ => ⟨[], rfl, rfl, by simp [TL.joinL], by simp⟩
  | y :: ys, h => by
    obtain ⟨z, rfl, h1, h2⟩ := h y (by simp)
    obtain ⟨zs, rfl, h3, h4, h5⟩ := txo_list ys fun q hq => h q (by simp [hq])
    refine ⟨z :: zs, rfl, ?_, ?_, ?_⟩
    · rw [join_flat] at *
      rw [List.flatten_cons, List.all_append, h1, h3]
      rfl
    · rw [join_flat] at *
      rw [List.flatten_cons, List.length_append, List.length_cons, Nat.mul_succ]
      omega
    · rw [List.map_cons, List.sum_cons, List.length_cons, Nat.mul_succ]
      omega
theorem lunits_fix {d : D} {n : Nat} {sg : Bool} (h : BfL d n sg) (hn : n ≤ 12) (r : Int) (S : Sto) : ∃ u : Int, suitB u n sg = true ∧ ∀ k, 1 ≤ k → (T k)._law_units [d, .int r] S = .ok (.int u) S := by
  obtain ⟨x, S', e, rfl, u, rfl, h1, h2⟩ := ok_get (t_lunits (k := 1) (by omega) h hn r S)
  refine ⟨u, ?_, ?_⟩
  · unfold suitB
    rw [decide_eq_true h1]
    by_cases q : u < 0
    · rw [h2 q]; simp
    · rw [decide_eq_true (show 0 ≤ u by omega)]; rfl
  · intro k hk
    obtain ⟨k, rfl⟩ := Nat.exists_eq_add_of_le' hk
    rw [show (1 : Nat) = 0 + 1 from rfl, T__law_units] at e
    rw [T__law_units]
    exact e
inductive Cnt (S : Sto) (r : Int) : D → D → Prop
  | str (z : Tx) : (z.all fun c => decide (c ∈ PR)) = true → z.length ≤ 20 → Cnt S r strP (.str z)
  | dec (p : Int × Nat) : Bn 19 p.1 → p.2 ≤ 18 → Cnt S r decP (dec p)
  | txt (n : Nat) (z : Tx) : 1 ≤ n → n ≤ 12 → (z.all fun c => decide (c ∈ PR)) = true → z.length = n → Cnt S r (textP n) (.str z)
  | pic (d : D) (n : Nat) (sg : Bool) (u : Int) : BfL d n sg → 1 ≤ n → n ≤ 12 → suitB u n sg = true → (∀ k, 1 ≤ k → (T k)._law_units [d, .int r] S = .ok (.int u) S) → Cnt S r d (.str (wrB d u n))
  | grp (ps : List D) (z : Tx) : (z.all fun c => decide (c ∈ PR)) = true → z.length ≤ 309 → Cnt S r (grpP ps) (.str z)
theorem ab_pr {z : Tx} (h : ∀ c ∈ z, c ∈ [97, 98, 32, 99, 57, 45]) : (z.all fun c => decide (c ∈ PR)) = true := by
  rw [List.all_eq_true]
  intro c hc
  have := h c hc
  simp only [List.mem_cons, List.not_mem_nil, or_false] at this
  rcases this with rfl | rfl | rfl | rfl | rfl | rfl <;> decide
theorem szP_le {d : D} {n : Nat} {sg : Bool} (h : BfL d n sg) (h1 : 1 ≤ n) (hn : n ≤ 12) : 1 ≤ szP d ∧ szP d ≤ 103 := by
  rcases h with ⟨b, w, f, h2, rfl, rfl⟩ | ⟨m, c, a, f, s, g0, g1, g2, g3, g4, g5, rfl, rfl⟩
  · unfold szP numQ
    cases sg <;> simp <;> omega
  · have h3 := sgl_le g5
    have h4 : 1 ≤ m.length := by
      cases m with
      | nil => simp at g0
      | cons x r => simp
    unfold szP edQ
    simp
    omega
theorem t_contentP {k : Nat} (hk : 4 ≤ k) {d : D} (h : PicL d) (r : Int) (hr : 0 ≤ r) (S : Sto) : OkO ((T k)._law_content [d, .int r] S) (fun c S' => S = S' ∧ Hid (Cnt S r d c ∧ TxO 103 c)) (fun _ _ => False) := by
  obtain ⟨k, rfl⟩ := Nat.exists_eq_add_of_le' hk
  rw [show k + 4 = (k + 3) + 1 from rfl, T__law_content]
  unfold b__law_content
  rcases pic_cases h with ⟨n, n1, n2, rfl⟩ | ⟨n, sg, n1, n2, hb⟩
  · obtain ⟨z, z1, z2, tw⟩ := t_wordA (k := k + 3) (by omega) n (by omega) [97, 98, 32, 99, 57, 45] (by decide) (by decide) (r / 20) (Int.ediv_nonneg hr (by decide)) S
    have hp := ab_pr z2
    have hc : Cnt S r (textP n) (.str z) ∧ TxO 103 (.str z) := ⟨.txt n z n1 n2 hp z1, z, rfl, hp, by omega⟩
    replace hc := hid hc
    clear hp z2 h z1
    unfold textP at *
    walk_at "auto*"
  · obtain ⟨u, hs, hu⟩ := lunits_fix hb n2 r S
    have hw := wr_parts hb n1 hs
    have hz := szP_le hb n1 n2
    have hc : Cnt S r d (.str (wrB d u n)) ∧ TxO 103 (.str (wrB d u n)) := ⟨.pic d n sg u hb n1 n2 hs hu, _, rfl, wr_pr hb n1 hs, by rw [hw.1]; exact hz.2⟩
    have tl := t_lwritten (k := k + 3) (by omega) hb n1 (by omega) u (suit_lt hs n2) S
    replace hu := hu (k + 3) (by omega)
    replace hc := hid hc
    clear hw hz hs h
    generalize wrB d u n = W at *
    rcases hb with ⟨bb, w, f, hn2, rfl, rfl⟩ | ⟨m, c, a2, f, s, g0, g1, g2, g3, g4, g5, rfl, rfl⟩
    · unfold numQ at *
      walk_at "auto*"
    · unfold edQ at *
      clear g0 g1 g2 g3 g4 g5
      walk_at "auto*"
theorem t_contentG {k : Nat} (hk : 5 ≤ k) {ps : List D} (h : ∀ p ∈ ps, PicL p) (hl : ps.length ≤ 3) (r : Int) (hr : 0 ≤ r) (S : Sto) : OkO ((T k)._law_content [grpP ps, .int r] S) (fun c S' => S = S' ∧ Hid (Cnt S r (grpP ps) c)) (fun _ _ => False) := by
  obtain ⟨k, rfl⟩ := Nat.exists_eq_add_of_le' hk
  rw [show k + 5 = (k + 4) + 1 from rfl, T__law_content]
  unfold b__law_content
  replace h := hid h
  have hr2 : 0 ≤ r / 3 + 5 := by omega
  have hg : Hid (∀ z : Tx, (z.all fun c => decide (c ∈ PR)) = true → z.length ≤ 309 → Cnt S r (grpP ps) (.str z)) := hid fun z h1 h2 => .grp ps z h1 h2
  generalize hP : grpP ps = P at *
  unfold grpP at hP
  subst hP
  walk_at "auto*"
  refine ok_compR (TxO 103) ps [] (by simp; omega) (by simp) ?_ ?_
  · intro x hx acc
    have hx2 := h x hx
    walk_at "go"
    refine ⟨divOk_of (by decide) (by decide), ?_⟩
    refine ok_imp (t_contentP (k := k + 4) (by omega) hx2 _ hr2 _) ?_ (fun _ _ h => h.elim)
    rintro c _ ⟨rfl, _, z, rfl, hz⟩
    exact ⟨rfl, rfl, z, rfl, hz⟩
  · intro ys hy hP
    obtain ⟨zs, rfl, z1, z2, z3⟩ := txo_list ys hP
    have hlen : (List.map D.str zs).length ≤ 3 := by rw [hy]; simpa using hl
    have jo : joinOk [] zs := joinOk_le (by simp at *; omega)
    have hc := hg (TL.joinL [] zs) z1 (by omega)
    replace hc := hid hc
    clear z1 hg hP
    walk_at "auto*"
/-! k23: what can be moved -/
mutual
theorem teq_comm : ∀ (x y : D), teq x y = teq y x
  | .non, y => by cases y <;> simp only [teq]
  | .bl a, y => by
    cases y <;> simp only [teq]
    all_goals exact BEq.comm
  | .int i, y => by
    cases y <;> simp only [teq]
    all_goals first | exact BEq.comm | exact decide_eq_decide.mpr eq_comm
  | .str a, y => by
    cases y <;> simp only [teq]
    all_goals exact decide_eq_decide.mpr eq_comm
  | .tup xs, y => by
    cases y <;> simp only [teq]
    all_goals exact teqs_comm xs _
  | .lst xs, y => by
    cases y <;> simp only [teq]
    all_goals exact teqs_comm xs _
  | .fz xs, y => by
    cases y <;> simp only [teq]
    all_goals exact teqs_comm xs _
  | .loc n, y => by cases y <;> simp only [teq]
  | .ty n, y => by cases y <;> simp only [teq]
  | .glo n, y => by cases y <;> simp only [teq]
  | .exo, y => by cases y <;> simp only [teq]
theorem teqs_comm : ∀ (xs ys : List D), teqs xs ys = teqs ys xs
  | [], ys => by cases ys <;> simp only [teqs]
  | x :: xs, ys => by
    cases ys with
    | nil => simp only [teqs]
    | cons y ys => simp only [teqs]; rw [teq_comm x y, teqs_comm xs ys]
end
theorem sgn_lo : ∀ s ∈ SGNS, (s.all fun c => decide (c < 0x110000)) = true := by decide
theorem mk_lo : ∀ x ∈ MK, x < 0x110000 := by decide
theorem bf_okd {d : D} {n : Nat} {sg : Bool} (h : BfL d n sg) {k : Nat} (hk : 0 < k) : okd d k = true := by
  rcases h with ⟨b, w, f, h2, rfl, rfl⟩ | ⟨m, c, a, f, s, g0, g1, g2, g3, g4, g5, rfl, rfl⟩
  · unfold numQ
    simp [okd, okds, hk]
  · have h1 := sgn_lo s g5
    have h2 : (m.all fun c => decide (c < 0x110000)) = true := by
      rw [List.all_eq_true]
      intro c hc
      exact decide_eq_true (mk_lo c (g3 c hc))
    unfold edQ
    simp only [okd, okds, h1, h2]
    simp [hk]
theorem picl_okd {d : D} (h : PicL d) {k : Nat} (hk : 0 < k) : okd d k = true := by
  rcases pic_cases h with ⟨n, _, _, rfl⟩ | ⟨n, sg, _, _, hb⟩
  · unfold textP
    simp [okd, okds, hk]
  · exact bf_okd hb hk
theorem okds_of {k : Nat} : ∀ ps : List D, (∀ p ∈ ps, okd p k = true) → okds ps k = true
  | [], _ => rfl
  | p :: ps, h => by
    simp only [okds]
    rw [h p (by simp), okds_of ps fun q hq => h q (by simp [hq])]
    rfl
theorem side_okd {d : D} (h : Side d) : okd d 64 = true := by
  rcases h with h | ⟨ps, h, _, rfl⟩
  · exact picl_okd h (by decide)
  · unfold grpP
    simp only [okd, okds]
    rw [okds_of ps fun p hp => picl_okd (h p hp) (by decide)]
    decide
theorem side_flat {d : D} (h : Side d) (S : Sto) : flat S d = d := by
  rcases h with (⟨m, _, _, rfl⟩ | ⟨b, w, f, _, _, _, rfl⟩ | ⟨b, _, f, s, _, _, rfl, _⟩) | ⟨ps, h, _, rfl⟩ <;> rfl
theorem side_eq {s t : D} (hs : Side s) (ht : Side t) (S : Sto) : gEq S s t = some (.bl (teq s t)) := by
  rw [gEq_teq (by rw [side_flat hs]; exact side_okd hs) (by rw [side_flat ht]; exact side_okd ht), side_flat hs, side_flat ht]
def kd : D → Tx
  | .tup (.str w :: _) => w
  | _ => []
def canB (s t : D) : Bool :=
  if kd s = [103, 114, 111, 117, 112] then (teq t s || decide (kd t = [116, 101, 120, 116]))
  else if kd t = [103, 114, 111, 117, 112] then false
  else if kd t = [116, 101, 120, 116] then (decide (kd s ∈ [[115, 116, 114, 105, 110, 103], [116, 101, 120, 116], [101, 100, 105, 116, 101, 100]]) || (decide (kd s = [110, 117, 109, 98, 101, 114]) && decide (frP s = 0)))
  else decide (kd s ∈ [[100, 101, 99, 105, 109, 97, 108], [110, 117, 109, 98, 101, 114], [101, 100, 105, 116, 101, 100]])
/-- the kinds -/
def Bare (d : D) : Prop := (∃ n, 1 ≤ n ∧ n ≤ 12 ∧ d = textP n) ∨ (∃ b w f, d = numQ b w f) ∨ (∃ m a f g, d = edQ m a f g) ∨ ∃ ps, d = grpP ps
theorem side_bare {d : D} (h : Side d) : Bare d := by
  rcases h with h | ⟨ps, _, _, rfl⟩
  · rcases pic_cases h with ⟨n, n1, n2, rfl⟩ | ⟨n, sg, n1, n2, ⟨b, w, f, _, _, rfl⟩ | ⟨m, c, a, f, s, _, _, _, _, _, _, _, rfl⟩⟩
    · exact .inl ⟨n, n1, n2, rfl⟩
    · exact .inr (.inl ⟨_, _, _, rfl⟩)
    · exact .inr (.inr (.inl ⟨_, _, _, _, rfl⟩))
  · exact .inr (.inr (.inr ⟨ps, rfl⟩))
def Src (d : D) : Prop := d = strP ∨ d = decP ∨ Side d
theorem t_can_move {k : Nat} (hk : 1 ≤ k) {s t : D} (hs : Src s) (ht : Side t) (S : Sto) : (T k).can_move [s, t] S = .ok (.bl (canB s t)) S := by
  obtain ⟨k, rfl⟩ := Nat.exists_eq_add_of_le' hk
  rw [T_can_move]
  apply ok_out
  unfold b_can_move
  have kt := side_bare ht
  have hE : (∃ ps, s = grpP ps) → ∀ S, gEq S t s = some (.bl (teq t s)) := fun ⟨ps, e⟩ S => by
    rcases hs with rfl | rfl | hs
    · cases e
    · cases e
    · exact side_eq ht hs S
  have ks : s = strP ∨ s = decP ∨ Bare s := by
    rcases hs with h | h | h
    · exact .inl h
    · exact .inr (.inl h)
    · exact .inr (.inr (side_bare h))
  clear ht hs
  generalize hC : canB s t = C
  replace hC := hid hC
  rcases ks with rfl | rfl | ⟨n2, _, _, rfl⟩ | ⟨b2, w2, f2, rfl⟩ | ⟨m2, a2, f2, g2, rfl⟩ | ⟨qs, rfl⟩
  case inr.inr.inr.inr.inr =>
    replace hE := hE ⟨_, rfl⟩
    generalize hB : teq t (grpP qs) = B at hE
    replace hB := hid hB
    rcases kt with ⟨n, _, _, rfl⟩ | ⟨b, w, f, rfl⟩ | ⟨m, a, f, g, rfl⟩ | ⟨ps, rfl⟩ <;>
    simp only [textP, numQ, edQ, grpP] at hE ⊢ <;>
    cases B <;>
    walk_at "autom*" <;>
    (replace hC : canB _ _ = C := hC; replace hB : teq _ _ = _ := hB; rw [← hC]; unfold canB; rw [hB]; simp [kd, textP, numQ, edQ, grpP])
  all_goals
    clear hE
    rcases kt with ⟨n, _, _, rfl⟩ | ⟨b, w, f, rfl⟩ | ⟨m, a, f, g, rfl⟩ | ⟨ps, rfl⟩ <;>
    simp only [textP, numQ, edQ, grpP, strP, decP] <;>
    walk_at "autom*" <;>
    (replace hC : canB _ _ = C := hC; rw [← hC]; simp [canB, kd, textP, numQ, edQ, grpP, strP, decP, frP, memB]; try exact decide_eq_decide.mpr Iff.rfl)
theorem t_lcan {k : Nat} (hk : 1 ≤ k) {s t : D} (hs : Src s) (ht : Side t) (S : Sto) : (T k)._law_can [s, t] S = .ok (.bl (canB s t)) S := by
  obtain ⟨k, rfl⟩ := Nat.exists_eq_add_of_le' hk
  rw [T__law_can]
  apply ok_out
  unfold b__law_can
  have kt := side_bare ht
  have hE : (∃ ps, s = grpP ps) → ∀ S, gEq S s t = some (.bl (teq t s)) := fun ⟨ps, e⟩ S => by
    rcases hs with rfl | rfl | hs
    · cases e
    · cases e
    · rw [teq_comm]; exact side_eq hs ht S
  have ks : s = strP ∨ s = decP ∨ Bare s := by
    rcases hs with h | h | h
    · exact .inl h
    · exact .inr (.inl h)
    · exact .inr (.inr (side_bare h))
  clear ht hs
  generalize hC : canB s t = C
  replace hC := hid hC
  rcases ks with rfl | rfl | ⟨n2, _, _, rfl⟩ | ⟨b2, w2, f2, rfl⟩ | ⟨m2, a2, f2, g2, rfl⟩ | ⟨qs, rfl⟩
  case inr.inr.inr.inr.inr =>
    replace hE := hE ⟨_, rfl⟩
    rcases kt with ⟨n, _, _, rfl⟩ | ⟨b, w, f, rfl⟩ | ⟨m, a, f, g, rfl⟩ | ⟨ps, rfl⟩
    case inr.inr.inr =>
      generalize hB : teq (grpP ps) (grpP qs) = B at hE
      replace hB := hid hB
      simp only [grpP] at hE ⊢
      walk_at "autom*"
      replace hC : canB _ _ = C := hC
      replace hB : teq _ _ = _ := hB
      rw [← hC]; unfold canB; rw [hB]; simp [kd, grpP]
    all_goals
      clear hE
      simp only [textP, numQ, edQ, grpP]
      walk_at "autom*"
      all_goals (replace hC : canB _ _ = C := hC; rw [← hC]; simp [canB, kd, textP, numQ, edQ, grpP, teq, teqs, memB])
  all_goals
    clear hE
    rcases kt with ⟨n, _, _, rfl⟩ | ⟨b, w, f, rfl⟩ | ⟨m, a, f, g, rfl⟩ | ⟨ps, rfl⟩ <;>
    simp only [textP, numQ, edQ, grpP, strP, decP] <;>
    walk_at "autom*" <;>
    (replace hC : canB _ _ = C := hC; rw [← hC]; simp [canB, kd, textP, numQ, edQ, grpP, strP, decP, frP, memB]; try exact decide_eq_decide.mpr Iff.rfl)
/-! k23: moved, by the program and by the law -/
theorem t_lvalueD {k : Nat} (hk : 1 ≤ k) (c : D) (r : D) (S : Sto) : (T k)._law_value [decP, c, r] S = .ok c S := by
  obtain ⟨k, rfl⟩ := Nat.exists_eq_add_of_le' hk
  rw [T__law_value]
  apply ok_out
  unfold b__law_value decP
  walk_at "auto*"
theorem t_lvalueB {k : Nat} (hk : 2 ≤ k) {s : D} {n : Nat} {sg : Bool} (h : BfL s n sg) (hn : n ≤ 12) (c : D) (r u : Int) (S : Sto) (hu : ∀ k, 1 ≤ k → (T k)._law_units [s, .int r] S = .ok (.int u) S) :
    (T k)._law_value [s, c, .int r] S = .ok (dec (nrm (frP s) u)) S := by
  obtain ⟨k, rfl⟩ := Nat.exists_eq_add_of_le' hk
  have hf := frP_le h
  have tl := t_ldec (k := k + 1) (by omega) u (frP s) (by omega)
  replace hu := hu (k + 1) (by omega)
  rw [show k + 2 = (k + 1) + 1 from rfl, T__law_value]
  apply ok_out
  unfold b__law_value
  generalize dec (nrm (frP s) u) = V at *
  rcases h with ⟨b, w, f, hn2, rfl, rfl⟩ | ⟨m, c2, a2, f, g, g0, g1, g2, g3, g4, g5, rfl, rfl⟩
  · have e : frP (numQ sg w f) = f := by show ((f : Int)).toNat = f; omega
    rw [e] at tl
    clear e hf
    unfold numQ at *
    walk_at "auto*"
  · have e : frP (edQ m a2 f g) = f := by show ((f : Int)).toNat = f; omega
    rw [e] at tl
    clear e hf g0 g1 g2 g3 g4 g5
    unfold edQ at *
    walk_at "auto*"
def Mv (k : Nat) (S : Sto) (r : Int) (s c t : D) : Prop := ∃ z : Tx, (T k).moved [s, c, t] S = .ok (.str z) S ∧ (T k)._law_moved [s, c, t, .int r] S = .ok (.str z) S ∧ (kd t ≠ [103, 114, 111, 117, 112] → (T k).holds [t, .str z] S = .ok (.bl true) S)
theorem mv_grp {k : Nat} (hk : 1 ≤ k) (S : Sto) (r : Int) (s : D) (z : Tx) (ps : List D) : Mv k S r s (.str z) (grpP ps) := by
  obtain ⟨k, rfl⟩ := Nat.exists_eq_add_of_le' hk
  refine ⟨z, ?_, ?_, fun h => absurd rfl h⟩
  · rw [T_moved]
    apply ok_out
    unfold b_moved grpP
    walk_at "auto*"
  · rw [T__law_moved]
    apply ok_out
    unfold b__law_moved grpP
    walk_at "auto*"
theorem mv_text {k : Nat} (hk : 8 ≤ k) (S : Sto) (r : Int) (s : D) (z : Tx) (n : Nat) (n2 : n ≤ 12) (hz : (z.all fun c => decide (c ∈ PR)) = true) (hl : z.length ≤ 400)
    (hs : (∃ w xs, s = .tup (.str w :: xs) ∧ w ≠ [110, 117, 109, 98, 101, 114]) ∨ ∃ b w f, s = numQ b w f) : Mv k S r s (.str z) (textP n) := by
  obtain ⟨k, rfl⟩ := Nat.exists_eq_add_of_le' hk
  have key : ∀ y : Tx, (y.all fun c => decide (c ∈ PR)) = true → y.length ≤ 400 → (T (k + 8)).holds [textP n, .str (padT y n)] S = .ok (.bl true) S := fun y h1 h2 => by
    have l1 := padT_len y n
    rw [t_holdsT (by omega) n (padT y n) (by omega) S, padT_all h1 (by decide), l1, decide_eq_true rfl]
    rfl
  rcases hs with ⟨w, xs, rfl, hw⟩ | ⟨b, w, f, rfl⟩
  · have t1 := t_padded (k := k + 7) (by omega) z n (by omega) (by omega)
    have t2 := t_lpad (k := k + 7) (by omega) z n (by omega) (by omega)
    refine ⟨padT z n, ?_, ?_, fun _ => key z hz hl⟩
    · rw [show k + 8 = (k + 7) + 1 from rfl, T_moved]
      apply ok_out
      unfold b_moved textP
      clear key hz t2
      generalize padT z n = Y at *
      walk_at "auto*"
      all_goals exact fun h => absurd h hw
    · rw [show k + 8 = (k + 7) + 1 from rfl, T__law_moved]
      apply ok_out
      unfold b__law_moved textP
      clear key hz t1
      generalize padT z n = Y at *
      walk_at "auto*"
      all_goals exact fun h => absurd h hw
  · have hy : ((if b then z.drop 1 else z).all fun c => decide (c ∈ PR)) = true := by
      cases b
      · exact hz
      · rw [List.all_eq_true] at *
        intro c hc
        exact hz c (List.mem_of_mem_drop hc)
    have hl2 : (if b then z.drop 1 else z).length ≤ 400 := by
      cases b
      · exact hl
      · show (z.drop 1).length ≤ 400
        rw [List.length_drop]; omega
    have t0 := t_figures_of (k := k + 7) (by omega) b w f z (by omega)
    have t1 := t_padded (k := k + 7) (by omega) (if b then z.drop 1 else z) n (by omega) (by omega)
    have t2 := t_lpad (k := k + 7) (by omega) (if b then z.drop 1 else z) n (by omega) (by omega)
    refine ⟨padT (if b then z.drop 1 else z) n, ?_, ?_, fun _ => key _ hy hl2⟩
    · rw [show k + 8 = (k + 7) + 1 from rfl, T_moved]
      apply ok_out
      unfold b_moved textP
      unfold numQ at *
      clear key hz t2 hy hl2
      generalize padT (if b then z.drop 1 else z) n = Y at *
      generalize (if b then z.drop 1 else z) = Z at *
      walk_at "auto*"
    · rw [show k + 8 = (k + 7) + 1 from rfl, T__law_moved]
      apply ok_out
      unfold b__law_moved textP
      unfold numQ at *
      clear key hz t1 t0 hy hl2
      cases b
      · simp only [Bool.false_eq_true, if_false] at *
        walk_at "auto*"
      · simp only [if_true] at *
        walk_at "auto*"
theorem mv_num {k : Nat} (hk : 8 ≤ k) (S : Sto) (r : Int) (s c t : D) {n : Nat} {sg : Bool} (h : BfL t n sg) (h1 : 1 ≤ n) (hn : n ≤ 12) (p : Int × Nat) (hp : Bn 19 p.1) (hp2 : p.2 ≤ 1000)
    (hs : (s = decP ∧ c = dec p) ∨ ∃ w xs, s = .tup (.str w :: xs) ∧ w ≠ [100, 101, 99, 105, 109, 97, 108] ∧ (∀ k, 6 ≤ k → (T k).value_of [s, c] S = .ok (dec p) S) ∧ ∀ k, 2 ≤ k → (T k)._law_value [s, c, .int r] S = .ok (dec p) S) : Mv k S r s c t := by
  obtain ⟨k, rfl⟩ := Nat.exists_eq_add_of_le' hk
  have t1 := t_cut_to (k := k + 7) (by omega) h h1 hn p hp hp2 S
  have t2 := t_lcut (k := k + 7) (by omega) h h1 hn p hp hp2 S
  have hL := lim_b hn
  have hsu := suit_cut (u := unF p (frP t) false) (sg := sg) hL.1
  have hw := wr_parts h h1 hsu
  have hz := szP_le h h1 hn
  have th := t_holds (k := k + 8) (by omega) h h1 (by omega) (wrB t (cutD (unF p (frP t) false) n sg) n) (by omega) S
  rw [rd_wr h h1 hsu] at th
  refine ⟨wrB t (cutD (unF p (frP t) false) n sg) n, ?_, ?_, fun _ => th⟩
  · rw [show k + 8 = (k + 7) + 1 from rfl, T_moved]
    apply ok_out
    unfold b_moved
    clear th hw t2
    generalize wrB t (cutD (unF p (frP t) false) n sg) n = W at *
    generalize dec p = P at *
    have ht : (∃ xs, t = .tup (.str [110, 117, 109, 98, 101, 114] :: xs)) ∨ (∃ xs, t = .tup (.str [101, 100, 105, 116, 101, 100] :: xs)) := by
      rcases h with ⟨b, w, f, hn2, rfl, rfl⟩ | ⟨m, c2, a2, f, g, g0, g1, g2, g3, g4, g5, rfl, rfl⟩
      · exact .inl ⟨_, rfl⟩
      · exact .inr ⟨_, rfl⟩
    clear hsu hz h
    rcases hs with ⟨rfl, rfl⟩ | ⟨w, xs, rfl, hw, hv, _⟩
    · unfold decP
      rcases ht with ⟨ys, rfl⟩ | ⟨ys, rfl⟩
      · walk_at "auto*"
      · walk_at "auto*"
    · replace hv := hv (k + 7) (by omega)
      rcases ht with ⟨ys, rfl⟩ | ⟨ys, rfl⟩
      · walk_at "auto*"
        all_goals exact fun h => absurd h hw
      · walk_at "auto*"
        all_goals exact fun h => absurd h hw
  · rw [show k + 8 = (k + 7) + 1 from rfl, T__law_moved]
    apply ok_out
    unfold b__law_moved
    clear th hw t1
    have hv : (T (k + 7))._law_value [s, c, .int r] S = .ok (dec p) S := by
      rcases hs with ⟨rfl, rfl⟩ | ⟨w, xs, rfl, hw, _, hv⟩
      · exact t_lvalueD (by omega) _ _ S
      · exact hv _ (by omega)
    generalize wrB t (cutD (unF p (frP t) false) n sg) n = W at *
    generalize dec p = P at *
    have ht : (∃ xs, t = .tup (.str [110, 117, 109, 98, 101, 114] :: xs)) ∨ (∃ xs, t = .tup (.str [101, 100, 105, 116, 101, 100] :: xs)) := by
      rcases h with ⟨b, w, f, hn2, rfl, rfl⟩ | ⟨m, c2, a2, f, g, g0, g1, g2, g3, g4, g5, rfl, rfl⟩
      · exact .inl ⟨_, rfl⟩
      · exact .inr ⟨_, rfl⟩
    clear hsu hz h hs
    rcases ht with ⟨ys, rfl⟩ | ⟨ys, rfl⟩
    · walk_at "auto*"
    · walk_at "auto*"
theorem t_move {k : Nat} (hk : 8 ≤ k) {s t c : D} (S : Sto) (r : Int) (hc : Cnt S r s c) (ht : Side t) (hb : canB s t = true) : Mv k S r s c t := by
  have hcase : (∃ ps, t = grpP ps) ∨ (∃ n, 1 ≤ n ∧ n ≤ 12 ∧ t = textP n) ∨ (∃ n sg, 1 ≤ n ∧ n ≤ 12 ∧ BfL t n sg) := by
    rcases ht with h | ⟨ps, _, _, rfl⟩
    · exact .inr (pic_cases h)
    · exact .inl ⟨ps, rfl⟩
  have kb : ∀ {d n sg}, BfL d n sg → kd d = [110, 117, 109, 98, 101, 114] ∨ kd d = [101, 100, 105, 116, 101, 100] := fun h => by
    rcases h with ⟨b, w, f, hn2, rfl, rfl⟩ | ⟨m, c2, a2, f, g, g0, g1, g2, g3, g4, g5, rfl, rfl⟩
    · exact .inl rfl
    · exact .inr rfl
  rcases hcase with ⟨ps, rfl⟩ | ⟨n, n1, n2, rfl⟩ | ⟨n, sg, n1, n2, h⟩
  · cases hc with
    | dec p _ _ => simp [canB, kd, decP, grpP] at hb
    | str z _ _ => exact mv_grp (by omega) S r _ z ps
    | txt m z _ _ _ _ => exact mv_grp (by omega) S r _ z ps
    | pic _ m sg u _ _ _ _ _ => exact mv_grp (by omega) S r _ _ ps
    | grp qs z _ _ => exact mv_grp (by omega) S r _ z ps
  · cases hc with
    | dec p _ _ => simp [canB, kd, decP, textP] at hb
    | str z h1 h2 => exact mv_text hk S r _ z n n2 h1 (by omega) (.inl ⟨_, _, rfl, by decide⟩)
    | txt m z _ _ h1 h2 => exact mv_text hk S r _ z n n2 h1 (by omega) (.inl ⟨_, _, rfl, by decide⟩)
    | grp qs z h1 h2 => exact mv_text hk S r _ z n n2 h1 (by omega) (.inl ⟨_, _, rfl, by decide⟩)
    | pic _ m sg u hB m1 m2 hs _ =>
      have hw := wr_parts hB m1 hs
      have hz := szP_le hB m1 m2
      refine mv_text hk S r _ _ n n2 (wr_pr hB m1 hs) (by omega) ?_
      rcases hB with ⟨b, w, f, hn2, rfl, rfl⟩ | ⟨m, c2, a2, f, g, g0, g1, g2, g3, g4, g5, rfl, rfl⟩
      · exact .inr ⟨_, _, _, rfl⟩
      · exact .inl ⟨_, _, rfl, by decide⟩
  · have kt := kb h
    have hbad : ∀ w, kd s = w → w ∈ [[115, 116, 114, 105, 110, 103], [116, 101, 120, 116]] → False := fun w e hw => by
      unfold canB at hb
      rw [e] at hb
      simp only [List.mem_cons, List.not_mem_nil, or_false] at hw
      rcases hw with rfl | rfl <;> rcases kt with kt | kt <;> rw [kt] at hb <;> simp at hb
    cases hc with
    | dec p h1 h2 => exact mv_num hk S r _ _ t h n1 n2 p h1 (by omega) (.inl ⟨rfl, rfl⟩)
    | str z h1 h2 => exact (hbad [115, 116, 114, 105, 110, 103] rfl (by decide)).elim
    | txt m z _ _ h1 h2 => exact (hbad [116, 101, 120, 116] rfl (by decide)).elim
    | grp qs z h1 h2 =>
      exfalso
      unfold canB at hb
      rw [show kd (grpP qs) = [103, 114, 111, 117, 112] from rfl, if_pos rfl] at hb
      have e : teq t (grpP qs) = false := by
        rcases h with ⟨b, w, f, hn2, rfl, rfl⟩ | ⟨m, c2, a2, f, g, g0, g1, g2, g3, g4, g5, rfl, rfl⟩
        · simp [numQ, grpP, teq, teqs]
        · simp [edQ, grpP, teq, teqs]
      rw [e] at hb
      rcases kt with kt | kt <;> rw [kt] at hb <;> simp at hb
    | pic _ m sg2 u hB m1 m2 hs hu =>
      have hw := wr_parts hB m1 hs
      have hz := szP_le hB m1 m2
      have hb19 : Bn 19 u := by
        have := (suit_nat hs).1
        unfold Bn
        have := Nat.pow_le_pow_right (n := 10) (by decide) (show m ≤ 19 by omega)
        omega
      have hf := frP_le hB
      refine mv_num hk S r _ _ t h n1 n2 (nrm (frP s) u) (nrm_bn hb19) (by have := (nrm_spec (frP s) u).1; omega) (.inr ?_)
      have hh : ∃ w xs, s = .tup (.str w :: xs) ∧ w ≠ [100, 101, 99, 105, 109, 97, 108] := by
        rcases hB with ⟨b, w, f, hn2, rfl, rfl⟩ | ⟨m, c2, a2, f, g, g0, g1, g2, g3, g4, g5, rfl, rfl⟩
        · exact ⟨_, _, rfl, by decide⟩
        · exact ⟨_, _, rfl, by decide⟩
      obtain ⟨w, xs, e, hw2⟩ := hh
      refine ⟨w, xs, e, hw2, ?_, ?_⟩
      · intro k hk
        have tv := t_value_of hk hB m1 (by omega) (wrB s u m) (by omega) S
        rw [rd_wr hB m1 hs] at tv
        exact tv
      · intro k hk
        exact t_lvalueB hk hB m2 _ r u S hu
/-! k23: the law -/
theorem t_content {k : Nat} (hk : 5 ≤ k) {s : D} (h : Src s) (r : Int) (hr : 0 ≤ r) (S : Sto) : OkO ((T k)._law_content [s, .int r] S) (fun c S' => S = S' ∧ Hid (Cnt S r s c)) (fun _ _ => False) := by
  rcases h with rfl | rfl | h | ⟨ps, h, hl, rfl⟩
  · obtain ⟨k, rfl⟩ := Nat.exists_eq_add_of_le' hk
    rw [show k + 5 = (k + 4) + 1 from rfl, T__law_content]
    unfold b__law_content
    have h20 := Int.emod_nonneg r (show (20 : Int) ≠ 0 by decide)
    have h21 := Int.emod_lt_of_pos r (show (0 : Int) < 20 by decide)
    obtain ⟨m, hm⟩ : ∃ m : Nat, 1 + r % 20 = (m : Int) := ⟨(1 + r % 20).toNat, by omega⟩
    obtain ⟨z, z1, z2, tw⟩ := t_wordA (k := k + 4) (by omega) m (by omega) [97, 98, 32, 99, 57, 45] (by decide) (by decide) (r / 20) (Int.ediv_nonneg hr (by decide)) S
    have hc : Cnt S r strP (.str z) := .str z (ab_pr z2) (by omega)
    replace hc := hid hc
    clear z2 z1
    unfold strP at *
    walk_at "auto*"
  · obtain ⟨k, rfl⟩ := Nat.exists_eq_add_of_le' hk
    rw [show k + 5 = (k + 4) + 1 from rfl, T__law_content]
    unfold b__law_content
    obtain ⟨p, _, p2, p3, tn⟩ := t_number (k := k + 4) (by omega) r hr S
    have hc : Cnt S r decP (dec p) := .dec p p2 p3
    replace hc := hid hc
    clear p2 p3
    unfold decP at *
    generalize dec p = P at *
    walk_at "auto*"
  · refine ok_imp (t_contentP (by omega) h r hr S) ?_ (fun _ _ h => h)
    rintro c _ ⟨rfl, h, _⟩
    exact ⟨rfl, hid h⟩
  · exact t_contentG hk h hl r hr S
theorem src_kd {s : D} (h : Src s) : ∀ S, gIx S s (.int 0) = some (.str (kd s)) := by
  intro S
  rcases h with rfl | rfl | h
  · rfl
  · rfl
  · rcases side_bare h with ⟨n, _, _, rfl⟩ | ⟨b, w, f, rfl⟩ | ⟨m, a, f, g, rfl⟩ | ⟨ps, rfl⟩ <;> rfl
theorem src_grp {s : D} (h : Src s) (hk : kd s = [103, 114, 111, 117, 112]) : Side s := by
  rcases h with rfl | rfl | h
  · exact absurd hk (by decide)
  · exact absurd hk (by decide)
  · exact h
theorem cnt_num {S : Sto} {r : Int} {s c : D} (h : Cnt S r s c) (hk : kd s = [110, 117, 109, 98, 101, 114]) : ∃ b w f z, s = numQ b w f ∧ c = .str z ∧ z.length ≤ 400 := by
  cases h with
  | str z _ _ => exact absurd hk (by simp [kd, strP])
  | dec p _ _ => exact absurd hk (by simp [kd, decP])
  | txt n z _ _ _ _ => exact absurd hk (by simp [kd, textP])
  | grp ps z _ _ => exact absurd hk (by simp [kd, grpP])
  | pic _ n sg u hB n1 n2 hs _ =>
    have hw := wr_parts hB n1 hs
    have hz := szP_le hB n1 n2
    rcases hB with ⟨b, w, f, hn2, rfl, rfl⟩ | ⟨m, c2, a2, f, g, g0, g1, g2, g3, g4, g5, rfl, rfl⟩
    · exact ⟨_, _, _, _, rfl, rfl, by omega⟩
    · exact absurd hk (by simp [kd, edQ])
theorem law_true (ns : List Int) (hn : ns.length ≤ 63) : ∃ S', (T 9).law [.fz (ns.map D.int)] [] = .ok (.bl true) S' := by
  suffices h : OkO ((T 9).law [.fz (ns.map D.int)] []) (fun d _ => d = .bl true) (fun _ _ => False) by
    obtain ⟨d, S', e, rfl⟩ := ok_get h
    exact ⟨S', e⟩
  rw [show (9 : Nat) = 8 + 1 from rfl, T_law]
  unfold b_law
  walk_at "auto*"
  have hm : (if (if (ns.length : Int) < 14 then (ns.length : Int) else 14) > 1 then if (ns.length : Int) < 14 then (ns.length : Int) else 14 else 1).toNat ≤ 14 := by
    split <;> split <;> omega
  generalize (if (if (ns.length : Int) < 14 then (ns.length : Int) else 14) > 1 then if (ns.length : Int) < 14 then (ns.length : Int) else 14 else 1).toNat = m at hm ⊢
  refine ok_forR (fun i E S' => Hid ((∃ u : Nat → Option D, E = [some (.fz (ns.map D.int)), u 1, u 2, u 3, u 4, u 5, u 6, u 7, u 8, u 9, u 10]))) (hid (exE rfl)) ?_ ?_
  · rintro i _ S hi ⟨u, rfl⟩
    have tc := t_cell (k := 8) (by omega) ns i
    generalize ns.getD i 0 = cell at tc
    obtain ⟨r, hr, tr⟩ := t_rich (k := 8) (by omega) cell i (by omega) S
    have e0 : (0 : Int) + (i : Int) = (i : Int) := Int.zero_add _
    rw [w_gN, e0]
    walk_at "n"
    unfold l_law_1
    refine ok_cut (fun E S' => Hid (S = S' ∧ (∃ u : Nat → Option D, E = [some (.fz (ns.map D.int)), some (.int (i : Nat)), some (.int r), u 3, u 4, u 5, u 6, u 7, u 8, u 9, u 10]))) ?_ ?_
    · walk_at "auto*"
      exact hid ⟨rfl, exE rfl⟩
    clear tr tc u
    rintro _ _ ⟨rfl, u, rfl⟩
    refine ok_cut (fun E S' => Hid (S = S' ∧ ∃ s, Src s ∧ (∃ u : Nat → Option D, E = [some (.fz (ns.map D.int)), some (.int (i : Nat)), some (.int r), some s, u 4, u 5, u 6, u 7, u 8, u 9, u 10]))) ?_ ?_
    · have hr3 : 0 ≤ r / 3 := by omega
      walk_at "auto*"
      refine ok_imp (t_side (k := 8) (by omega) (r / 3) hr3 S) ?_ (fun _ _ h => h.elim)
      rintro d1 _ ⟨rfl, h1⟩
      replace h1 := hid h1
      walk_at "auto*"
      refine ok_imp (t_side (k := 8) (by omega) (r / 3) hr3 S) ?_ (fun _ _ h => h.elim)
      rintro d2 _ ⟨rfl, h2⟩
      have hx : ∃ s, Src s ∧ [D.tup [.str [115, 116, 114, 105, 110, 103]], D.tup [.str [100, 101, 99, 105, 109, 97, 108]], d1, d2][(r % 4).toNat]? = some s := by
        have b1 := Int.emod_nonneg r (show (4 : Int) ≠ 0 by decide)
        have b2 := Int.emod_lt_of_pos r (show (0 : Int) < 4 by decide)
        have : (r % 4).toNat = 0 ∨ (r % 4).toNat = 1 ∨ (r % 4).toNat = 2 ∨ (r % 4).toNat = 3 := by omega
        rcases this with h | h | h | h <;> rw [h]
        · exact ⟨_, .inl rfl, rfl⟩
        · exact ⟨_, .inr (.inl rfl), rfl⟩
        · exact ⟨_, .inr (.inr h1), rfl⟩
        · exact ⟨_, .inr (.inr h2), rfl⟩
      obtain ⟨s, hs, hx⟩ := hx
      replace h2 := hid h2
      replace hs := hid hs
      walk_at "auto*"
      exact hid ⟨rfl, s, hs, exE rfl⟩
    clear u
    rintro _ _ ⟨rfl, s, hs, u, rfl⟩
    refine ok_cut (fun E S' => Hid (S = S' ∧ ∃ t, Side t ∧ (∃ u : Nat → Option D, E = [some (.fz (ns.map D.int)), some (.int (i : Nat)), some (.int r), some s, some t, u 5, u 6, u 7, u 8, u 9, u 10]))) ?_ ?_
    · have hr3 : 0 ≤ r / 1001 := by omega
      replace hs := hid hs
      walk_at "auto*"
      refine ok_imp (t_side (k := 8) (by omega) (r / 1001) hr3 S) ?_ (fun _ _ h => h.elim)
      rintro t _ ⟨rfl, ht⟩
      exact hid ⟨rfl, t, ht, exE rfl⟩
    clear u
    rintro _ _ ⟨rfl, t, ht, u, rfl⟩
    have is := src_kd hs
    refine ok_cut (fun E S' => Hid (S = S' ∧ ∃ t, Side t ∧ (∃ u : Nat → Option D, E = [some (.fz (ns.map D.int)), some (.int (i : Nat)), some (.int r), some s, some t, u 5, u 6, u 7, u 8, u 9, u 10]))) ?_ ?_
    · have hg := src_grp hs
      replace hg := hid hg
      replace ht := hid ht
      replace hs := hid hs
      walk_at "auto*"
      all_goals first | exact hid ⟨rfl, s, hg (by assumption), exE rfl⟩ | exact hid ⟨rfl, t, ht, exE rfl⟩
    clear u ht t
    rintro _ _ ⟨rfl, t, ht, u, rfl⟩
    have it := src_kd (s := t) (.inr (.inr ht))
    have tca := t_can_move (k := 8) (by omega) hs ht
    have tlc := t_lcan (k := 8) (by omega) hs ht
    have hmv := fun (c : D) (hc : Cnt S (r / 13) s c) hb => t_move (k := 8) (by omega) S (r / 13) hc ht hb
    replace hmv := hid hmv
    generalize hcb : canB s t = cb at tca tlc
    replace hcb := hid hcb
    unfold q_law_3
    refine ok_cut (fun E S' => Hid (S = S' ∧ (∃ u : Nat → Option D, E = [some (.fz (ns.map D.int)), some (.int (i : Nat)), some (.int r), some s, some t, some (.bl cb), u 6, u 7, u 8, u 9, u 10]))) ?_ ?_
    · replace hs := hid hs
      replace ht := hid ht
      walk_at "auto*"
      exact hid ⟨rfl, exE rfl⟩
    clear u
    rintro _ _ ⟨rfl, u, rfl⟩
    refine ok_cut (fun E S' => Hid (S = S' ∧ (∃ u : Nat → Option D, E = [some (.fz (ns.map D.int)), some (.int (i : Nat)), some (.int r), some s, some t, some (.bl cb), u 6, u 7, u 8, u 9, u 10]))) ?_ ?_
    · replace hs := hid hs
      replace ht := hid ht
      walk_at "auto*"
      all_goals exact hid ⟨rfl, exE rfl⟩
    clear u tca tlc
    rintro _ _ ⟨rfl, u, rfl⟩
    refine ok_cut (fun E S' => Hid (S = S' ∧ ∃ c, Cnt S (r / 13) s c ∧ (∃ u : Nat → Option D, E = [some (.fz (ns.map D.int)), some (.int (i : Nat)), some (.int r), some s, some t, some (.bl cb), some c, u 7, u 8, u 9, u 10]))) ?_ ?_
    · have hr3 : 0 ≤ r / 13 := by omega
      have hs2 := hs
      replace hs := hid hs
      replace ht := hid ht
      walk_at "auto*"
      refine ok_imp (t_content (k := 8) (by omega) hs2 (r / 13) hr3 S) ?_ (fun _ _ h => h.elim)
      rintro c _ ⟨rfl, hc⟩
      exact hid ⟨rfl, c, hc, exE rfl⟩
    clear u
    rintro _ _ ⟨rfl, c, hc, u, rfl⟩
    replace hs := hid hs
    replace ht := hid ht
    refine ok_cut (fun E S' => Hid (S = S' ∧ (∃ u : Nat → Option D, E = [some (.fz (ns.map D.int)), some (.int (i : Nat)), some (.int r), some s, u 4, u 5, some c, u 7, u 8, u 9, u 10]))) ?_ ?_
    · cases cb with
      | false =>
        replace hc := hid hc
        walk_at "auto*"
        exact hid ⟨rfl, exE rfl⟩
      | true =>
        obtain ⟨z, m1, m2, m3⟩ := hmv c hc hcb
        generalize kd t = kt at it m3
        replace hc := hid hc
        by_cases q : kt = [103, 114, 111, 117, 112]
        · subst q
          clear m3
          walk_at "auto*"
          exact hid ⟨rfl, exE rfl⟩
        · replace m3 := m3 q
          walk_at "auto*"
          exact hid ⟨rfl, exE rfl⟩
    clear u hmv it ht hcb cb t
    rintro _ _ ⟨rfl, u, rfl⟩
    unfold q_law_2
    refine ok_cut (fun E S' => Hid (S = S' ∧ (∃ u : Nat → Option D, E = [some (.fz (ns.map D.int)), some (.int (i : Nat)), some (.int r), u 3, u 4, u 5, u 6, u 7, u 8, u 9, u 10]))) ?_ ?_
    · have hcn := cnt_num hc
      replace hc := hid hc
      generalize kd s = ks at is hcn
      by_cases q : ks = [110, 117, 109, 98, 101, 114]
      · obtain ⟨b, w, f, z, rfl, rfl, hz⟩ := hcn q
        have tf := t_figures_of (k := 8) (by omega) b w f z (by omega)
        clear hc q hs is hcn
        unfold numQ at *
        cases b <;> walk_at "auto*"
        all_goals exact hid ⟨rfl, exE rfl⟩
      · clear hcn
        walk_at "auto*"
        exact hid ⟨rfl, exE rfl⟩
    clear u is hs hc c s
    rintro _ _ ⟨rfl, u, rfl⟩
    refine ok_cut (fun E S' => Hid (S = S' ∧ ∃ p, PicL p ∧ (∃ u : Nat → Option D, E = [some (.fz (ns.map D.int)), some (.int (i : Nat)), some (.int r), u 3, u 4, u 5, u 6, some p, u 8, u 9, u 10]))) ?_ ?_
    · have hr3 : 0 ≤ r / 17 := by omega
      walk_at "auto*"
      refine ok_imp (t_lpicture (k := 8) (by omega) (r / 17) hr3 S) ?_ (fun _ _ h => h.elim)
      rintro p _ ⟨rfl, hp⟩
      exact hid ⟨rfl, p, hp, exE rfl⟩
    clear u
    rintro _ _ ⟨rfl, p, hp, u, rfl⟩
    refine ok_cut (fun E S' => Hid (S = S' ∧ ∃ v : Int × Nat, Bn 19 v.1 ∧ v.2 ≤ 18 ∧ (∃ u : Nat → Option D, E = [some (.fz (ns.map D.int)), some (.int (i : Nat)), some (.int r), u 3, u 4, u 5, u 6, some p, some (dec v), u 9, u 10]))) ?_ ?_
    · obtain ⟨v, _, v2, v3, tn⟩ := t_number (k := 8) (by omega) (r / 19) (by omega) S
      replace v2 := hid v2
      replace v3 := hid v3
      replace hp := hid hp
      generalize hV : dec v = V at tn
      walk_at "auto*"
      subst hV
      exact hid ⟨rfl, v, v2, v3, exE rfl⟩
    clear u
    rintro _ _ ⟨rfl, v, v2, v3, u, rfl⟩
    have ip := src_kd (s := p) (.inr (.inr (.inl hp)))
    refine ok_cut (fun E S' => Hid (S = S' ∧ (∃ u : Nat → Option D, E = [some (.fz (ns.map D.int)), some (.int (i : Nat)), some (.int r), u 3, u 4, u 5, u 6, u 7, u 8, u 9, u 10]))) ?_ ?_
    · rcases pic_cases hp with ⟨n, n1, n2, rfl⟩ | ⟨n, sg, n1, n2, hb⟩
      · replace ip : ∀ S, gIx S (textP n) (.int 0) = some (.str [116, 101, 120, 116]) := ip
        clear hp v2 v3
        generalize textP n = P at *
        generalize dec v = V at *
        walk_at "auto*"
        exact hid ⟨rfl, exE rfl⟩
      · have t1 := t_cut_to (k := 8) (by omega) hb n1 n2 v v2 (by omega)
        have t2 := t_lcut (k := 8) (by omega) hb n1 n2 v v2 (by omega)
        have t3 := t_stored (k := 8) (by omega) hb n1 n2 v v2 (by omega) (decide (r % 2 = 0))
        have t4 := t_lstored (k := 8) (by omega) hb n1 n2 v v2 (by omega) (decide (r % 2 = 0))
        have hk : kd p ≠ [116, 101, 120, 116] := by
          rcases hb with ⟨b, w, f, hn2, rfl, rfl⟩ | ⟨m, c2, a2, f, g, g0, g1, g2, g3, g4, g5, rfl, rfl⟩
          · simp [kd, numQ]
          · simp [kd, edQ]
        have hsv : ∃ d : D, (∀ S, gNe S d d = some (.bl false)) ∧ (if suitB (unF v (frP p) (decide (r % 2 = 0))) n sg = true then D.str (wrB p (unF v (frP p) (decide (r % 2 = 0))) n) else .non) = d := by
          split
          · exact ⟨_, fun S => by rw [g_neS]; simp, rfl⟩
          · exact ⟨_, fun S => rfl, rfl⟩
        obtain ⟨d, hd, e⟩ := hsv
        rw [e] at t3 t4
        clear e hb hp v2 v3
        generalize wrB p (cutD (unF v (frP p) false) n sg) n = W at *
        generalize kd p = kp at *
        generalize dec v = V at *
        walk_at "auto*"
        all_goals exact hid ⟨rfl, exE rfl⟩
    clear u ip hp v2 v3 v p
    rintro _ _ ⟨rfl, u, rfl⟩
    unfold q_law_1
    have h20 := Int.emod_nonneg (r / 23) (show (12 : Int) ≠ 0 by decide)
    have h21 := Int.emod_lt_of_pos (r / 23) (show (0 : Int) < 12 by decide)
    obtain ⟨m2, hm2⟩ : ∃ m : Nat, r / 23 % 12 = (m : Int) := ⟨(r / 23 % 12).toNat, by omega⟩
    have t1 := t_padded (k := 8) (by omega) [97, 98, 99, 100, 101] m2 (by decide) (by omega)
    have t2 := t_lpad (k := 8) (by omega) [97, 98, 99, 100, 101] m2 (by decide) (by omega)
    generalize padT [97, 98, 99, 100, 101] m2 = Z at *
    walk_at "auto*"
    exact hid (exE rfl)
  · rintro _ S ⟨u, rfl⟩
    walk_at "auto*"
end Law
open PySem PySem.W PySem.Calls PyProof.Rows
set_option maxRecDepth 100000 in
set_option maxHeartbeats 0 in
theorem PySem.Challenge.cw_cardwright_k23_moves_and_stores_holds : PySem.Challenge.rw_cardwright_k23_moves_and_stores.Holds := by
  w_on; o_law
  refine HandSHeadRun.head_any (r := OpenLaw.row PySem.Challenge.rw_cardwright_k23_moves_and_stores) (q := view (OpenLaw.row PySem.Challenge.rw_cardwright_k23_moves_and_stores).prog [57]) (H := Law.hk) (ob := Law.ob) (M := 4080) (loose := Law.loose) (d := HandSHeadRun.topDef (OpenLaw.row PySem.Challenge.rw_cardwright_k23_moves_and_stores).prog 57) (kwd := []) Law.ob_eq
    (by kernel_rfl) (fun s => by kernel_rfl) Law.run (by kernel_rfl) (by kernel_rfl) (by kernel_rfl) (by rfl) (by first | assumption | decide +kernel) (by decide +kernel) ⟨rfl, rfl, rfl, rfl, rfl, by decide +kernel⟩ ?hw ?hc
  case hw => w_witness2
  case hc =>
    refine PD.walk_W (l := PySem.Challenge.rw_cardwright_k23_moves_and_stores) (n := 63) (k := PD.lv (8 + 1)) (x := "script") (m := (Law.T (8 + 1)).law) rfl (by decide) (by kernel_rfl) ⟨rfl, by decide, by decide⟩ ?F Law.law_true
    intro w mg fa h Y G hmg0
    obtain ⟨K, KX, c, c2, c3⟩ := Y
    have hmg : mg ("law" : PySem.Str) = some (.ref fa) := by
      have e : (HandSHeadRun.topDef (OpenLaw.row PySem.Challenge.rw_cardwright_k23_moves_and_stores).prog 57).name = ("law" : PySem.Str) := by kernel_rfl
      rw [← e]
      exact hmg0
    have x := Law.facts KX G c c2 c3
    obtain ⟨fd, F⟩ := c.def_ 45 (d := Law.e_law) rfl
    refine ⟨K, fd, KX, fun s u => L2.FunD.bindsA (ps := ["script"]) F (fun _ _ _ _ _ _ us hl => match us, hl with | [_], _ => rfl) s [u] rfl, fun base _ _ => ?_⟩
    exact PD.law_fn F (He.glo_ok KX G (c.fact 45 rfl)) hmg Law.sc_law fun f cdv A outer s H E hr => Law.d_law (Law.gs_all x 8) (PD.lv_ge 8) hr
#print axioms PySem.Challenge.cw_cardwright_k23_moves_and_stores_holds
