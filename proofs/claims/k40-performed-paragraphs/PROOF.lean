import PyProof.Rows.All
import Wide.All
import OpenK.AllK
import Wide.FinOn
import HandS.ForMost
import HandS.ForExc
import HandS.Wide
import HandS.WideMore
import HandS.Defaults
import HandS.CallSlots
import HandS.IsInst
import HandS.Flow
import HandS.TupAny
import HandS.StrMore
import HandS.HeadHook2
import HandS.Set
import KE.KStateDown
import Lean
import HandS.Head0
import HandS.Head1
import HandS.Head2
import HandS.HeadEnd
import HandS.HeadHook1
import HandS.WordsExc
import HandS.TryOnly
import HandS.ExcIs
import HandS.ExcField
import HandS.Codes
import HandS.Style
import HandS.StrSplit
import PyProof.StrBlock2
import PyProof.StrOps2
import PyProof.Rows.StrPadWhole
import HandS.Comp
import HandS.Iter
import HandS.Deep
import HandS.Replace
import HandS.ReplaceLit
import HandS.ReplaceList
import HandS.FStr
import HandS.HeadHook3
import HandS.WordsDict
import HandS.TupLe
import KE.GoesMore
import HandS.SortInts
import HandS.DictComp
import HandS.Property
import HandS.Conv
import PyProof.ListStr
import HandS.ExcInit
import PySem.Challenge.RW_cardwright_k40_performed_paragraphs
set_option Elab.async false
set_option linter.all false
set_option maxRecDepth 100000
set_option maxHeartbeats 4000000
/-! PyD: values as plain data, a store that is counted, defs as plain functions. -/
namespace PD
open PySem PySem.Spec PyProof.Rows L2

abbrev Tx := List Nat
/-- a size within the line; no decision of it is ever run -/
def sizeOk (n : Nat) : Prop := n ≤ sizeLine
/-- plain data; loc n: the n-th thing of the store -/
inductive D where
  | non | bl (b : Bool) | int (i : Int) | str (x : Tx) | tup (xs : List D) | lst (xs : List D) | fz (xs : List D) | loc (n : Nat) | ty (n : String) | glo (x : String) | exo
inductive Ob where
  | lst (xs : List D)
  | dic (kvs : List (Key × D))
  | set (b : Bool) (S : Int → Bool) (n : Nat)
  | ins (c : Str) (N : List Str) (ds : List D)
abbrev Sto := List Ob
/-- an error's class -/
inductive Cl where
  | own (x : String) | bi (n : String)
structure Exn where
  cls : Cl
  fs : Option (List Str × List D)
inductive Out (α : Type) where
  | ok (a : α) (S : Sto)
  | ex (e : Exn) (S : Sto)
  | bad
def Out.bind {α β : Type} : Out α → (α → Sto → Out β) → Out β
  | .ok a S, f => f a S
  | .ex e S, _ => .ex e S
  | .bad, _ => .bad
@[simp] theorem bind_ok {α β : Type} (a : α) (S : Sto) (f : α → Sto → Out β) : (Out.ok a S).bind f = f a S := rfl
@[simp] theorem bind_ex {α β : Type} (e : Exn) (S : Sto) (f : α → Sto → Out β) : (Out.ex e S).bind f = .ex e S := rfl
@[simp] theorem bind_bad {α β : Type} (f : α → Sto → Out β) : (Out.bad : Out α).bind f = .bad := rfl
abbrev Evn := List (Option D)
abbrev ME := Evn → Sto → Out D
abbrev MT := Evn → Sto → Out Bool
abbrev MA := Evn → Sto → Out (List D)
/-- a def's own meaning -/
abbrev MF := List D → Sto → Out D
inductive SO where
  | nx (E : Evn) (S : Sto)
  | rt (d : D) (S : Sto)
  | bk (E : Evn) (S : Sto)
  | ct (E : Evn) (S : Sto)
  | ex (e : Exn) (E : Evn) (S : Sto)
  | bad
abbrev MS := Evn → Sto → SO
def Out.toS {α : Type} (E : Evn) : Out α → (α → Sto → SO) → SO
  | .ok a S, f => f a S
  | .ex e S, _ => .ex e E S
  | .bad, _ => .bad
@[simp] theorem toS_ok {α : Type} (E : Evn) (a : α) (S : Sto) (f : α → Sto → SO) : (Out.ok a S).toS E f = f a S := rfl
@[simp] theorem toS_ex {α : Type} (E : Evn) (e : Exn) (S : Sto) (f : α → Sto → SO) : (Out.ex e S).toS E f = .ex e E S := rfl
@[simp] theorem toS_bad {α : Type} (E : Evn) (f : α → Sto → SO) : (Out.bad : Out α).toS E f = .bad := rfl

/-! ### what the data stand for -/
def KL (K : PySem.W.Frag) (a : Addr) (xs : List V) : Prop :=
  ∃ (o : Obj) (its : Array Value) (n : Nat), K.lookup a = some o ∧ o.cls = .type "list" ∧ o.dict = none ∧ o.data = .seq its n ∧ its.size ≤ sizeLine ∧ Vals xs its.toList
def LstP (ρ : List Addr) (H : Hp) (a : Addr) (vs : List V) : Prop := a ∉ ρ ∧ H a = some (.lst vs)
/-- a list that is locked, or stands in the written part -/
def FzP (K : PySem.W.Frag) (H : Hp) (a : Addr) (vs : List V) : Prop := (∃ o, H a = some (.frz o (.lst vs))) ∨ KL K a vs
def sv (x : Tx) : V := .str ⟨x.toArray⟩
mutual
def DV (K : PySem.W.Frag) (ρ : List Addr) (H : Hp) : D → V → Prop
  | .non, v => v = .non
  | .bl b, v => v = .bl b
  | .int i, v => v = .int i
  | .str x, v => v = sv x
  | .tup xs, v => ∃ a vs, v = .ref a ∧ SqT K H a vs ∧ DVs K ρ H xs vs
  | .lst xs, v => ∃ a vs, v = .ref a ∧ LstP ρ H a vs ∧ DVs K ρ H xs vs
  | .fz xs, v => ∃ a vs, v = .ref a ∧ FzP K H a vs ∧ DVs K ρ H xs vs
  | .loc n, v => ∃ a, v = .ref a ∧ ρ[n]? = some a
  | .ty n, v => v = .ty n
  | .glo x, v => v = .ref (He.ga K x)
  | .exo, v => ∃ a, v = .ref a
def DVs (K : PySem.W.Frag) (ρ : List Addr) (H : Hp) : List D → List V → Prop
  | [], vs => vs = []
  | x :: xs, vs => ∃ v r, vs = v :: r ∧ DV K ρ H x v ∧ DVs K ρ H xs r
end
/-- the world goes on -/
structure Ext (K : PySem.W.Frag) (ρ : List Addr) (H : Hp) (ρ' : List Addr) (H' : Hp) : Prop where
  pre : ∃ t, ρ' = ρ ++ t
  tup : ∀ a vs, SqT K H a vs → SqT K H' a vs
  oth : ∀ a u, a ∉ ρ → H a = some u → a ∉ ρ' ∧ H' a = some u
  fz : ∀ a o vs, H a = some (.frz o (.lst vs)) → H' a = some (.frz o (.lst vs))
  xd : ∀ a fs, H a = some (.xd fs) → H' a = some (.xd fs)
theorem Ext.refl {K : PySem.W.Frag} {ρ : List Addr} {H : Hp} : Ext K ρ H ρ H := ⟨⟨[], by simp⟩, fun _ _ h => h, fun _ _ h g => ⟨h, g⟩, fun _ _ _ h => h, fun _ _ h => h⟩
theorem Ext.trans {K : PySem.W.Frag} {ρ ρ1 ρ2 : List Addr} {H H1 H2 : Hp} (a : Ext K ρ H ρ1 H1) (b : Ext K ρ1 H1 ρ2 H2) : Ext K ρ H ρ2 H2 := by
  obtain ⟨t, rfl⟩ := a.pre
  obtain ⟨u, rfl⟩ := b.pre
  refine ⟨⟨t ++ u, by simp⟩, fun x vs h => b.tup x vs (a.tup x vs h), fun x vs h g => ?_, fun x o vs h => b.fz x o vs (a.fz x o vs h), fun x fs h => b.xd x fs (a.xd x fs h)⟩
  obtain ⟨h1, g1⟩ := a.oth x vs h g
  exact b.oth x vs h1 g1
theorem Ext.lst {K : PySem.W.Frag} {ρ ρ' : List Addr} {H H' : Hp} (e : Ext K ρ H ρ' H') (a : Addr) (vs : List V) (h : a ∉ ρ) (g : H a = some (.lst vs)) : a ∉ ρ' ∧ H' a = some (.lst vs) := e.oth a _ h g
/-- what data ask of it -/
structure Ex0 (K : PySem.W.Frag) (ρ : List Addr) (H : Hp) (ρ' : List Addr) (H' : Hp) : Prop where
  pre : ∃ t, ρ' = ρ ++ t
  tup : ∀ a vs, SqT K H a vs → SqT K H' a vs
  lst : ∀ a vs, a ∉ ρ → H a = some (.lst vs) → a ∉ ρ' ∧ H' a = some (.lst vs)
  fz : ∀ a o vs, H a = some (.frz o (.lst vs)) → H' a = some (.frz o (.lst vs))
theorem Ext.to0 {K : PySem.W.Frag} {ρ ρ' : List Addr} {H H' : Hp} (e : Ext K ρ H ρ' H') : Ex0 K ρ H ρ' H' := ⟨e.pre, e.tup, fun a vs h g => e.oth a _ h g, e.fz⟩
theorem LstP.mono0 {K : PySem.W.Frag} {ρ ρ' : List Addr} {H H' : Hp} (e : Ex0 K ρ H ρ' H') {a : Addr} {vs : List V} (h : LstP ρ H a vs) : LstP ρ' H' a vs := e.lst a vs h.1 h.2
theorem FzP.mono0 {K : PySem.W.Frag} {ρ ρ' : List Addr} {H H' : Hp} (e : Ex0 K ρ H ρ' H') {a : Addr} {vs : List V} (h : FzP K H a vs) : FzP K H' a vs := by
  rcases h with ⟨o, h⟩ | h
  · exact .inl ⟨o, e.fz a o vs h⟩
  · exact .inr h
theorem LstP.mono {K : PySem.W.Frag} {ρ ρ' : List Addr} {H H' : Hp} (e : Ext K ρ H ρ' H') {a : Addr} {vs : List V} (h : LstP ρ H a vs) : LstP ρ' H' a vs := e.lst a vs h.1 h.2
theorem LstP.seq {K : PySem.W.Frag} {ρ : List Addr} {H : Hp} {a : Addr} {vs : List V} (h : LstP ρ H a vs) : SqL K H a vs := SqL.of h.2
theorem FzP.mono {K : PySem.W.Frag} {ρ ρ' : List Addr} {H H' : Hp} (e : Ext K ρ H ρ' H') {a : Addr} {vs : List V} (h : FzP K H a vs) : FzP K H' a vs := by
  rcases h with ⟨o, h⟩ | h
  · exact .inl ⟨o, e.fz a o vs h⟩
  · exact .inr h
theorem FzP.seq {K : PySem.W.Frag} {H : Hp} {a : Addr} {vs : List V} (h : FzP K H a vs) : SqL K H a vs := by
  rcases h with ⟨o, h⟩ | h
  · exact .inl (.inr ⟨o, h⟩)
  · exact .inr h
theorem FzP.of {K : PySem.W.Frag} {H : Hp} {a : Addr} {vs : List V} (h : SqL K H a vs) : (∃ o, H a = some (.frz o (.lst vs))) ∨ KL K a vs ∨ H a = some (.lst vs) := by
  rcases h with (h | ⟨o, h⟩) | h
  · exact .inr (.inr h)
  · exact .inl ⟨o, h⟩
  · exact .inr (.inl h)
mutual
theorem DV.mono0 {K : PySem.W.Frag} {ρ ρ' : List Addr} {H H' : Hp} (e : Ex0 K ρ H ρ' H') : ∀ (d : D) (v : V), DV K ρ H d v → DV K ρ' H' d v
  | .non, _, h => by simp only [DV] at h ⊢; exact h
  | .bl _, _, h => by simp only [DV] at h ⊢; exact h
  | .int _, _, h => by simp only [DV] at h ⊢; exact h
  | .str _, _, h => by simp only [DV] at h ⊢; exact h
  | .ty _, _, h => by simp only [DV] at h ⊢; exact h
  | .glo _, _, h => by simp only [DV] at h ⊢; exact h
  | .exo, _, h => by simp only [DV] at h ⊢; exact h
  | .tup xs, _, h => by
    simp only [DV] at h ⊢
    obtain ⟨a, vs, rfl, h1, h2⟩ := h
    exact ⟨a, vs, rfl, e.tup _ _ h1, DVs.mono0 e xs vs h2⟩
  | .lst xs, _, h => by
    simp only [DV] at h ⊢
    obtain ⟨a, vs, rfl, h1, h2⟩ := h
    exact ⟨a, vs, rfl, h1.mono0 e, DVs.mono0 e xs vs h2⟩
  | .fz xs, _, h => by
    simp only [DV] at h ⊢
    obtain ⟨a, vs, rfl, h1, h2⟩ := h
    exact ⟨a, vs, rfl, h1.mono0 e, DVs.mono0 e xs vs h2⟩
  | .loc n, _, h => by
    simp only [DV] at h ⊢
    obtain ⟨a, rfl, h1⟩ := h
    obtain ⟨t, rfl⟩ := e.pre
    exact ⟨a, rfl, by rw [List.getElem?_append_left (List.getElem?_eq_some_iff.mp h1).1]; exact h1⟩
theorem DVs.mono0 {K : PySem.W.Frag} {ρ ρ' : List Addr} {H H' : Hp} (e : Ex0 K ρ H ρ' H') : ∀ (ds : List D) (vs : List V), DVs K ρ H ds vs → DVs K ρ' H' ds vs
  | [], _, h => by simp only [DVs] at h ⊢; exact h
  | x :: xs, _, h => by
    simp only [DVs] at h ⊢
    obtain ⟨v, r, rfl, h1, h2⟩ := h
    exact ⟨v, r, rfl, DV.mono0 e x v h1, DVs.mono0 e xs r h2⟩
end
theorem DV.mono {K : PySem.W.Frag} {ρ ρ' : List Addr} {H H' : Hp} (e : Ext K ρ H ρ' H') (d : D) (v : V) (h : DV K ρ H d v) : DV K ρ' H' d v := DV.mono0 e.to0 d v h
theorem DVs.mono {K : PySem.W.Frag} {ρ ρ' : List Addr} {H H' : Hp} (e : Ext K ρ H ρ' H') (ds : List D) (vs : List V) (h : DVs K ρ H ds vs) : DVs K ρ' H' ds vs := DVs.mono0 e.to0 ds vs h
/-- the pairs of a dict -/
def KVR (K : PySem.W.Frag) (ρ : List Addr) (H : Hp) : List (Key × D) → List (Key × V) → Prop
  | [], us => us = []
  | (k, d) :: r, us => ∃ v t, us = (k, v) :: t ∧ DV K ρ H d v ∧ KVR K ρ H r t
theorem KVR.mono0 {K : PySem.W.Frag} {ρ ρ' : List Addr} {H H' : Hp} (e : Ex0 K ρ H ρ' H') : ∀ (ds : List (Key × D)) (vs : List (Key × V)), KVR K ρ H ds vs → KVR K ρ' H' ds vs
  | [], _, h => h
  | (k, d) :: r, _, ⟨v, t, h1, h2, h3⟩ => ⟨v, t, h1, DV.mono0 e d v h2, KVR.mono0 e r t h3⟩
theorem KVR.mono {K : PySem.W.Frag} {ρ ρ' : List Addr} {H H' : Hp} (e : Ext K ρ H ρ' H') (ds : List (Key × D)) (vs : List (Key × V)) (h : KVR K ρ H ds vs) : KVR K ρ' H' ds vs := KVR.mono0 e.to0 ds vs h
theorem DVs.length {K : PySem.W.Frag} {ρ : List Addr} {H : Hp} : ∀ {ds : List D} {vs : List V}, DVs K ρ H ds vs → ds.length = vs.length
  | [], _, h => by simp only [DVs] at h; subst h; rfl
  | x :: xs, _, h => by
    simp only [DVs] at h
    obtain ⟨v, r, rfl, h1, h2⟩ := h
    simp [DVs.length h2]
theorem DVs.get {K : PySem.W.Frag} {ρ : List Addr} {H : Hp} : ∀ {ds : List D} {vs : List V} {i : Nat} {d : D}, DVs K ρ H ds vs → ds[i]? = some d → ∃ v, vs[i]? = some v ∧ DV K ρ H d v
  | [], _, _, _, _, e => by simp at e
  | x :: xs, _, i, d, h, e => by
    simp only [DVs] at h
    obtain ⟨v, r, rfl, h1, h2⟩ := h
    cases i with
    | zero => simp at e; subst e; exact ⟨v, rfl, h1⟩
    | succ i =>
      obtain ⟨u, q1, q2⟩ := DVs.get (i := i) (d := d) h2 (by simpa using e)
      exact ⟨u, by simpa using q1, q2⟩
theorem DVs.getV {K : PySem.W.Frag} {ρ : List Addr} {H : Hp} {ds : List D} {vs : List V} {i : Nat} {v : V} (h : DVs K ρ H ds vs) (e : vs[i]? = some v) : ∃ d, ds[i]? = some d ∧ DV K ρ H d v := by
  have hl := h.length
  have hi : i < vs.length := (List.getElem?_eq_some_iff.mp e).1
  obtain ⟨u, q1, q2⟩ := h.get (i := i) (d := ds[i]'(by omega)) (List.getElem?_eq_getElem _)
  rw [e] at q1
  cases q1
  exact ⟨_, List.getElem?_eq_getElem _, q2⟩
theorem DVs.append {K : PySem.W.Frag} {ρ : List Addr} {H : Hp} : ∀ {ds es : List D} {vs us : List V}, DVs K ρ H ds vs → DVs K ρ H es us → DVs K ρ H (ds ++ es) (vs ++ us)
  | [], _, _, _, h, g => by simp only [DVs] at h; subst h; simpa using g
  | x :: xs, _, _, _, h, g => by
    simp only [DVs] at h
    obtain ⟨v, r, rfl, h1, h2⟩ := h
    simp only [List.cons_append, DVs]
    exact ⟨v, _, rfl, h1, DVs.append h2 g⟩
theorem DVs.take {K : PySem.W.Frag} {ρ : List Addr} {H : Hp} : ∀ {ds : List D} {vs : List V} (n : Nat), DVs K ρ H ds vs → DVs K ρ H (ds.take n) (vs.take n)
  | _, _, 0, _ => by simp [DVs]
  | [], _, n + 1, h => by simp only [DVs] at h; subst h; simp [DVs]
  | x :: xs, _, n + 1, h => by
    simp only [DVs] at h
    obtain ⟨v, r, rfl, h1, h2⟩ := h
    simp only [List.take_succ_cons, DVs]
    exact ⟨v, _, rfl, h1, DVs.take n h2⟩
theorem DVs.drop {K : PySem.W.Frag} {ρ : List Addr} {H : Hp} : ∀ {ds : List D} {vs : List V} (n : Nat), DVs K ρ H ds vs → DVs K ρ H (ds.drop n) (vs.drop n)
  | _, _, 0, h => by simpa using h
  | [], _, n + 1, h => by simp only [DVs] at h; subst h; simp [DVs]
  | x :: xs, _, n + 1, h => by
    simp only [DVs] at h
    obtain ⟨v, r, rfl, h1, h2⟩ := h
    simpa using DVs.drop n h2
theorem DVs.set {K : PySem.W.Frag} {ρ : List Addr} {H : Hp} {d : D} {v : V} (q : DV K ρ H d v) : ∀ {ds : List D} {vs : List V} (n : Nat), DVs K ρ H ds vs → DVs K ρ H (ds.set n d) (vs.set n v)
  | [], _, _, h => by simp only [DVs] at h; subst h; simp [DVs]
  | x :: xs, _, 0, h => by
    simp only [DVs] at h
    obtain ⟨w, r, rfl, h1, h2⟩ := h
    simp only [List.set_cons_zero, DVs]
    exact ⟨v, r, rfl, q, h2⟩
  | x :: xs, _, n + 1, h => by
    simp only [DVs] at h
    obtain ⟨w, r, rfl, h1, h2⟩ := h
    simp only [List.set_cons_succ, DVs]
    exact ⟨w, _, rfl, h1, DVs.set q n h2⟩
theorem DVs.reverse {K : PySem.W.Frag} {ρ : List Addr} {H : Hp} : ∀ {ds : List D} {vs : List V}, DVs K ρ H ds vs → DVs K ρ H ds.reverse vs.reverse
  | [], _, h => by simp only [DVs] at h; subst h; simp [DVs]
  | x :: xs, _, h => by
    simp only [DVs] at h
    obtain ⟨w, r, rfl, h1, h2⟩ := h
    simp only [List.reverse_cons]
    exact (DVs.reverse h2).append (by simp only [DVs]; exact ⟨w, [], rfl, h1, rfl⟩)
theorem DVs.one {K : PySem.W.Frag} {ρ : List Addr} {H : Hp} {d : D} {v : V} (h : DV K ρ H d v) : DVs K ρ H [d] [v] := by simp only [DVs]; exact ⟨v, [], rfl, h, rfl⟩

/-- a set of whole numbers; b: sets are walked in the order of the text -/
def SetRB (b : Bool) (h : Heap) (a : Addr) (S : Int → Bool) (n : Nat) : Prop := ∃ w : World, w.params.followText "set-order" = b ∧ L2.SetR w h a S n
def SetHO (b : Bool) (a : Addr) (S : Int → Bool) (n : Nat) : HO := .ext fun h => SetRB b h a S n
/-- what stands at a place of the store -/
def OR (K : PySem.W.Frag) (ρ : List Addr) (H : Hp) (a : Addr) : Ob → Prop
  | .lst xs => ∃ vs, H a = some (.lst vs) ∧ DVs K ρ H xs vs
  | .dic kvs => ∃ us : List (Key × V), H a = some (.dK us) ∧ KVR K ρ H kvs us
  | .set b S n => H a = some (SetHO b a S n)
  | .ins c N ds => ∃ dx vs, H a = some (.ins (He.ga K c) dx (N.zip vs)) ∧ DVs K ρ H ds vs
structure Rel (K : PySem.W.Frag) (ρ : List Addr) (S : Sto) (H : Hp) : Prop where
  len : ρ.length = S.length
  nd : ρ.Nodup
  at_ : ∀ (n : Nat) (o : Ob) (a : Addr), S[n]? = some o → ρ[n]? = some a → OR K ρ H a o
/-- an error as it lies -/
def Cl.val (K : PySem.W.Frag) : Cl → Value
  | .own x => .ref (He.ga K x)
  | .bi n => .type n
def XR (K : PySem.W.Frag) (ρ : List Addr) (H : Hp) (e : Exn) (c : Value) (dx : Option Addr) : Prop :=
  c = e.cls.val K ∧ match e.fs with
    | none => dx = none
    | some fs => ∃ d vs, dx = some d ∧ H d = some (.xd (fs.1.zip vs)) ∧ DVs K ρ H fs.2 vs
abbrev XQ := Value → Option Addr → Hp → Prop
/-- how an outcome lies in the heap -/
def Post {α β : Type} (K : PySem.W.Frag) (R : List Addr → Hp → α → β → Prop) (ρ : List Addr) (H : Hp) (Q : β → Hp → Prop) (Z : XQ) : Out α → Prop
  | .ok d S' => ∀ ρ' H' v, Rel K ρ' S' H' → Ext K ρ H ρ' H' → R ρ' H' d v → Q v H'
  | .ex e S' => ∀ ρ' H' c dx, Rel K ρ' S' H' → Ext K ρ H ρ' H' → XR K ρ' H' e c dx → Z c dx H'
  | .bad => False
theorem Post.start {α β : Type} {K : PySem.W.Frag} {R : List Addr → Hp → α → β → Prop} {ρ ρ1 : List Addr} {H H1 : Hp} {Q : β → Hp → Prop} {Z : XQ} {o : Out α} (h : Post K R ρ H Q Z o) (e : Ext K ρ H ρ1 H1) : Post K R ρ1 H1 Q Z o := by
  cases o with
  | ok d S => exact fun ρ' H' v r x => h ρ' H' v r (e.trans x)
  | ex d S => exact fun ρ' H' c dx r x => h ρ' H' c dx r (e.trans x)
  | bad => exact h
theorem Post.imp {α β : Type} {K : PySem.W.Frag} {R : List Addr → Hp → α → β → Prop} {ρ : List Addr} {H : Hp} {Q Q' : β → Hp → Prop} {Z : XQ} {o : Out α} (h : Post K R ρ H Q Z o) (i : ∀ v H', Q v H' → Q' v H') : Post K R ρ H Q' Z o := by
  cases o with
  | ok d S => exact fun ρ' H' v r x y => i _ _ (h ρ' H' v r x y)
  | ex d S => exact h
  | bad => exact h
theorem Post.bind {α β γ δ : Type} {K : PySem.W.Frag} {R : List Addr → Hp → α → β → Prop} {R2 : List Addr → Hp → γ → δ → Prop} {ρ : List Addr} {H : Hp} {Q : δ → Hp → Prop} {Z : XQ} {o : Out α} {f : α → Sto → Out γ} (h : Post K R2 ρ H Q Z (o.bind f)) :
    Post K R ρ H (fun v H1 => ∃ ρ1 S1 d, Rel K ρ1 S1 H1 ∧ Ext K ρ H ρ1 H1 ∧ R ρ1 H1 d v ∧ Post K R2 ρ1 H1 Q Z (f d S1)) Z o := by
  cases o with
  | ok d S => exact fun ρ' H' v r x y => ⟨ρ', S, d, r, x, y, Post.start h x⟩
  | ex d S => exact h
  | bad => exact h
/-- what is wanted of an error; what holds meanwhile -/
structure WW (K : PySem.W.Frag) where
  w : WX
  g : List Addr → Hp → Prop
  gm : ∀ ρ H ρ' H', Ext K ρ H ρ' H' → g ρ H → g ρ' H'
  /-- a name that holds a caught error, where there is one: nothing is stored meanwhile -/
  fix : Option (Nat × Addr)
def WW.of {K : PySem.W.Frag} (w : WX) : WW K := ⟨w, fun _ _ => True, fun _ _ _ _ _ _ => trivial, none⟩
theorem XR.mono {K : PySem.W.Frag} {ρ ρ' : List Addr} {H H' : Hp} (x : Ext K ρ H ρ' H') {e : Exn} {c : Value} {dx : Option Addr} (h : XR K ρ H e c dx) : XR K ρ' H' e c dx := by
  obtain ⟨h1, h2⟩ := h
  refine ⟨h1, ?_⟩
  cases q : e.fs with
  | none => rw [q] at h2; exact h2
  | some fs =>
    rw [q] at h2
    obtain ⟨d, vs, a1, a2, a3⟩ := h2
    exact ⟨d, vs, a1, x.xd _ _ a2, DVs.mono x _ _ a3⟩
def ER (K : PySem.W.Frag) (W : WW K) (ρ : List Addr) (H : Hp) (E : Evn) (σ : L2.St) : Prop := W.g ρ H ∧ (∀ i a, W.fix = some (i, a) → σ[i]? = some (some (.ref a))) ∧ E.length = σ.length ∧ ∀ (i : Nat) (d : D), E[i]? = some (some d) → ∃ v, σ[i]? = some (some v) ∧ DV K ρ H d v
theorem ER.mono {K : PySem.W.Frag} {W : WW K} {ρ ρ' : List Addr} {H H' : Hp} (e : Ext K ρ H ρ' H') {E : Evn} {σ : L2.St} (h : ER K W ρ H E σ) : ER K W ρ' H' E σ :=
  ⟨W.gm _ _ _ _ e h.1, h.2.1, h.2.2.1, fun i d q => let ⟨v, a, b⟩ := h.2.2.2 i d q; ⟨v, a, DV.mono e d v b⟩⟩
theorem ER.set {K : PySem.W.Frag} {W : WW K} {ρ : List Addr} {H : Hp} {E : Evn} {σ : L2.St} (hw : W.fix = none) (h : ER K W ρ H E σ) (i : Nat) {d : D} {v : V} (q : DV K ρ H d v) : ER K W ρ H (E.set i (some d)) (σ.set i (some v)) := by
  refine ⟨h.1, fun j a z => (by rw [hw] at z; cases z), by simpa using h.2.2.1, fun j u e => ?_⟩
  by_cases hj : i = j
  · subst hj
    have hl : i < E.length := by
      have := (List.getElem?_eq_some_iff.mp e).1
      simpa using this
    rw [List.getElem?_set_self hl] at e
    cases e
    exact ⟨v, by rw [List.getElem?_set_self (by have := h.2.2.1; omega)], q⟩
  · rw [List.getElem?_set_ne hj] at e
    obtain ⟨w, a, b⟩ := h.2.2.2 j u e
    exact ⟨w, by rw [List.getElem?_set_ne hj]; exact a, b⟩
theorem ER.unset {K : PySem.W.Frag} {W : WW K} {ρ : List Addr} {H : Hp} {E : Evn} {σ : L2.St} (hw : W.fix = none) (h : ER K W ρ H E σ) (i : Nat) : ER K W ρ H (E.set i none) (σ.set i none) := by
  refine ⟨h.1, fun j a z => (by rw [hw] at z; cases z), by simpa using h.2.2.1, fun j u e => ?_⟩
  by_cases hj : i = j
  · subst hj
    by_cases hl : i < E.length
    · rw [List.getElem?_set_self hl] at e; cases e
    · rw [List.getElem?_eq_none (by simpa using hl)] at e; cases e
  · rw [List.getElem?_set_ne hj] at e
    obtain ⟨w, a, b⟩ := h.2.2.2 j u e
    exact ⟨w, by rw [List.getElem?_set_ne hj]; exact a, b⟩
theorem ER.wish {K : PySem.W.Frag} {W W' : WW K} {ρ : List Addr} {H : Hp} {E : Evn} {σ : L2.St} (h : ER K W ρ H E σ) (g : W'.g ρ H) (f : ∀ i a, W'.fix = some (i, a) → σ[i]? = some (some (.ref a))) : ER K W' ρ H E σ := ⟨g, f, h.2.2⟩
/-- the readings -/
def tE (K : PySem.W.Frag) (W : WW K) (m : ME) : TE := fun σ H Q => ∃ ρ S E, Rel K ρ S H ∧ ER K W ρ H E σ ∧ Post K (DV K) ρ H Q (fun c dx H' => W.w c dx σ H') (m E S)
def tT (K : PySem.W.Frag) (W : WW K) (m : MT) : TT := fun σ H Q => ∃ ρ S E, Rel K ρ S H ∧ ER K W ρ H E σ ∧ Post K (fun _ _ (b c : Bool) => b = c) ρ H Q (fun c dx H' => W.w c dx σ H') (m E S)
def tA (K : PySem.W.Frag) (W : WW K) (m : MA) : TA := fun σ H Q => ∃ ρ S E, Rel K ρ S H ∧ ER K W ρ H E σ ∧ Post K (DVs K) ρ H Q (fun c dx H' => W.w c dx σ H') (m E S)
def SPost (K : PySem.W.Frag) (W : WW K) (ρ : List Addr) (H : Hp) (D : Ends) : SO → Prop
  | .nx E' S' => ∀ ρ' H' σ', Rel K ρ' S' H' → Ext K ρ H ρ' H' → ER K W ρ' H' E' σ' → D.nx σ' H'
  | .bk E' S' => ∀ ρ' H' σ', Rel K ρ' S' H' → Ext K ρ H ρ' H' → ER K W ρ' H' E' σ' → D.bk σ' H'
  | .ct E' S' => ∀ ρ' H' σ', Rel K ρ' S' H' → Ext K ρ H ρ' H' → ER K W ρ' H' E' σ' → D.ct σ' H'
  | .rt d S' => ∀ ρ' H' v, Rel K ρ' S' H' → Ext K ρ H ρ' H' → DV K ρ' H' d v → D.rt v H'
  | .ex e E' S' => ∀ ρ' H' σ' c dx, Rel K ρ' S' H' → Ext K ρ H ρ' H' → ER K W ρ' H' E' σ' → XR K ρ' H' e c dx → W.w c dx σ' H'
  | .bad => False
theorem SPost.start {K : PySem.W.Frag} {W : WW K} {ρ ρ1 : List Addr} {H H1 : Hp} {D : Ends} {o : SO} (h : SPost K W ρ H D o) (e : Ext K ρ H ρ1 H1) : SPost K W ρ1 H1 D o := by
  cases o with
  | nx E S => exact fun ρ' H' σ' r x => h ρ' H' σ' r (e.trans x)
  | bk E S => exact fun ρ' H' σ' r x => h ρ' H' σ' r (e.trans x)
  | ct E S => exact fun ρ' H' σ' r x => h ρ' H' σ' r (e.trans x)
  | rt d S => exact fun ρ' H' v r x => h ρ' H' v r (e.trans x)
  | ex d E S => exact fun ρ' H' σ' c dx r x => h ρ' H' σ' c dx r (e.trans x)
  | bad => exact h
def tS (K : PySem.W.Frag) (W : WW K) (m : MS) : TS := fun D σ H => ∃ ρ S E, Rel K ρ S H ∧ ER K W ρ H E σ ∧ SPost K W ρ H D (m E S)
/-- from an expression's outcome to a statement's -/
theorem SPost.bind {α β : Type} {K : PySem.W.Frag} {W : WW K} {R : List Addr → Hp → α → β → Prop} {ρ : List Addr} {H : Hp} {D : Ends} {E : Evn} {σ : L2.St} {o : Out α} {f : α → Sto → SO} (er : ER K W ρ H E σ) (h : SPost K W ρ H D (o.toS E f)) :
    Post K R ρ H (fun v H1 => ∃ ρ1 S1 d, Rel K ρ1 S1 H1 ∧ Ext K ρ H ρ1 H1 ∧ R ρ1 H1 d v ∧ SPost K W ρ1 H1 D (f d S1)) (fun c dx H' => W.w c dx σ H') o := by
  cases o with
  | ok d S => exact fun ρ' H' v r x y => ⟨ρ', S, d, r, x, y, SPost.start h x⟩
  | ex d S => exact fun ρ' H' c dx r x y => h ρ' H' σ c dx r x (er.mono x) y
  | bad => exact h
/-! the judgements -/
def ED (X : Cx) (W : WW X.K) (e : Expr) (m : ME) : Prop := PE X e (tE X.K W m)
def TD (X : Cx) (W : WW X.K) (e : Expr) (m : MT) : Prop := PT X e (tT X.K W m)
def WD (X : Cx) (W : WW X.K) (e : Expr) (m : MT) : Prop := PW X e (tT X.K W m)
def AD (X : Cx) (W : WW X.K) (es : List Expr) (m : MA) : Prop := PA X es (tA X.K W m)
def SD (X : Cx) (W : WW X.K) (st : Stmt) (m : MS) : Prop := PS X st (tS X.K W m)
def BD (X : Cx) (W : WW X.K) (st : List Stmt) (m : MS) : Prop := PSs X st (tS X.K W m)
theorem PE.imp {X : Cx} {e : Expr} {t t' : TE} (h : PE X e t) (i : ∀ σ H Q, t' σ H Q → t σ H Q) : PE X e t' := ⟨fun pins s σ H Q I q => h.run pins s σ H Q I (i _ _ _ q)⟩
theorem PT.imp {X : Cx} {e : Expr} {t t' : TT} (h : PT X e t) (i : ∀ σ H Q, t' σ H Q → t σ H Q) : PT X e t' := ⟨fun pins s σ H Q I q => h.run pins s σ H Q I (i _ _ _ q)⟩
theorem PW.imp {X : Cx} {e : Expr} {t t' : TT} (h : PW X e t) (i : ∀ σ H Q, t' σ H Q → t σ H Q) : PW X e t' := ⟨fun wh pins s σ H Q I q => h.run wh pins s σ H Q I (i _ _ _ q)⟩
theorem PA.imp {X : Cx} {e : List Expr} {t t' : TA} (h : PA X e t) (i : ∀ σ H Q, t' σ H Q → t σ H Q) : PA X e t' := ⟨fun pos pins s σ H Q I q => h.run pos pins s σ H Q I (i _ _ _ q)⟩
theorem PS.imp {X : Cx} {e : Stmt} {t t' : TS} (h : PS X e t) (i : ∀ D σ H, t' D σ H → t D σ H) : PS X e t' := ⟨fun pins s σ H Q I q => h.run pins s σ H Q I (i _ _ _ q)⟩
theorem PSs.imp {X : Cx} {e : List Stmt} {t t' : TS} (h : PSs X e t) (i : ∀ D σ H, t' D σ H → t D σ H) : PSs X e t' := ⟨fun pins s σ H Q I q => h.run pins s σ H Q I (i _ _ _ q)⟩
theorem PI.imp {X : Cx} {tg e : Expr} {t t' : TI} (h : PI X tg e t) (i : ∀ σ H Q, t' σ H Q → t σ H Q) : PI X tg e t' := ⟨fun pins s σ H Q I q => h.run pins s σ H Q I (i _ _ _ q)⟩
end PD

/-! PyD1: expressions. -/
namespace PD
open PySem PySem.Spec PyProof.Rows L2

/-! ### names, constants -/
def mVar (i : Nat) : ME := fun E S => match E[i]? with
  | some (some d) => .ok d S
  | _ => .bad
def mC (d : D) : ME := fun _ S => .ok d S
section
variable {X : Cx} {W : WW X.K} {pos : Pos}
theorem ed_of {e : Expr} {t : TE} {m : ME} (h : PE X e t) (i : ∀ σ H Q ρ S E, Rel X.K ρ S H → ER X.K W ρ H E σ → Post X.K (DV X.K) ρ H Q (fun c dx H' => W.w c dx σ H') (m E S) → t σ H Q) : ED X W e m :=
  PE.imp h fun σ H Q ⟨ρ, S, E, r, er, p⟩ => i σ H Q ρ S E r er p
theorem ed_var {i : Nat} {e : Expr} (h : PE X e (tVar i)) : ED X W e (mVar i) := by
  refine ed_of h fun σ H Q ρ S E r er p => ?_
  unfold mVar at p
  cases q : E[i]? with
  | none => rw [q] at p; exact p.elim
  | some o =>
    cases o with
    | none => rw [q] at p; exact p.elim
    | some d =>
      rw [q] at p
      obtain ⟨v, a, b⟩ := er.2.2.2 i d q
      exact ⟨v, a, p ρ H v r Ext.refl b⟩
theorem ed_c {e : Expr} {v : V} {d : D} (h : PE X e (tC v)) (hd : ∀ ρ H, DV X.K ρ H d v) : ED X W e (mC d) :=
  ed_of h fun σ H Q ρ S E r er p => p ρ H v r Ext.refl (hd ρ H)
theorem ed_int {i : Int} {j : Nat} : ED X W (.Constant (.int i) j pos) (mC (.int i)) := ed_c pe_int fun _ _ => by simp [DV]
theorem ed_bl {b : Bool} {j : Nat} : ED X W (.Constant (.bool b) j pos) (mC (.bl b)) := ed_c pe_bl fun _ _ => by simp [DV]
theorem ed_non {j : Nat} : ED X W (.Constant .none j pos) (mC .non) := ed_c pe_non fun _ _ => by simp [DV]
theorem ed_str {x : Str} {j : Nat} {c : Tx} (hc : x = ⟨c.toArray⟩) : ED X W (.Constant (.str x) j pos) (mC (.str c)) := ed_c pe_str fun _ _ => by simp [DV, sv, hc]
/-- an object of the module's top by its name -/
theorem ed_glo {x : String} (hg : Gl X (x : Str)) (hm : X.mg (x : Str) = some (.ref (He.ga X.K x))) (hd : ((x : Str) == ("__debug__" : Str)) = false := by decide) : ED X W (.Name (x : Str) pos) (mC (.glo x)) :=
  ed_c (pe_glob (v := .ref (He.ga X.K x)) hg hm rfl hd) fun _ _ => by simp [DV]
theorem ed_ty {x : Str} {n : String} (hg : Gl X x) (hm : X.mg x = none) (hv : bootBuiltins x = some (.type n)) (hn : x ≠ "__name__" := by decide) (hd : (x == ("__debug__" : Str)) = false := by decide) : ED X W (.Name x pos) (mC (.ty n)) :=
  ed_c (pe_bltn (v := .ty n) hg hm hv rfl hn hd) fun _ _ => by simp [DV]
/-- a constant of the module's top: GC says what it is -/
def GC (K : PySem.W.Frag) (mg : Str → Option Value) (x : Str) (d : D) : Prop := ∃ u v, mg x = some u ∧ RelV v u ∧ ∀ ρ H, DV K ρ H d v
theorem ed_gc {x : Str} {d : D} (hg : Gl X x) (h : GC X.K X.mg x d) (hd : (x == ("__debug__" : Str)) = false := by decide) : ED X W (.Name x pos) (mC d) := by
  obtain ⟨u, v, h1, h2, h3⟩ := h
  exact ed_c (pe_glob hg h1 h2 hd) h3
/-! ### two expressions in a row -/
def mBin (g : Sto → D → D → Option D) (a b : ME) : ME := fun E S => (a E S).bind fun x S1 => (b E S1).bind fun y S2 => match g S2 x y with
  | some d => .ok d S2
  | none => .bad
/-- an operator by plain data -/
def rP (K : PySem.W.Frag) (g : Sto → D → D → Option D) : R2 := fun x y H Q => ∃ ρ S dx dy d, Rel K ρ S H ∧ DV K ρ H dx x ∧ DV K ρ H dy y ∧ g S dx dy = some d ∧ ∀ ρ' H' v, Rel K ρ' S H' → Ext K ρ H ρ' H' → DV K ρ' H' d v → Q v H'
theorem post_opt {K : PySem.W.Frag} {ρ : List Addr} {H : Hp} {Q : V → Hp → Prop} {Z : XQ} {S : Sto} {o : Option D} (p : Post K (DV K) ρ H Q Z (match o with | some d => Out.ok d S | none => Out.bad)) :
    ∃ d, o = some d ∧ ∀ ρ' H' v, Rel K ρ' S H' → Ext K ρ H ρ' H' → DV K ρ' H' d v → Q v H' := by
  cases o with
  | none => exact p.elim
  | some d => exact ⟨d, rfl, p⟩
variable {a b : Expr} {ma mb : ME} {g : Sto → D → D → Option D}
theorem bin_read {r : R2} (hr : ∀ x y H Q, rP X.K g x y H Q → r x y H Q) : ∀ σ H Q ρ S E, Rel X.K ρ S H → ER X.K W ρ H E σ → Post X.K (DV X.K) ρ H Q (fun c dx H' => W.w c dx σ H') (mBin g ma mb E S) → tOp r (tE X.K W ma) (tE X.K W mb) σ H Q := by
  intro σ H Q ρ S E re er p
  refine ⟨ρ, S, E, re, er, (Post.bind (R := DV X.K) p).imp fun x H1 ⟨ρ1, S1, dx, r1, e1, d1, p1⟩ => ?_⟩
  refine ⟨ρ1, S1, E, r1, er.mono e1, (Post.bind (R := DV X.K) p1).imp fun y H2 ⟨ρ2, S2, dy, r2, e2, d2, p2⟩ => ?_⟩
  obtain ⟨d, hd, q⟩ := post_opt p2
  exact hr _ _ _ _ ⟨ρ2, S2, dx, dy, d, r2, DV.mono e2 _ _ d1, d2, hd, q⟩
theorem ed_bin {op : Operator} {r : R2} (ho : OpR X (binaryOp op) r) (hr : ∀ x y H Q, rP X.K g x y H Q → r x y H Q) (ha : ED X W a ma) (hb : ED X W b mb) : ED X W (.BinOp a op b pos) (mBin g ma mb) :=
  ed_of (pe_op ho ha hb) (bin_read hr)
theorem ed_cmp {op : CmpOp} {r : R2} (ho : OpR X (compareOp op) r) (hr : ∀ x y H Q, rP X.K g x y H Q → r x y H Q) (ha : ED X W a ma) (hb : ED X W b mb) (hm : behindInMarks op b = false) : ED X W (.Compare a [op] [b] pos) (mBin g ma mb) :=
  ed_of (pe_cmpR ho ha hb hm) (bin_read hr)
/-- the test of a comparison -/
def asB (m : ME) : MT := fun E S => (m E S).bind fun d S1 => match d with
  | .bl b => .ok b S1
  | _ => .bad
theorem td_of {e : Expr} {t : TT} {m : MT} (h : PT X e t) (i : ∀ σ H Q ρ S E, Rel X.K ρ S H → ER X.K W ρ H E σ → Post X.K (fun _ _ (b c : Bool) => b = c) ρ H Q (fun c dx H' => W.w c dx σ H') (m E S) → t σ H Q) : TD X W e m :=
  PT.imp h fun σ H Q ⟨ρ, S, E, r, er, p⟩ => i σ H Q ρ S E r er p
theorem asB_read {m : ME} {t : TE} (ht : ∀ σ H Q, tE X.K W m σ H Q → t σ H Q) : ∀ σ H Q ρ S E, Rel X.K ρ S H → ER X.K W ρ H E σ → Post X.K (fun _ _ (b c : Bool) => b = c) ρ H Q (fun c dx H' => W.w c dx σ H') (asB m E S) → t σ H (fun x H' => ∃ k, x = .bl k ∧ Q k H') := by
  intro σ H Q ρ S E r er p
  refine ht _ _ _ ⟨ρ, S, E, r, er, (Post.bind (R := DV X.K) p).imp fun x H1 ⟨ρ1, S1, d, r1, e1, d1, p1⟩ => ?_⟩
  cases d with
  | bl k =>
    simp only [DV] at d1
    exact ⟨k, d1, p1 ρ1 H1 k r1 Ext.refl rfl⟩
  | _ => exact p1.elim
theorem td_cmp {op : CmpOp} {r : R2} (ho : OpR X (compareOp op) r) (hr : ∀ x y H Q, rP X.K g x y H Q → r x y H Q) (ha : ED X W a ma) (hb : ED X W b mb) (hm : behindInMarks op b = false) : TD X W (.Compare a [op] [b] pos) (asB (mBin g ma mb)) :=
  td_of (pt_cmpR ho ha hb hm) (asB_read fun σ H Q ⟨ρ, S, E, r, er, p⟩ => bin_read hr σ H Q ρ S E r er p)
theorem td_val {e : Expr} {m : ME} (h : ED X W e m) (he : ∀ whole, isTrue e X.env whole = (do let v ← whole; standAt e.pos; holding [v] (truthy v)) := by intro _; rfl) : TD X W e (asB m) :=
  td_of (pt_val h he) (asB_read fun σ H Q q => q)
/-! and, or, not as tests -/
def mAnd (a b : MT) : MT := fun E S => (a E S).bind fun x S1 => if x = true then b E S1 else .ok false S1
def mOr (a b : MT) : MT := fun E S => (a E S).bind fun x S1 => if x = true then .ok true S1 else b E S1
def mNot (a : MT) : MT := fun E S => (a E S).bind fun x S1 => .ok (!x) S1
variable {ta tb : MT} {rest : List Expr}
theorem and_read : ∀ σ H Q ρ S E, Rel X.K ρ S H → ER X.K W ρ H E σ → Post X.K (fun _ _ (b c : Bool) => b = c) ρ H Q (fun c dx H' => W.w c dx σ H') (mAnd ta tb E S) → tAnd (tT X.K W ta) (tT X.K W tb) σ H Q := by
  intro σ H Q ρ S E r er p
  refine ⟨ρ, S, E, r, er, (Post.bind (R := fun _ _ (b c : Bool) => b = c) p).imp fun x H1 ⟨ρ1, S1, d, r1, e1, d1, p1⟩ => ?_⟩
  subst d1
  cases d with
  | true => rw [if_pos rfl] at p1 ⊢; exact ⟨ρ1, S1, E, r1, er.mono e1, p1⟩
  | false => rw [if_neg (by simp)] at p1 ⊢; exact p1 ρ1 H1 false r1 Ext.refl rfl
theorem or_read : ∀ σ H Q ρ S E, Rel X.K ρ S H → ER X.K W ρ H E σ → Post X.K (fun _ _ (b c : Bool) => b = c) ρ H Q (fun c dx H' => W.w c dx σ H') (mOr ta tb E S) → tOr (tT X.K W ta) (tT X.K W tb) σ H Q := by
  intro σ H Q ρ S E r er p
  refine ⟨ρ, S, E, r, er, (Post.bind (R := fun _ _ (b c : Bool) => b = c) p).imp fun x H1 ⟨ρ1, S1, d, r1, e1, d1, p1⟩ => ?_⟩
  subst d1
  cases d with
  | true => rw [if_pos rfl] at p1 ⊢; exact p1 ρ1 H1 true r1 Ext.refl rfl
  | false => rw [if_neg (by simp)] at p1 ⊢; exact ⟨ρ1, S1, E, r1, er.mono e1, p1⟩
theorem wd_and1 (ha : TD X W a ta) : WD X W (.BoolOp .And [a] pos) ta := pw_and1 ha
theorem wd_or1 (ha : TD X W a ta) : WD X W (.BoolOp .Or [a] pos) ta := pw_or1 ha
theorem wd_and (ha : TD X W a ta) (hb : WD X W (.BoolOp .And (b :: rest) pos) tb) : WD X W (.BoolOp .And (a :: b :: rest) pos) (mAnd ta tb) :=
  PW.imp (pw_and ha hb) fun σ H Q ⟨ρ, S, E, r, er, p⟩ => and_read σ H Q ρ S E r er p
theorem wd_or (ha : TD X W a ta) (hb : WD X W (.BoolOp .Or (b :: rest) pos) tb) : WD X W (.BoolOp .Or (a :: b :: rest) pos) (mOr ta tb) :=
  PW.imp (pw_or ha hb) fun σ H Q ⟨ρ, S, E, r, er, p⟩ => or_read σ H Q ρ S E r er p
theorem td_w (h : WD X W a ta) : TD X W a ta := PW.pt h
theorem td_not (ha : TD X W a ta) : TD X W (.UnaryOp .Not a pos) (mNot ta) := by
  refine td_of (pt_not ha) fun σ H Q ρ S E r er p => ?_
  refine ⟨ρ, S, E, r, er, (Post.bind (R := fun _ _ (b c : Bool) => b = c) p).imp fun x H1 ⟨ρ1, S1, d, r1, e1, d1, p1⟩ => ?_⟩
  subst d1
  exact p1 ρ1 H1 _ r1 Ext.refl rfl
/-! and, or, not as values (of truths) -/
def mAndV (a b : ME) : ME := fun E S => (a E S).bind fun x S1 => match x with
  | .bl true => b E S1
  | .bl false => .ok (.bl false) S1
  | _ => .bad
def mOrV (a b : ME) : ME := fun E S => (a E S).bind fun x S1 => match x with
  | .bl true => .ok (.bl true) S1
  | .bl false => b E S1
  | _ => .bad
def mNotV (a : ME) : ME := fun E S => (a E S).bind fun x S1 => match x with
  | .bl b => .ok (.bl (!b)) S1
  | _ => .bad
theorem ed_one {op : BoolOp} {m : ME} (h : ED X W a m) : ED X W (.BoolOp op [a] pos) m := pe_one h
theorem ed_and (ha : ED X W a ma) (hb : ED X W (.BoolOp .And (b :: rest) pos) mb) : ED X W (.BoolOp .And (a :: b :: rest) pos) (mAndV ma mb) := by
  refine ed_of (pe_and ha hb) fun σ H Q ρ S E r er p => ?_
  refine ⟨ρ, S, E, r, er, (Post.bind (R := DV X.K) p).imp fun x H1 ⟨ρ1, S1, d, r1, e1, d1, p1⟩ => ?_⟩
  cases d with
  | bl k =>
    simp only [DV] at d1
    refine ⟨k, d1, ?_⟩
    cases k with
    | true => rw [if_pos rfl]; exact ⟨ρ1, S1, E, r1, er.mono e1, p1⟩
    | false => rw [if_neg (by simp)]; exact p1 ρ1 H1 _ r1 Ext.refl (by simp [DV])
  | _ => exact p1.elim
theorem ed_or (ha : ED X W a ma) (hb : ED X W (.BoolOp .Or (b :: rest) pos) mb) : ED X W (.BoolOp .Or (a :: b :: rest) pos) (mOrV ma mb) := by
  refine ed_of (pe_or ha hb) fun σ H Q ρ S E r er p => ?_
  refine ⟨ρ, S, E, r, er, (Post.bind (R := DV X.K) p).imp fun x H1 ⟨ρ1, S1, d, r1, e1, d1, p1⟩ => ?_⟩
  cases d with
  | bl k =>
    simp only [DV] at d1
    refine ⟨k, d1, ?_⟩
    cases k with
    | true => rw [if_pos rfl]; exact p1 ρ1 H1 _ r1 Ext.refl (by simp [DV])
    | false => rw [if_neg (by simp)]; exact ⟨ρ1, S1, E, r1, er.mono e1, p1⟩
  | _ => exact p1.elim
theorem ed_not (ha : ED X W a ma) : ED X W (.UnaryOp .Not a pos) (mNotV ma) := by
  refine ed_of (pe_not ha) fun σ H Q ρ S E r er p => ?_
  refine ⟨ρ, S, E, r, er, (Post.bind (R := DV X.K) p).imp fun x H1 ⟨ρ1, S1, d, r1, e1, d1, p1⟩ => ?_⟩
  cases d with
  | bl k =>
    simp only [DV] at d1
    exact ⟨k, d1, p1 ρ1 H1 _ r1 Ext.refl (by simp [DV])⟩
  | _ => exact p1.elim
def mIfE (c : MT) (a b : ME) : ME := fun E S => (c E S).bind fun x S1 => if x = true then a E S1 else b E S1
theorem ed_if {c : Expr} {mc : MT} (hc : TD X W c mc) (ha : ED X W a ma) (hb : ED X W b mb) : ED X W (.IfExp c a b pos) (mIfE mc ma mb) := by
  refine ed_of (pe_ifExp hc ha hb) fun σ H Q ρ S E r er p => ?_
  refine ⟨ρ, S, E, r, er, (Post.bind (R := fun _ _ (b c : Bool) => b = c) p).imp fun x H1 ⟨ρ1, S1, d, r1, e1, d1, p1⟩ => ?_⟩
  subst d1
  cases d with
  | true => rw [if_pos rfl] at p1 ⊢; exact ⟨ρ1, S1, E, r1, er.mono e1, p1⟩
  | false => rw [if_neg (by simp)] at p1 ⊢; exact ⟨ρ1, S1, E, r1, er.mono e1, p1⟩
/-! ### one operand -/
def mUn (g : Sto → D → Option D) (a : ME) : ME := fun E S => (a E S).bind fun x S1 => match g S1 x with
  | some d => .ok d S1
  | none => .bad
def rP1 (K : PySem.W.Frag) (g : Sto → D → Option D) : V → Hp → VK → Prop := fun x H Q => ∃ ρ S dx d, Rel K ρ S H ∧ DV K ρ H dx x ∧ g S dx = some d ∧ ∀ ρ' H' v, Rel K ρ' S H' → Ext K ρ H ρ' H' → DV K ρ' H' d v → Q v H'
theorem ed_un {op : UnaryOp} {r : V → Hp → VK → Prop} {g : Sto → D → Option D} (ho : UnR X (unaryOp op) r) (hr : ∀ x H Q, rP1 X.K g x H Q → r x H Q) (ha : ED X W a ma) : ED X W (.UnaryOp op a pos) (mUn g ma) := by
  refine ed_of (pe_un ho ha) fun σ H Q ρ S E r er p => ?_
  refine ⟨ρ, S, E, r, er, (Post.bind (R := DV X.K) p).imp fun x H1 ⟨ρ1, S1, d, r1, e1, d1, p1⟩ => ?_⟩
  obtain ⟨u, hu, q⟩ := post_opt p1
  exact hr _ _ _ ⟨ρ1, S1, d, u, r1, d1, hu, q⟩
/-! ### rows of expressions -/
def mNil : MA := fun _ S => .ok [] S
def mCons (a : ME) (r : MA) : MA := fun E S => (a E S).bind fun x S1 => (r E S1).bind fun xs S2 => .ok (x :: xs) S2
theorem ad_nil : AD X W [] mNil := PA.imp pa_nil fun σ H Q ⟨ρ, S, E, r, er, p⟩ => p ρ H [] r Ext.refl (by simp [DVs])
theorem ad_cons {e : Expr} {es : List Expr} {m : ME} {ms : MA} (h : ED X W e m) (hr : AD X W es ms) (hs : starEach (e :: es) X.env = (false, eval e X.env) :: starEach es X.env := by rfl) : AD X W (e :: es) (mCons m ms) := by
  refine PA.imp (pa_cons h hr hs) fun σ H Q ⟨ρ, S, E, r, er, p⟩ => ?_
  refine ⟨ρ, S, E, r, er, (Post.bind (R := DV X.K) p).imp fun x H1 ⟨ρ1, S1, d, r1, e1, d1, p1⟩ => ?_⟩
  refine ⟨ρ1, S1, E, r1, er.mono e1, (Post.bind (R := DVs X.K) p1).imp fun xs H2 ⟨ρ2, S2, ds, r2, e2, d2, p2⟩ => ?_⟩
  exact p2 ρ2 H2 (x :: xs) r2 Ext.refl (by simp only [DVs]; exact ⟨x, xs, rfl, DV.mono e2 _ _ d1, d2⟩)
/-! new things -/
theorem rd_none {H : Hp} {a p : Addr} {u : HO} (hp : H p = none) (h : Rd H a u) : a ≠ p := fun z => by
  subst z
  rcases h with h | ⟨o, h⟩ <;> rw [hp] at h <;> cases h
theorem Rd.upd {H : Hp} {a p : Addr} {u o : HO} (hne : a ≠ p) (h : Rd H a u) : Rd (upd H p o) a u := by
  unfold Rd
  rw [upd_ne hne]
  exact h
/-- a thing is laid anew and not tracked -/
theorem Ext.new {K : PySem.W.Frag} {ρ : List Addr} {H : Hp} {p : Addr} {o : HO} (hp : H p = none) : Ext K ρ H ρ (upd H p o) :=
  ⟨⟨[], by simp⟩, fun a vs h => h.imp (fun h => Rd.upd (rd_none hp h) h) id, fun a vs h g => ⟨h, by rw [upd_ne (ne_of_none g hp)]; exact g⟩, fun a u vs h => by rw [upd_ne (ne_of_none h hp)]; exact h, fun a fs h => by rw [upd_ne (ne_of_none h hp)]; exact h⟩
theorem OR.mono {K : PySem.W.Frag} {ρ ρ' : List Addr} {H H' : Hp} (e : Ext K ρ H ρ' H') {a : Addr} {o : Ob} (h : OR K ρ H a o) (k : ∀ u, H a = some u → H' a = some u) : OR K ρ' H' a o := by
  cases o with
  | lst xs => obtain ⟨vs, h1, h2⟩ := h; exact ⟨vs, k _ h1, DVs.mono e _ _ h2⟩
  | dic xs => obtain ⟨vs, h1, h2⟩ := h; exact ⟨vs, k _ h1, KVR.mono e _ _ h2⟩
  | set S n => exact k _ h
  | ins c N fs => obtain ⟨dx, vs, h1, h2⟩ := h; exact ⟨dx, vs, k _ h1, DVs.mono e _ _ h2⟩
theorem OR.some {K : PySem.W.Frag} {ρ : List Addr} {H : Hp} {a : Addr} {o : Ob} (h : OR K ρ H a o) : ∃ u, H a = some u := by
  cases o with
  | lst xs => obtain ⟨vs, h1, h2⟩ := h; exact ⟨_, h1⟩
  | dic xs => obtain ⟨vs, h1, h2⟩ := h; exact ⟨_, h1⟩
  | set S n => exact ⟨_, h⟩
  | ins c N fs => obtain ⟨dx, vs, h1, h2⟩ := h; exact ⟨_, h1⟩
theorem Rel.mem {K : PySem.W.Frag} {ρ : List Addr} {S : Sto} {H : Hp} (r : Rel K ρ S H) {a : Addr} (h : a ∈ ρ) : ∃ u, H a = some u := by
  obtain ⟨n, hn, e⟩ := List.getElem_of_mem h
  have h2 : n < S.length := by rw [← r.len]; exact hn
  exact (r.at_ n S[n] a (List.getElem?_eq_getElem h2) (by rw [List.getElem?_eq_getElem hn, e])).some
theorem Rel.new {K : PySem.W.Frag} {ρ : List Addr} {S : Sto} {H : Hp} (r : Rel K ρ S H) {p : Addr} {o : HO} (hp : H p = none) : Rel K ρ S (upd H p o) :=
  ⟨r.len, r.nd, fun n u a h1 h2 => (r.at_ n u a h1 h2).mono (Ext.new hp) fun w hw => by rw [upd_ne (ne_of_none hw hp)]; exact hw⟩
theorem Rel.notin {K : PySem.W.Frag} {ρ : List Addr} {S : Sto} {H : Hp} (r : Rel K ρ S H) {p : Addr} (hp : H p = none) : p ∉ ρ := fun h => by
  obtain ⟨u, e⟩ := r.mem h
  rw [hp] at e
  cases e
open Classical in
noncomputable def mTup (a : MA) : ME := fun E S => (a E S).bind fun xs S1 => if sizeOk (xs.length) then .ok (.tup xs) S1 else .bad
/- a list that is never changed -/
open Classical in
noncomputable def mLst (a : MA) : ME := fun E S => (a E S).bind fun xs S1 => if sizeOk (xs.length) then .ok (.lst xs) S1 else .bad
/- a list that may change -/
open Classical in
noncomputable def mLoc (a : MA) : ME := fun E S => (a E S).bind fun xs S1 => if sizeOk (xs.length) then .ok (.loc S1.length) (S1 ++ [.lst xs]) else .bad
theorem dv_tup {K : PySem.W.Frag} {ρ : List Addr} {H : Hp} {p : Addr} {xs : List D} {vs : List V} (hp : H p = none) (h : DVs K ρ H xs vs) : DV K ρ (upd H p (.tup vs)) (.tup xs) (.ref p) := by
  simp only [DV]
  exact ⟨p, vs, rfl, SqT.of upd_same, DVs.mono (Ext.new hp) _ _ h⟩
theorem dv_lst {K : PySem.W.Frag} {ρ : List Addr} {H : Hp} {p : Addr} {xs : List D} {vs : List V} (hp : H p = none) (hn : p ∉ ρ) (h : DVs K ρ H xs vs) : DV K ρ (upd H p (.lst vs)) (.lst xs) (.ref p) := by
  simp only [DV]
  exact ⟨p, vs, rfl, ⟨hn, upd_same⟩, DVs.mono (Ext.new hp) _ _ h⟩
theorem Ext.alloc {K : PySem.W.Frag} {ρ : List Addr} {H : Hp} {p : Addr} {o : HO} (hp : H p = none) : Ext K ρ H (ρ ++ [p]) (upd H p o) :=
  ⟨⟨[p], rfl⟩, fun a vs h => h.imp (fun h => Rd.upd (rd_none hp h) h) id, fun a vs h g => ⟨by simp [h, ne_of_none g hp], by rw [upd_ne (ne_of_none g hp)]; exact g⟩, fun a u vs h => by rw [upd_ne (ne_of_none h hp)]; exact h, fun a fs h => by rw [upd_ne (ne_of_none h hp)]; exact h⟩
theorem Rel.alloc {K : PySem.W.Frag} {ρ : List Addr} {S : Sto} {H : Hp} (r : Rel K ρ S H) {p : Addr} {o : HO} {u : Ob} (hp : H p = none) (h : OR K (ρ ++ [p]) (upd H p o) p u) : Rel K (ρ ++ [p]) (S ++ [u]) (upd H p o) := by
  refine ⟨by simp [r.len], ?_, fun n w a h1 h2 => ?_⟩
  · rw [List.nodup_append]
    refine ⟨r.nd, by simp, fun x hx y hy z => ?_⟩
    simp only [List.mem_singleton] at hy
    subst hy z
    exact r.notin hp hx
  · by_cases hn : n < S.length
    · rw [List.getElem?_append_left hn] at h1
      rw [List.getElem?_append_left (by rw [r.len]; exact hn)] at h2
      exact (r.at_ n w a h1 h2).mono (Ext.alloc hp) fun q hq => by rw [upd_ne (ne_of_none hq hp)]; exact hq
    · have hn2 : n = S.length := by
        have := (List.getElem?_eq_some_iff.mp h1).1
        simp only [List.length_append, List.length_singleton] at this
        omega
      subst hn2
      rw [List.getElem?_append_right (Nat.le_refl _), Nat.sub_self] at h1
      rw [List.getElem?_append_right (by rw [r.len]; exact Nat.le_refl _), r.len, Nat.sub_self] at h2
      simp only [List.getElem?_cons_zero, Option.some.injEq] at h1 h2
      subst h1 h2
      exact h
theorem dv_loc {K : PySem.W.Frag} {ρ : List Addr} {S : Sto} {H H' : Hp} (r : Rel K ρ S H) {p : Addr} : DV K (ρ ++ [p]) H' (.loc S.length) (.ref p) := by
  simp only [DV]
  exact ⟨p, rfl, by rw [List.getElem?_append_right (by rw [r.len]; exact Nat.le_refl _), r.len, Nat.sub_self]; rfl⟩
variable {es : List Expr} {ms : MA}
theorem ed_tup {x1} (h : AD X W es ms) : ED X W (.Tuple es x1 pos) (mTup ms) := by
  refine ed_of (pe_tup h) fun σ H Q ρ S E r er p => ?_
  refine ⟨ρ, S, E, r, er, (Post.bind (R := DVs X.K) p).imp fun vs H1 ⟨ρ1, S1, ds, r1, e1, d1, p1⟩ => ?_⟩
  by_cases hl : sizeOk (ds.length)
  · rw [if_pos hl] at p1
    exact ⟨by rw [← d1.length]; exact hl, fun q hq => p1 ρ1 _ _ (r1.new hq) (Ext.new hq) (dv_tup hq d1)⟩
  · rw [if_neg hl] at p1; exact p1.elim
theorem ed_lst (h : AD X W es ms) : ED X W (.List es pos) (mLst ms) := by
  refine ed_of (pe_lst h) fun σ H Q ρ S E r er p => ?_
  refine ⟨ρ, S, E, r, er, (Post.bind (R := DVs X.K) p).imp fun vs H1 ⟨ρ1, S1, ds, r1, e1, d1, p1⟩ => ?_⟩
  by_cases hl : sizeOk (ds.length)
  · rw [if_pos hl] at p1
    exact ⟨by rw [← d1.length]; exact hl, fun q hq => p1 ρ1 _ _ (r1.new hq) (Ext.new hq) (dv_lst hq (r1.notin hq) d1)⟩
  · rw [if_neg hl] at p1; exact p1.elim
theorem ed_loc (h : AD X W es ms) : ED X W (.List es pos) (mLoc ms) := by
  refine ed_of (pe_lst h) fun σ H Q ρ S E r er p => ?_
  refine ⟨ρ, S, E, r, er, (Post.bind (R := DVs X.K) p).imp fun vs H1 ⟨ρ1, S1, ds, r1, e1, d1, p1⟩ => ?_⟩
  by_cases hl : sizeOk (ds.length)
  · rw [if_pos hl] at p1
    refine ⟨by rw [← d1.length]; exact hl, fun q hq => p1 (ρ1 ++ [q]) _ _ (r1.alloc hq ⟨vs, upd_same, DVs.mono (Ext.alloc hq) _ _ d1⟩) (Ext.alloc hq) (dv_loc r1)⟩
  · rw [if_neg hl] at p1; exact p1.elim
/-! ### calls -/
def mCall (f : MF) (a : MA) : ME := fun E S => (a E S).bind fun ds S1 => f ds S1
/-- a def's promise by plain data -/
def spM (K : PySem.W.Frag) (n : Nat) (m : MF) : Sp := fun vs H Q E => ∃ ρ S ds, Rel K ρ S H ∧ DVs K ρ H ds vs ∧ ds.length = n ∧ Post K (DV K) ρ H Q E (m ds S)
structure CallF (P : Program) (w : World) (K : PySem.W.Frag) (mg : Str → Option Value) (base : Heap) (k : Nat) (x : Str) (n : Nat) (m : MF) : Prop where
  ex : ∃ f fd ps, FnOk P w K mg base (L2.CX P w) k f fd ps (spM K n m) ∧ mg x = some (.ref f) ∧ PySem.W.keepIn K (.ref f) = true ∧ Binds K fd ps []
theorem ed_call {x : Str} {n k : Nat} {m : MF} {p : Pos} {e : Expr} (c : CallF X.prog X.w X.K X.mg X.base k x n m) (hr : Room k X.A) (tk : Takes X W.w) (hg : Gl X x) (ha : AD X W (e :: es) ms)
    (hl : ∀ E S ds S', ms E S = .ok ds S' → ds.length = n) (hdb : (x == ("__debug__" : Str)) = false := by decide) (he : starEach (e :: es) X.env = (false, eval e X.env) :: starEach es X.env := by rfl) (hpl : (backTo pos (starEach es X.env)).any (·.1) = false := by rfl) :
    ED X W (.Call (.Name x p) (e :: es) [] pos) (mCall m ms) := by
  obtain ⟨f, fd, ps, F, hm, hk, hb⟩ := c.ex
  refine ed_of (pe_callSD (E := fun σ c dx H => W.w c dx σ H) F hr hg hm hk hb .nil (fun σ => passAt tk σ) ha hdb he hpl) fun σ H Q ρ S E r er p => ?_
  refine ⟨ρ, S, E, r, er, ?_⟩
  have hl' := hl E S
  unfold mCall at p
  cases q : ms E S with
  | bad => rw [q] at p; exact p.elim
  | ex e S' => rw [q] at p; exact p
  | ok ds S' =>
    rw [q] at p
    have hn := hl' ds S' q
    intro ρ1 H1 vs r1 e1 d1
    rw [List.append_nil]
    exact ⟨ρ1, S', ds, r1, d1, hn, p.start e1⟩
theorem len_nil : ∀ E S ds S', mNil E S = .ok ds S' → ds.length = 0 := fun E S ds S' h => by cases h; rfl
theorem len_cons {a : ME} {r : MA} {n : Nat} (h : ∀ E S ds S', r E S = .ok ds S' → ds.length = n) : ∀ E S ds S', mCons a r E S = .ok ds S' → ds.length = n + 1 := fun E S ds S' q => by
  unfold mCons at q
  cases e1 : a E S with
  | bad => rw [e1] at q; cases q
  | ex e S1 => rw [e1] at q; cases q
  | ok x S1 =>
    rw [e1] at q
    cases e2 : r E S1 with
    | bad => rw [bind_ok, e2] at q; cases q
    | ex e S2 => rw [bind_ok, e2] at q; cases q
    | ok xs S2 =>
      rw [bind_ok, e2] at q
      cases q
      simp [h E S1 xs _ e2]
/-! built-ins of values: g reads the store -/
def mB (g : Sto → List D → Option D) (a : MA) : ME := fun E S => (a E S).bind fun xs S1 => match g S1 xs with
  | some d => .ok d S1
  | none => .bad
def rPB (K : PySem.W.Frag) (g : Sto → List D → Option D) : List V → Hp → VK → Prop := fun vs H Q => ∃ ρ S ds d, Rel K ρ S H ∧ DVs K ρ H ds vs ∧ g S ds = some d ∧ ∀ ρ' H' v, Rel K ρ' S H' → Ext K ρ H ρ' H' → DV K ρ' H' d v → Q v H'
theorem b_read {g : Sto → List D → Option D} {r : List V → Hp → VK → Prop} (hr : ∀ vs H Q, rPB X.K g vs H Q → r vs H Q) : ∀ σ H Q ρ S E, Rel X.K ρ S H → ER X.K W ρ H E σ → Post X.K (DV X.K) ρ H Q (fun c dx H' => W.w c dx σ H') (mB g ms E S) → tCB r (tA X.K W ms) σ H Q := by
  intro σ H Q ρ S E re er p
  refine ⟨ρ, S, E, re, er, (Post.bind (R := DVs X.K) p).imp fun vs H1 ⟨ρ1, S1, ds, r1, e1, d1, p1⟩ => ?_⟩
  obtain ⟨d, hd, q⟩ := post_opt p1
  exact hr _ _ _ ⟨ρ1, S1, ds, d, r1, d1, hd, q⟩
theorem ed_callB {x : Str} {id : String} {r : List V → Hp → VK → Prop} {g : Sto → List D → Option D} {e : Expr} {p : Pos} (hc : CallR X (.builtin id) r) (hr : ∀ vs H Q, rPB X.K g vs H Q → r vs H Q) (hg : Gl X x) (hm : X.mg x = none) (hv : bootBuiltins x = some (.builtin id)) (ha : AD X W (e :: es) ms)
    (hn : x ≠ "__name__" := by decide) (hdb : (x == ("__debug__" : Str)) = false := by decide) (he : starEach (e :: es) X.env = (false, eval e X.env) :: starEach es X.env := by rfl) (hpl : (backTo pos (starEach es X.env)).any (·.1) = false := by rfl) :
    ED X W (.Call (.Name x p) (e :: es) [] pos) (mB g ms) := by
  first
    | exact ed_of (pe_callB hc hg hm hv ha hn hdb he hpl) (b_read hr)
    | exact ed_of (pe_callB hc hg hm hv ha hn hdb) (b_read hr)
theorem ed_callTy {x : Str} {T : String} {r : List V → Hp → VK → Prop} {g : Sto → List D → Option D} {e : Expr} {p : Pos} (hc : CallR X (.type T) r) (hr : ∀ vs H Q, rPB X.K g vs H Q → r vs H Q) (hg : Gl X x) (hm : X.mg x = none) (hv : bootBuiltins x = some (.type T)) (ha : AD X W (e :: es) ms)
    (hn : x ≠ "__name__" := by decide) (hdb : (x == ("__debug__" : Str)) = false := by decide) (he : starEach (e :: es) X.env = (false, eval e X.env) :: starEach es X.env := by rfl) (hpl : (backTo pos (starEach es X.env)).any (·.1) = false := by rfl) :
    ED X W (.Call (.Name x p) (e :: es) [] pos) (mB g ms) := by
  first
    | exact ed_of (pe_callTy hc hg hm hv ha hn hdb he hpl) (b_read hr)
    | exact ed_of (pe_callTy hc hg hm hv ha hn hdb) (b_read hr)
/-! items, slices -/
theorem ed_ix {r : R2} (hi : IxR X r) (hr : ∀ x y H Q, rP X.K g x y H Q → r x y H Q) (ha : ED X W a ma) (hb : ED X W b mb) (hs : PlainIx b) : ED X W (.Subscript a b pos) (mBin g ma mb) :=
  ed_of (pe_ix hi ha hb hs) (bin_read hr)
abbrev MO := Evn → Sto → Out (Option Int)
def mNoPart : MO := fun _ S => .ok none S
def mPart (a : ME) : MO := fun E S => (a E S).bind fun d S1 => match d with
  | .int i => .ok (some i) S1
  | _ => .bad
def tO (K : PySem.W.Frag) (W : WW K) (m : MO) : TO := fun σ H Q => ∃ ρ S E, Rel K ρ S H ∧ ER K W ρ H E σ ∧ Post K (fun _ _ (b c : Option Int) => b = c) ρ H Q (fun c dx H' => W.w c dx σ H') (m E S)
def OD (X : Cx) (W : WW X.K) (e : Option Expr) (m : MO) : Prop := PO X e (tO X.K W m)
theorem PO.imp {X : Cx} {e : Option Expr} {t t' : TO} (h : PO X e t) (i : ∀ σ H Q, t' σ H Q → t σ H Q) : PO X e t' := ⟨fun pins s σ H Q I q => h.run pins s σ H Q I (i _ _ _ q)⟩
theorem od_none : OD X W none mNoPart := PO.imp po_none fun σ H Q ⟨ρ, S, E, r, er, p⟩ => p ρ H none r Ext.refl rfl
theorem od_some {e : Expr} {m : ME} (h : ED X W e m) : OD X W (some e) (mPart m) := by
  refine PO.imp (po_some h) fun σ H Q ⟨ρ, S, E, r, er, p⟩ => ?_
  refine ⟨ρ, S, E, r, er, (Post.bind (R := DV X.K) p).imp fun x H1 ⟨ρ1, S1, d, r1, e1, d1, p1⟩ => ?_⟩
  cases d with
  | int i => simp only [DV] at d1; exact ⟨i, d1, p1 ρ1 H1 _ r1 Ext.refl rfl⟩
  | _ => exact p1.elim
def mSl (g : Sto → D → Option Int → Option Int → Option D) (a : ME) (lo hi : MO) : ME := fun E S => (a E S).bind fun x S1 => (lo E S1).bind fun l S2 => (hi E S2).bind fun u S3 => match g S3 x l u with
  | some d => .ok d S3
  | none => .bad
def rPS (K : PySem.W.Frag) (g : Sto → D → Option Int → Option Int → Option D) : V → Option Int → Option Int → Hp → VK → Prop := fun x lo hi H Q => ∃ ρ S dx d, Rel K ρ S H ∧ DV K ρ H dx x ∧ g S dx lo hi = some d ∧ ∀ ρ' H' v, Rel K ρ' S H' → Ext K ρ H ρ' H' → DV K ρ' H' d v → Q v H'
theorem ed_sl {lo hi : Option Expr} {ml mh : MO} {p2 : Pos} {r : V → Option Int → Option Int → Hp → VK → Prop} {g : Sto → D → Option Int → Option Int → Option D} (hsl : SlR X r) (hr : ∀ x l u H Q, rPS X.K g x l u H Q → r x l u H Q) (ha : ED X W a ma) (hl : OD X W lo ml) (hu : OD X W hi mh) :
    ED X W (.Subscript a (.Slice lo hi none p2) pos) (mSl g ma ml mh) := by
  refine ed_of (pe_slice hsl ha hl hu) fun σ H Q ρ S E re er p => ?_
  refine ⟨ρ, S, E, re, er, (Post.bind (R := DV X.K) p).imp fun x H1 ⟨ρ1, S1, dx, r1, e1, d1, p1⟩ => ?_⟩
  refine ⟨ρ1, S1, E, r1, er.mono e1, (Post.bind (R := fun _ _ (b c : Option Int) => b = c) p1).imp fun l H2 ⟨ρ2, S2, dl, r2, e2, d2, p2⟩ => ?_⟩
  subst d2
  refine ⟨ρ2, S2, E, r2, er.mono (e1.trans e2), (Post.bind (R := fun _ _ (b c : Option Int) => b = c) p2).imp fun u H3 ⟨ρ3, S3, du, r3, e3, d3, p3⟩ => ?_⟩
  subst d3
  obtain ⟨d, hd, q⟩ := post_opt p3
  exact hr _ _ _ _ _ ⟨ρ3, S3, dx, d, r3, DV.mono (e2.trans e3) _ _ d1, hd, q⟩
/-! methods of built-in types -/
def mBM (g : Sto → D → List D → Option D) (o : ME) (a : MA) : ME := fun E S => (o E S).bind fun x S1 => (a E S1).bind fun xs S2 => match g S2 x xs with
  | some d => .ok d S2
  | none => .bad
end
end PD

/-! PyD2: statements. -/
namespace PD
open PySem PySem.Spec PyProof.Rows L2

def mSeq (a b : MS) : MS := fun E S => match a E S with
  | .nx E' S' => b E' S'
  | r => r
def mSkip : MS := fun E S => .nx E S
def mBreak : MS := fun E S => .bk E S
def mCont : MS := fun E S => .ct E S
def mIf (c : MT) (a b : MS) : MS := fun E S => (c E S).toS E fun x S1 => if x = true then a E S1 else b E S1
def mRet (a : ME) : MS := fun E S => (a E S).toS E fun d S1 => .rt d S1
def mRetN : MS := fun _ S => .rt .non S
def mDrop (a : ME) : MS := fun E S => (a E S).toS E fun _ S1 => .nx E S1
abbrev MG := D → Evn → Sto → Out Evn
abbrev MGs := List D → Evn → Sto → Out Evn
def gN (i : Nat) : MG := fun d E S => .ok (E.set i (some d)) S
def gsNil : MGs := fun ds E S => match ds with
  | [] => .ok E S
  | _ => .bad
def Out.noex {α : Type} : Out α → Out α
  | .ok a S => .ok a S
  | _ => .bad
@[simp] theorem noex_ok {α : Type} (a : α) (S : Sto) : (Out.ok a S).noex = .ok a S := rfl
def gsCons (g : MG) (r : MGs) : MGs := fun ds E S => match ds with
  | d :: ds => (g d E S).bind fun E' S' => (r ds E' S').noex
  | [] => .bad
def gT (n : Nat) (g : MGs) : MG := fun d E S => match d with
  | .tup xs => if xs.length = n then g xs E S else .bad
  | _ => .bad
def mAsg (a : ME) (g : MG) : MS := fun E S => (a E S).toS E fun d S1 => (g d E S1).toS E fun E' S2 => .nx E' S2
def mSet (i : Nat) (a : ME) : MS := fun E S => (a E S).toS E fun d S1 => .nx (E.set i (some d)) S1
section
variable {X : Cx} {W : WW X.K} {pos : Pos}
theorem sd_of {st : Stmt} {t : TS} {m : MS} (h : PS X st t) (i : ∀ D σ H ρ S E, Rel X.K ρ S H → ER X.K W ρ H E σ → SPost X.K W ρ H D (m E S) → t D σ H) : SD X W st m :=
  PS.imp h fun D σ H ⟨ρ, S, E, r, er, p⟩ => i D σ H ρ S E r er p
theorem bd_of {st : List Stmt} {t : TS} {m : MS} (h : PSs X st t) (i : ∀ D σ H ρ S E, Rel X.K ρ S H → ER X.K W ρ H E σ → SPost X.K W ρ H D (m E S) → t D σ H) : BD X W st m :=
  PSs.imp h fun D σ H ⟨ρ, S, E, r, er, p⟩ => i D σ H ρ S E r er p
theorem bd_nil : BD X W [] mSkip := bd_of pss_nil fun D σ H ρ S E r er p => p ρ H σ r Ext.refl er
theorem bd_one {st : Stmt} {m : MS} (h : SD X W st m) : BD X W [st] m := pss_one h
theorem bd_cons {st : Stmt} {rest : List Stmt} {a b : MS} (h1 : SD X W st a) (h2 : BD X W rest b) : BD X W (st :: rest) (mSeq a b) := by
  refine bd_of (pss_cons h1 h2) fun D σ H ρ S E r er p => ?_
  refine ⟨ρ, S, E, r, er, ?_⟩
  unfold mSeq at p
  cases q : a E S with
  | nx E' S' =>
    rw [q] at p
    exact fun ρ' H' σ' r' e' er' => ⟨ρ', S', E', r', er', p.start e'⟩
  | rt d S' => rw [q] at p; exact p
  | bk E' S' => rw [q] at p; exact p
  | ct E' S' => rw [q] at p; exact p
  | ex e E' S' => rw [q] at p; exact p
  | bad => rw [q] at p; exact p
theorem sd_pass : SD X W (.Pass pos) mSkip := sd_of ps_pass fun D σ H ρ S E r er p => p ρ H σ r Ext.refl er
theorem sd_break : SD X W (.Break pos) mBreak := sd_of ps_break fun D σ H ρ S E r er p => p ρ H σ r Ext.refl er
theorem sd_cont : SD X W (.Continue pos) mCont := sd_of ps_continue fun D σ H ρ S E r er p => p ρ H σ r Ext.refl er
theorem sd_if {c : Expr} {a b : List Stmt} {mc : MT} {ma mb : MS} (hc : TD X W c mc) (ha : BD X W a ma) (hb : BD X W b mb) : SD X W (.If c a b pos) (mIf mc ma mb) := by
  refine sd_of (ps_if hc ha hb) fun D σ H ρ S E r er p => ?_
  refine ⟨ρ, S, E, r, er, (SPost.bind (R := fun _ _ (b c : Bool) => b = c) er p).imp fun x H1 ⟨ρ1, S1, d, r1, e1, d1, p1⟩ => ?_⟩
  subst d1
  cases d with
  | true => rw [if_pos rfl] at p1 ⊢; exact ⟨ρ1, S1, E, r1, er.mono e1, p1⟩
  | false => rw [if_neg (by simp)] at p1 ⊢; exact ⟨ρ1, S1, E, r1, er.mono e1, p1⟩
theorem sd_ret {e : Expr} {m : ME} (h : ED X W e m) : SD X W (.Return (some e) pos) (mRet m) := by
  refine sd_of (ps_ret h) fun D σ H ρ S E r er p => ?_
  refine ⟨ρ, S, E, r, er, (SPost.bind (R := DV X.K) er p).imp fun x H1 ⟨ρ1, S1, d, r1, e1, d1, p1⟩ => ?_⟩
  exact p1 ρ1 H1 x r1 Ext.refl d1
theorem sd_retN : SD X W (.Return none pos) mRetN := sd_of ps_retN fun D σ H ρ S E r er p => p ρ H .non r Ext.refl (by simp [DV])
theorem sd_expr {e : Expr} {m : ME} (h : ED X W e m) (hs : swapsWith e none pos.line X.env = pure false := by rfl) : SD X W (.Expr e pos) (mDrop m) := by
  refine sd_of (ps_expr h hs) fun D σ H ρ S E r er p => ?_
  refine ⟨ρ, S, E, r, er, (SPost.bind (R := DV X.K) er p).imp fun x H1 ⟨ρ1, S1, d, r1, e1, d1, p1⟩ => ?_⟩
  exact p1 ρ1 H1 σ r1 Ext.refl (er.mono e1)
/-! targets -/
def tG (K : PySem.W.Frag) (W : WW K) (g : MG) : TG := fun v σ H Q => ∃ ρ S E d, Rel K ρ S H ∧ ER K W ρ H E σ ∧ DV K ρ H d v ∧ Post K (ER K W) ρ H Q (fun c dx H' => W.w c dx σ H') (g d E S)
def tGs (K : PySem.W.Frag) (W : WW K) (g : MGs) : TGs := fun vs σ H Q => ∃ ρ S E ds, Rel K ρ S H ∧ ER K W ρ H E σ ∧ DVs K ρ H ds vs ∧ Post K (ER K W) ρ H Q (fun c dx H' => W.w c dx σ H') (g ds E S)
def GD (X : Cx) (W : WW X.K) (tg : Expr) (g : MG) : Prop := PG X tg (tG X.K W g)
def GDs (X : Cx) (W : WW X.K) (tg : List Expr) (g : MGs) : Prop := PGs X tg (tGs X.K W g)
theorem PG.imp {tg : Expr} {t t' : TG} (h : PG X tg t) (i : ∀ v σ H Q, t' v σ H Q → t v σ H Q) : PG X tg t' := ⟨fun pins s σ H v u Q I r q => h.run pins s σ H v u Q I r (i _ _ _ _ q)⟩
theorem PGs.imp {tg : List Expr} {t t' : TGs} (h : PGs X tg t) (i : ∀ v σ H Q, t' v σ H Q → t v σ H Q) : PGs X tg t' := ⟨fun pins s σ H v u Q I r q => h.run pins s σ H v u Q I r (i _ _ _ _ q)⟩
theorem gd_name {i : Nat} {tg : Expr} (h : PG X tg (gName i)) (hw : W.fix = none := by rfl) : GD X W tg (gN i) :=
  PG.imp h fun v σ H Q ⟨ρ, S, E, d, r, er, dv, p⟩ => p ρ H _ r Ext.refl (er.set hw i dv)
theorem gds_nil : GDs X W [] gsNil := PGs.imp pgs_nil fun v σ H Q ⟨ρ, S, E, d, r, er, dv, p⟩ => by
  cases d with
  | nil => simp only [DVs] at dv; exact ⟨dv, p ρ H σ r Ext.refl er⟩
  | cons x xs => exact p.elim
theorem Post.noex {α β : Type} {K : PySem.W.Frag} {R : List Addr → Hp → α → β → Prop} {ρ : List Addr} {H : Hp} {Q : β → Hp → Prop} {Z Z' : XQ} {o : Out α} (h : Post K R ρ H Q Z o.noex) : Post K R ρ H Q Z' o := by
  cases o with
  | ok d S => exact h
  | ex e S => exact h.elim
  | bad => exact h
theorem gds_cons {e : Expr} {es : List Expr} {g : MG} {gs : MGs} (h1 : GD X W e g) (h2 : GDs X W es gs) (hs : (assignEach (e :: es) X.env).map (·.2) = assign e X.env :: (assignEach es X.env).map (·.2) := by rfl) : GDs X W (e :: es) (gsCons g gs) := by
  refine PGs.imp (pgs_cons h1 h2 hs) fun vs σ H Q ⟨ρ, S, E, ds, r, er, dv, p⟩ => ?_
  cases ds with
  | nil => exact p.elim
  | cons x xs =>
    simp only [DVs] at dv
    obtain ⟨v, vr, rfl, dx, dr⟩ := dv
    refine ⟨v, vr, rfl, ρ, S, E, x, r, er, dx, (Post.bind (R := ER X.K W) p).imp fun σ1 H1 ⟨ρ1, S1, E1, r1, e1, er1, p1⟩ => ?_⟩
    exact ⟨ρ1, S1, E1, xs, r1, er1, DVs.mono e1 _ _ dr, p1.noex⟩
theorem gd_tup {es : List Expr} {k n : Nat} {gs : MGs} (hc : X.calm = true) (h : GDs X W es gs) (hn : (assignEach es X.env).length = n := by rfl) (hst : (assignEach es X.env).findIdx? (·.1) = none := by rfl) : GD X W (.Tuple es k pos) (gT n gs) := by
  refine PG.imp (pg_tup hc h hn hst) fun v σ H Q ⟨ρ, S, E, d, r, er, dv, p⟩ => ?_
  cases d with
  | tup xs =>
    simp only [DV] at dv
    obtain ⟨a, vs, rfl, h1, h2⟩ := dv
    unfold gT at p
    simp only at p
    by_cases hl : xs.length = n
    · rw [if_pos hl] at p
      exact ⟨a, vs, rfl, h1, by rw [← h2.length]; exact hl, ρ, S, E, xs, r, er, h2, p⟩
    · rw [if_neg hl] at p; exact p.elim
  | _ => exact p.elim
theorem sd_asg {tg e : Expr} {m : ME} {g : MG} (he : ED X W e m) (hg : GD X W tg g) (hs : swapsWithSole [tg] e pos.line X.env = pure false := by rfl) (hw : swappedStores [tg] e X.env = pure none := by rfl)
    (h1 : (assignEach [tg] X.env).map (·.2) = [assign tg X.env] := by rfl) : SD X W (.Assign [tg] e pos) (mAsg m g) := by
  refine sd_of (ps_asg he hg hs hw h1) fun D σ H ρ S E r er p => ?_
  refine ⟨ρ, S, E, r, er, (SPost.bind (R := DV X.K) er p).imp fun x H1 ⟨ρ1, S1, d, r1, e1, d1, p1⟩ => ?_⟩
  refine ⟨ρ1, S1, E, d, r1, er.mono e1, d1, (SPost.bind (R := ER X.K W) (er.mono e1) p1).imp fun σ2 H2 ⟨ρ2, S2, E2, r2, e2, er2, p2⟩ => ?_⟩
  exact p2 ρ2 H2 σ2 r2 Ext.refl er2
theorem sd_set {i : Nat} {e : Expr} {m : ME} {x : Str} {pos' : Pos} (hN : X.N.Nodup) (hi : X.N[i]? = some x) (hx : Loc X.env.scope x) (he : ED X W e m) (hs : swapsWith e (some (.Name x pos')) pos.line X.env = pure false := by rfl)
    (hf : X.fn x = true ∨ X.env.scope.names.lookup x = some .local := by first | exact .inl rfl | exact .inr rfl | assumption) (hw : W.fix = none := by rfl) : SD X W (.Assign [.Name x pos'] e pos) (mSet i m) := by
  refine sd_of (ps_set hN hi hx he hs hf) fun D σ H ρ S E r er p => ?_
  refine ⟨ρ, S, E, r, er, (SPost.bind (R := DV X.K) er p).imp fun x H1 ⟨ρ1, S1, d, r1, e1, d1, p1⟩ => ?_⟩
  exact p1 ρ1 H1 _ r1 Ext.refl ((er.mono e1).set hw i d1)
/-! name op= value -/
def mAug (i : Nat) (g : Sto → D → D → Option D) (a : ME) : MS := fun E S => match E[i]? with
  | some (some x) => (a E S).toS E fun y S1 => (match g S1 x y with
    | some d => .nx (E.set i (some d)) S1
    | none => .bad)
  | _ => .bad
theorem sd_aug {i : Nat} {x : Str} {e : Expr} {m : ME} {op : Operator} {ti : TIp} {pos' : Pos} {g : Sto → D → D → Option D} (hN : X.N.Nodup) (hi : X.N[i]? = some x) (hx : Loc X.env.scope x) (he : ED X W e m) (ho : PIp X op ti) (hr : ∀ x y H Q, rP X.K g x y H Q → ti x y H Q)
    (hf : X.fn x = true ∨ X.env.scope.names.lookup x = some .local := by first | exact .inl rfl | exact .inr rfl | assumption) (hw : W.fix = none := by rfl) : SD X W (.AugAssign (.Name x pos') op e pos) (mAug i g m) := by
  refine sd_of (ps_aug hN hi hx he ho hf) fun D σ H ρ S E r er p => ?_
  unfold mAug at p
  cases q : E[i]? with
  | none => rw [q] at p; exact p.elim
  | some o =>
    cases o with
    | none => rw [q] at p; exact p.elim
    | some d0 =>
      rw [q] at p
      obtain ⟨v, h1, h2⟩ := er.2.2.2 i d0 q
      refine ⟨v, h1, ρ, S, E, r, er, (SPost.bind (R := DV X.K) er p).imp fun y H1 ⟨ρ1, S1, dy, r1, e1, d1, p1⟩ => ?_⟩
      cases hg : g S1 d0 dy with
      | none => rw [hg] at p1; exact p1.elim
      | some d =>
        rw [hg] at p1
        refine hr _ _ _ _ ⟨ρ1, S1, d0, dy, d, r1, DV.mono e1 _ _ h2, d1, hg, fun ρ' H' v' r' e' dv' => ?_⟩
        exact p1 ρ' H' _ r' e' (((er.mono e1).mono e').set hw i dv')
/-! ### while -/
def whileN (c : MT) (b : MS) : Nat → Evn → Sto → Option SO
  | 0, _, _ => none
  | n + 1, E, S => match c E S with
    | .ok true S1 => (match b E S1 with
      | .nx E2 S2 => whileN c b n E2 S2
      | .ct E2 S2 => whileN c b n E2 S2
      | .bk E2 S2 => some (.nx E2 S2)
      | r => some r)
    | .ok false S1 => some (.nx E S1)
    | .ex e S1 => some (.ex e E S1)
    | .bad => some .bad
theorem whileN_mono {c : MT} {b : MS} : ∀ (n : Nat) (E : Evn) (S : Sto) (r : SO), whileN c b n E S = some r → whileN c b (n + 1) E S = some r
  | 0, E, S, r, h => by cases h
  | n + 1, E, S, r, h => by
    unfold whileN at h ⊢
    cases q : c E S with
    | ok x S1 =>
      cases x with
      | false => rw [q] at h; exact h
      | true =>
        rw [q] at h
        simp only at h ⊢
        cases q2 : b E S1 with
        | nx E2 S2 => rw [q2] at h; exact whileN_mono n E2 S2 r h
        | ct E2 S2 => rw [q2] at h; exact whileN_mono n E2 S2 r h
        | bk E2 S2 => rw [q2] at h; exact h
        | rt d S2 => rw [q2] at h; exact h
        | ex e E2 S2 => rw [q2] at h; exact h
        | bad => rw [q2] at h; exact h
    | ex e S1 => rw [q] at h; exact h
    | bad => rw [q] at h; exact h
theorem whileN_le {c : MT} {b : MS} {n m : Nat} {E : Evn} {S : Sto} {r : SO} (h : whileN c b n E S = some r) (hm : n ≤ m) : whileN c b m E S = some r := by
  induction hm with
  | refl => exact h
  | step _ ih => exact whileN_mono _ _ _ _ ih
open Classical in
noncomputable def mWhile (c : MT) (b : MS) : MS := fun E S => if h : ∃ r n, whileN c b n E S = some r then Classical.choose h else .bad
theorem mWhile_of {c : MT} {b : MS} {n : Nat} {E : Evn} {S : Sto} {r : SO} (h : whileN c b n E S = some r) : mWhile c b E S = r := by
  have hx : ∃ r n, whileN c b n E S = some r := ⟨r, n, h⟩
  unfold mWhile
  rw [dif_pos hx]
  obtain ⟨m, hm⟩ := Classical.choose_spec hx
  have h1 := whileN_le h (Nat.le_max_left n m)
  have h2 := whileN_le hm (Nat.le_max_right n m)
  rw [h1] at h2
  exact (Option.some.inj h2).symm
theorem mWhile_some {c : MT} {b : MS} {E : Evn} {S : Sto} (h : mWhile c b E S ≠ .bad) : ∃ n, whileN c b n E S = some (mWhile c b E S) := by
  unfold mWhile at h ⊢
  by_cases hx : ∃ r n, whileN c b n E S = some r
  · rw [dif_pos hx]; exact Classical.choose_spec hx
  · rw [dif_neg hx] at h; exact absurd rfl h
/-- one turn -/
theorem mWhile_step {c : MT} {b : MS} {E E2 : Evn} {S S1 S2 : Sto} (h : c E S = .ok true S1) (hb : b E S1 = .nx E2 S2) : mWhile c b E S = mWhile c b E2 S2 := by
  by_cases hx : ∃ r n, whileN c b n E2 S2 = some r
  · obtain ⟨r, n, hn⟩ := hx
    rw [mWhile_of hn]
    exact mWhile_of (n := n + 1) (by unfold whileN; rw [h]; simp only; rw [hb]; exact hn)
  · have hy : ¬ ∃ r n, whileN c b n E S = some r := fun ⟨r, n, hn⟩ => by
      cases n with
      | zero => cases hn
      | succ n =>
        unfold whileN at hn
        rw [h] at hn
        simp only at hn
        rw [hb] at hn
        exact hx ⟨r, n, hn⟩
    unfold mWhile
    rw [dif_neg hx, dif_neg hy]
theorem mWhile_stepC {c : MT} {b : MS} {E E2 : Evn} {S S1 S2 : Sto} (h : c E S = .ok true S1) (hb : b E S1 = .ct E2 S2) : mWhile c b E S = mWhile c b E2 S2 := by
  by_cases hx : ∃ r n, whileN c b n E2 S2 = some r
  · obtain ⟨r, n, hn⟩ := hx
    rw [mWhile_of hn]
    exact mWhile_of (n := n + 1) (by unfold whileN; rw [h]; simp only; rw [hb]; exact hn)
  · have hy : ¬ ∃ r n, whileN c b n E S = some r := fun ⟨r, n, hn⟩ => by
      cases n with
      | zero => cases hn
      | succ n =>
        unfold whileN at hn
        rw [h] at hn
        simp only at hn
        rw [hb] at hn
        exact hx ⟨r, n, hn⟩
    unfold mWhile
    rw [dif_neg hx, dif_neg hy]
theorem mWhile_done {c : MT} {b : MS} {E : Evn} {S S1 : Sto} (h : c E S = .ok false S1) : mWhile c b E S = .nx E S1 := mWhile_of (n := 1) (by unfold whileN; rw [h])
theorem mWhile_ret {c : MT} {b : MS} {E : Evn} {S S1 S2 : Sto} {d : D} (h : c E S = .ok true S1) (hb : b E S1 = .rt d S2) : mWhile c b E S = .rt d S2 := mWhile_of (n := 1) (by unfold whileN; rw [h]; simp only; rw [hb])
theorem mWhile_brk {c : MT} {b : MS} {E E2 : Evn} {S S1 S2 : Sto} (h : c E S = .ok true S1) (hb : b E S1 = .bk E2 S2) : mWhile c b E S = .nx E2 S2 := mWhile_of (n := 1) (by unfold whileN; rw [h]; simp only; rw [hb])
theorem mWhile_exc {c : MT} {b : MS} {E E2 : Evn} {S S1 S2 : Sto} {e : Exn} (h : c E S = .ok true S1) (hb : b E S1 = .ex e E2 S2) : mWhile c b E S = .ex e E2 S2 := mWhile_of (n := 1) (by unfold whileN; rw [h]; simp only; rw [hb])
theorem sd_while {c : Expr} {body : List Stmt} {mc : MT} {mb : MS} (hp : PassesOwn (model X.prog X.w) X.A X.env X.xe) (hc : TD X W c mc) (hb : BD X W body mb) : SD X W (.While c body [] pos) (mWhile mc mb) := by
  refine sd_of (ps_while hp hc hb) fun D σ H ρ S E r er p => ?_
  have hne : mWhile mc mb E S ≠ .bad := fun z => by rw [z] at p; exact p
  obtain ⟨n, hn⟩ := mWhile_some hne
  generalize mWhile mc mb E S = res at p hn hne
  refine ⟨fun m σ1 H1 => ∃ ρ1 S1 E1, Rel X.K ρ1 S1 H1 ∧ Ext X.K ρ H ρ1 H1 ∧ ER X.K W ρ1 H1 E1 σ1 ∧ whileN mc mb m E1 S1 = some res, ⟨n, ρ, S, E, r, Ext.refl, er, hn⟩, ?_⟩
  rintro m σ1 H1 ⟨ρ1, S1, E1, r1, e1, er1, hm⟩
  cases m with
  | zero => cases hm
  | succ m =>
    refine ⟨ρ1, S1, E1, r1, er1, ?_⟩
    unfold whileN at hm
    cases q : mc E1 S1 with
    | bad =>
      rw [q] at hm
      exact absurd (Option.some.inj hm).symm hne
    | ex e S2 =>
      rw [q] at hm
      cases Option.some.inj hm
      exact fun ρ' H' c dx r' e' x => p ρ' H' σ1 c dx r' (e1.trans e') (er1.mono e') x
    | ok x S2 =>
      rw [q] at hm
      intro ρ2 H2 v r2 e2 hv
      subst hv
      cases x with
      | false =>
        rw [if_neg (by simp)]
        cases Option.some.inj hm
        exact p ρ2 H2 σ1 r2 (e1.trans e2) (er1.mono e2)
      | true =>
        rw [if_pos rfl]
        simp only at hm
        refine ⟨fun σ' H' => ∃ ρ1 S1 E1, Rel X.K ρ1 S1 H' ∧ Ext X.K ρ H ρ1 H' ∧ ER X.K W ρ1 H' E1 σ' ∧ whileN mc mb m E1 S1 = some res, fun σ' H' h => ⟨m, Nat.lt_succ_self m, h⟩, ρ2, S2, E1, r2, er1.mono e2, ?_⟩
        cases q2 : mb E1 S2 with
        | nx E3 S3 => rw [q2] at hm; exact fun ρ' H' σ' r' e' er' => ⟨ρ', S3, E3, r', (e1.trans e2).trans e', er', hm⟩
        | ct E3 S3 => rw [q2] at hm; exact fun ρ' H' σ' r' e' er' => ⟨ρ', S3, E3, r', (e1.trans e2).trans e', er', hm⟩
        | bk E3 S3 =>
          rw [q2] at hm
          cases Option.some.inj hm
          exact fun ρ' H' σ' r' e' er' => p ρ' H' σ' r' ((e1.trans e2).trans e') er'
        | rt d S3 =>
          rw [q2] at hm
          cases Option.some.inj hm
          exact fun ρ' H' v r' e' dv => p ρ' H' v r' ((e1.trans e2).trans e') dv
        | ex e E3 S3 =>
          rw [q2] at hm
          cases Option.some.inj hm
          exact fun ρ' H' σ' c dx r' e' er' x => p ρ' H' σ' c dx r' ((e1.trans e2).trans e') er' x
        | bad =>
          rw [q2] at hm
          exact absurd (Option.some.inj hm).symm hne
/-! ### for -/
/-- what a loop walks: its items; the list that must stand as it stood, where it is one that may change -/
structure ItD where
  items : List D
  chk : Option (Nat × List D)
open Classical in
noncomputable def chkOk (c : Option (Nat × List D)) (S : Sto) : Prop := match c with
  | none => True
  | some (n, xs) => S[n]? = some (.lst xs)
abbrev MI := Evn → Sto → Out ItD
open Classical in
noncomputable def forD (c : Option (Nat × List D)) (g : MG) (b : MS) : List D → Evn → Sto → SO
  | [], E, S => if chkOk c S then .nx E S else .bad
  | x :: r, E, S => if chkOk c S then (g x E S).toS E fun E1 S1 => (match b E1 S1 with
      | .nx E2 S2 => forD c g b r E2 S2
      | .ct E2 S2 => forD c g b r E2 S2
      | .bk E2 S2 => .nx E2 S2
      | o => o) else .bad
noncomputable def mFor (it : MI) (g : MG) (b : MS) : MS := fun E S => (it E S).toS E fun i S1 => forD i.chk g b i.items E S1
def Walks (K : PySem.W.Frag) (ρ0 : List Addr) (H0 : Hp) (i : ItD) (J : L2.It) : Prop := ∀ ρ S H, Rel K ρ S H → Ext K ρ0 H0 ρ H → chkOk i.chk S →
  (∀ (n : Nat) (d : D), i.items[n]? = some d → J.go n H ∧ ∀ x H', J.yld n H x H' → Rel K ρ S H' ∧ Ext K ρ H ρ H' ∧ DV K ρ H' d x) ∧ J.stop i.items.length H
theorem Walks.mono {K : PySem.W.Frag} {ρ0 ρ1 : List Addr} {H0 H1 : Hp} {i : ItD} {J : L2.It} (h : Walks K ρ0 H0 i J) (e : Ext K ρ0 H0 ρ1 H1) : Walks K ρ1 H1 i J := fun ρ S H r x c => h ρ S H r (e.trans x) c
def tI (K : PySem.W.Frag) (W : WW K) (m : MI) : TI := fun σ H R => ∃ ρ S E, Rel K ρ S H ∧ ER K W ρ H E σ ∧ Post K (Walks K) ρ H R (fun c dx H' => W.w c dx σ H') (m E S)
def ID (X : Cx) (W : WW X.K) (tg it : Expr) (m : MI) : Prop := PI X tg it (tI X.K W m)
theorem drop_cons_of {α : Type} {l : List α} {i : Nat} {x : α} (h : l[i]? = some x) : l.drop i = x :: l.drop (i + 1) := by
  have hi := (List.getElem?_eq_some_iff.mp h).1
  rw [List.drop_eq_getElem_cons hi]
  congr 1
  exact (List.getElem?_eq_some_iff.mp h).2
theorem sd_for {tg it : Expr} {body : List Stmt} {mi : MI} {g : MG} {mb : MS} (hp : PassesOwn (model X.prog X.w) X.A X.env X.xe) (hc : X.calm = true) (hi : ID X W tg it mi) (hg : GD X W tg g) (hb : BD X W body mb)
    (hs : ∀ x, foldedSetIterable it X.env x = pure x := by intro _; rfl) : SD X W (.For tg it body [] pos) (mFor mi g mb) := by
  refine sd_of (ps_for hp hc hi hg hb hs) fun D σ H ρ S E r er p => ?_
  refine ⟨ρ, S, E, r, er, (SPost.bind (R := Walks X.K) er p).imp fun J H1 ⟨ρ1, S1, i, r1, e1, w1, p1⟩ => ?_⟩
  refine ⟨fun n m σ2 H2 => m = i.items.length - n ∧ n ≤ i.items.length ∧ ∃ ρ2 S2 E2, Rel X.K ρ2 S2 H2 ∧ Ext X.K ρ1 H1 ρ2 H2 ∧ ER X.K W ρ2 H2 E2 σ2 ∧ SPost X.K W ρ2 H2 D (forD i.chk g mb (i.items.drop n) E2 S2),
    ⟨_, rfl, Nat.zero_le _, ρ1, S1, E, r1, Ext.refl, er.mono e1, by simpa using p1⟩, ?_⟩
  rintro n m σ2 H2 ⟨rfl, hn, ρ2, S2, E2, r2, e2, er2, p2⟩
  have hck : chkOk i.chk S2 := Classical.byContradiction fun z => by
    cases q : i.items.drop n with
    | nil => rw [q, forD, if_neg z] at p2; exact p2
    | cons x rr => rw [q, forD, if_neg z] at p2; exact p2
  obtain ⟨w2, w3⟩ := w1 ρ2 S2 H2 r2 e2 hck
  by_cases hlt : n < i.items.length
  · right
    have hd : i.items[n]? = some i.items[n] := List.getElem?_eq_getElem hlt
    obtain ⟨go, yl⟩ := w2 n _ hd
    refine ⟨go, fun σ' H' => n + 1 ≤ i.items.length ∧ ∃ ρ3 S3 E3, Rel X.K ρ3 S3 H' ∧ Ext X.K ρ1 H1 ρ3 H' ∧ ER X.K W ρ3 H' E3 σ' ∧ SPost X.K W ρ3 H' D (forD i.chk g mb (i.items.drop (n + 1)) E3 S3), fun σ' H' ⟨h1, h2⟩ => ⟨i.items.length - (n + 1), by omega, rfl, h1, h2⟩, fun x H3 hy => ?_⟩
    obtain ⟨r3, e3, d3⟩ := yl x H3 hy
    rw [drop_cons_of hd, forD, if_pos hck] at p2
    refine ⟨ρ2, S2, E2, _, r3, er2.mono e3, d3, (SPost.bind (R := ER X.K W) (er2.mono e3) (p2.start e3)).imp fun σ4 H4 ⟨ρ4, S4, E4, r4, e4, er4, p4⟩ => ?_⟩
    refine ⟨ρ4, S4, E4, r4, er4, ?_⟩
    have ee := (e2.trans e3).trans e4
    cases q : mb E4 S4 with
    | nx E5 S5 => rw [q] at p4; exact fun ρ' H' σ' r' e' er' => ⟨hlt, ρ', S5, E5, r', ee.trans e', er', p4.start e'⟩
    | ct E5 S5 => rw [q] at p4; exact fun ρ' H' σ' r' e' er' => ⟨hlt, ρ', S5, E5, r', ee.trans e', er', p4.start e'⟩
    | bk E5 S5 => rw [q] at p4; exact p4
    | rt d S5 => rw [q] at p4; exact p4
    | ex e E5 S5 => rw [q] at p4; exact p4
    | bad => rw [q] at p4; exact p4
  · left
    have hn2 : n = i.items.length := by omega
    subst hn2
    rw [List.drop_length, forD, if_pos hck] at p2
    exact ⟨w3, p2 ρ2 H2 σ2 r2 Ext.refl er2⟩
/-! what may be walked -/
def rngD (lo : Int) (n : Nat) : List D := (List.range n).map fun (i : Nat) => D.int (lo + (i : Int))
theorem rngD_get {lo : Int} {n i : Nat} {d : D} (h : (rngD lo n)[i]? = some d) : i < n ∧ d = .int (lo + (i : Int)) := by
  unfold rngD at h
  rw [List.getElem?_map] at h
  by_cases hi : i < n
  · rw [List.getElem?_eq_getElem (by simpa using hi)] at h
    simp at h
    exact ⟨hi, h.symm⟩
  · rw [List.getElem?_eq_none (by simpa using hi)] at h
    cases h
theorem walks_range {K : PySem.W.Frag} {ρ : List Addr} {H : Hp} {lo : Int} {n : Nat} : Walks K ρ H ⟨rngD lo n, none⟩ (Itr lo n) := by
  intro ρ1 S H1 r e c
  refine ⟨fun i d hd => ?_, by simp [rngD, Itr]⟩
  obtain ⟨h1, rfl⟩ := rngD_get hd
  refine ⟨h1, fun x H' hy => ?_⟩
  obtain ⟨rfl, rfl⟩ := hy
  exact ⟨r, Ext.refl, by simp [DV]⟩
def small62 (j : Int) : Prop := -(2 ^ 62) ≤ j ∧ j < 2 ^ 62
def int1 : List D → Option Int
  | [.int j] => some j
  | _ => none
def int2 : List D → Option (Int × Int)
  | [.int i, .int j] => some (i, j)
  | _ => none
theorem int1_some {ds : List D} {j : Int} (h : int1 ds = some j) : ds = [.int j] := by
  unfold int1 at h
  split at h
  · cases h; rfl
  · cases h
theorem int2_some {ds : List D} {i j : Int} (h : int2 ds = some (i, j)) : ds = [.int i, .int j] := by
  unfold int2 at h
  split at h
  · cases h; rfl
  · cases h
open Classical in
noncomputable def iRange1 (a : MA) : MI := fun E S => (a E S).bind fun ds S1 => match int1 ds with
  | some j => if small62 j then .ok ⟨rngD 0 j.toNat, none⟩ S1 else .bad
  | none => .bad
open Classical in
noncomputable def iRange2 (a : MA) : MI := fun E S => (a E S).bind fun ds S1 => match int2 ds with
  | some (i, j) => if small62 i ∧ small62 j then .ok ⟨rngD i (j - i).toNat, none⟩ S1 else .bad
  | none => .bad
theorem PI.impI {tg e : Expr} {t : TI} {m : MI} (h : PI X tg e t) (i : ∀ σ H R ρ S E, Rel X.K ρ S H → ER X.K W ρ H E σ → Post X.K (Walks X.K) ρ H R (fun c dx H' => W.w c dx σ H') (m E S) → t σ H R) : ID X W tg e m :=
  PI.imp h fun σ H R ⟨ρ, S, E, r, er, p⟩ => i σ H R ρ S E r er p
theorem dvs_int1 {K : PySem.W.Frag} {ρ : List Addr} {H : Hp} {j : Int} {vs : List V} (h : DVs K ρ H [.int j] vs) : vs = [.int j] := by
  simp only [DVs, DV] at h
  obtain ⟨v, r, rfl, rfl, rfl⟩ := h
  rfl
theorem dvs_int2 {K : PySem.W.Frag} {ρ : List Addr} {H : Hp} {i j : Int} {vs : List V} (h : DVs K ρ H [.int i, .int j] vs) : vs = [.int i, .int j] := by
  simp only [DVs, DV] at h
  obtain ⟨v, r, rfl, rfl, w, q, rfl, rfl, rfl⟩ := h
  rfl
theorem id_range1 {tg a : Expr} {ma : MA} {p : Pos} (hg : Gl X "range") (hm : X.mg "range" = none) (ha : AD X W [a] ma) (hs : starEach [a] X.env = [(false, eval a X.env)] := by rfl) : ID X W tg (.Call (.Name "range" p) [a] [] pos) (iRange1 ma) := by
  refine PI.impI (pi_range1 hg hm ha hs) fun σ H R ρ S E r er p => ?_
  refine ⟨ρ, S, E, r, er, (Post.bind (R := DVs X.K) p).imp fun vs H1 ⟨ρ1, S1, ds, r1, e1, d1, p1⟩ => ?_⟩
  cases q : int1 ds with
  | none => rw [q] at p1; exact p1.elim
  | some j =>
    rw [q] at p1
    have := int1_some q
    subst this
    simp only at p1
    by_cases hj : small62 j
    · rw [if_pos hj] at p1
      exact ⟨j, dvs_int1 d1, hj.1, hj.2, p1 ρ1 H1 _ r1 Ext.refl walks_range⟩
    · rw [if_neg hj] at p1; exact p1.elim
theorem id_range2 {tg a b : Expr} {ma : MA} {p : Pos} (hg : Gl X "range") (hm : X.mg "range" = none) (ha : AD X W [a, b] ma) (hs : starEach [a, b] X.env = [(false, eval a X.env), (false, eval b X.env)] := by rfl) (hs2 : starEach [b] X.env = [(false, eval b X.env)] := by rfl) : ID X W tg (.Call (.Name "range" p) [a, b] [] pos) (iRange2 ma) := by
  refine PI.impI (pi_range2 hg hm ha hs hs2) fun σ H R ρ S E r er p => ?_
  refine ⟨ρ, S, E, r, er, (Post.bind (R := DVs X.K) p).imp fun vs H1 ⟨ρ1, S1, ds, r1, e1, d1, p1⟩ => ?_⟩
  cases q : int2 ds with
  | none => rw [q] at p1; exact p1.elim
  | some ij =>
    obtain ⟨i, j⟩ := ij
    rw [q] at p1
    have := int2_some q
    subst this
    simp only at p1
    by_cases hj : small62 i ∧ small62 j
    · rw [if_pos hj] at p1
      exact ⟨i, j, dvs_int2 d1, ⟨hj.1.1, hj.1.2, hj.2.1, hj.2.2⟩, p1 ρ1 H1 _ r1 Ext.refl walks_range⟩
    · rw [if_neg hj] at p1; exact p1.elim
/-- the items of a value: a tuple, a list -/
def iSeq (a : ME) : MI := fun E S => (a E S).bind fun d S1 => match d with
  | .tup xs => .ok ⟨xs, none⟩ S1
  | .lst xs => .ok ⟨xs, none⟩ S1
  | .fz xs => .ok ⟨xs, none⟩ S1
  | .loc n => (match S1[n]? with
    | some (.lst xs) => .ok ⟨xs, some (n, xs)⟩ S1
    | _ => .bad)
  | _ => .bad
theorem walks_tup {ρ : List Addr} {H : Hp} {xs : List D} {vs : List V} {a : Addr} (h1 : SqT X.K H a vs) (h2 : DVs X.K ρ H xs vs) : Walks X.K ρ H ⟨xs, none⟩ (Itt X.K a) := by
  intro ρ1 S H1 r e c
  have s1 := e.tup _ _ h1
  have d1 := DVs.mono e _ _ h2
  refine ⟨fun i d hd => ?_, ⟨vs, s1, by rw [d1.length]; exact Nat.le_refl _⟩⟩
  obtain ⟨v, hv, dv⟩ := d1.get hd
  refine ⟨⟨vs, v, s1, hv⟩, fun x H' hy => ?_⟩
  obtain ⟨rfl, hy⟩ := hy
  have := hy vs s1
  rw [hv] at this
  cases this
  exact ⟨r, Ext.refl, dv⟩
theorem walks_lst {ρ : List Addr} {H : Hp} {xs : List D} {vs : List V} {a : Addr} (h1 : LstP ρ H a vs) (h2 : DVs X.K ρ H xs vs) : Walks X.K ρ H ⟨xs, none⟩ (Itl X.K a) := by
  intro ρ1 S H1 r e c
  have s1 : SqL X.K H1 a vs := (h1.mono e).seq
  have d1 := DVs.mono e _ _ h2
  refine ⟨fun i d hd => ?_, ⟨vs, s1, by rw [d1.length]; exact Nat.le_refl _⟩⟩
  obtain ⟨v, hv, dv⟩ := d1.get hd
  refine ⟨⟨vs, v, s1, hv⟩, fun x H' hy => ?_⟩
  obtain ⟨rfl, hy⟩ := hy
  have := hy vs s1
  rw [hv] at this
  cases this
  exact ⟨r, Ext.refl, dv⟩
theorem walks_fz {ρ : List Addr} {H : Hp} {xs : List D} {vs : List V} {a : Addr} (h1 : FzP X.K H a vs) (h2 : DVs X.K ρ H xs vs) : Walks X.K ρ H ⟨xs, none⟩ (Itl X.K a) := by
  intro ρ1 S H1 r e c
  have s1 := (h1.mono e).seq
  have d1 := DVs.mono e _ _ h2
  refine ⟨fun i d hd => ?_, ⟨vs, s1, by rw [d1.length]; exact Nat.le_refl _⟩⟩
  obtain ⟨v, hv, dv⟩ := d1.get hd
  refine ⟨⟨vs, v, s1, hv⟩, fun x H' hy => ?_⟩
  obtain ⟨rfl, hy⟩ := hy
  have := hy vs s1
  rw [hv] at this
  cases this
  exact ⟨r, Ext.refl, dv⟩
theorem Rel.lst {K : PySem.W.Frag} {ρ : List Addr} {S : Sto} {H : Hp} (r : Rel K ρ S H) {n : Nat} {xs : List D} {a : Addr} (h : S[n]? = some (.lst xs)) (ha : ρ[n]? = some a) : ∃ vs, H a = some (.lst vs) ∧ DVs K ρ H xs vs := r.at_ n _ a h ha
theorem walks_loc {ρ : List Addr} {H : Hp} {xs : List D} {n : Nat} {a : Addr} (ha : ρ[n]? = some a) : Walks X.K ρ H ⟨xs, some (n, xs)⟩ (Itl X.K a) := by
  intro ρ1 S H1 r e c
  obtain ⟨t, rfl⟩ := e.pre
  have ha1 : (ρ ++ t)[n]? = some a := by rw [List.getElem?_append_left (List.getElem?_eq_some_iff.mp ha).1]; exact ha
  obtain ⟨vs, h1, d1⟩ := r.lst c ha1
  refine ⟨fun i d hd => ?_, ⟨vs, SqL.of h1, by rw [d1.length]; exact Nat.le_refl _⟩⟩
  obtain ⟨v, hv, dv⟩ := d1.get hd
  refine ⟨⟨vs, v, SqL.of h1, hv⟩, fun x H' hy => ?_⟩
  obtain ⟨rfl, hy⟩ := hy
  have := hy vs (SqL.of h1)
  rw [hv] at this
  cases this
  exact ⟨r, Ext.refl, dv⟩
theorem PI.or {tg e : Expr} {t u : TI} (h : PI X tg e t) (k : PI X tg e u) : PI X tg e (fun σ H R => t σ H R ∨ u σ H R) :=
  ⟨fun pins s σ H R I q => q.elim (h.run pins s σ H R I) (k.run pins s σ H R I)⟩
theorem id_seq {tg e : Expr} {m : ME} (h : ED X W e m) : ID X W tg e (iSeq m) := by
  refine PI.impI (PI.or (pi_tup h) (pi_list h)) fun σ H R ρ S E r er p => ?_
  unfold iSeq at p
  cases q : m E S with
  | bad => rw [q] at p; exact p.elim
  | ex e S1 => rw [q] at p; exact .inl ⟨ρ, S, E, r, er, by rw [q]; exact p⟩
  | ok d S1 =>
    rw [q, bind_ok] at p
    cases d with
    | tup xs =>
      refine .inl ⟨ρ, S, E, r, er, ?_⟩
      rw [q]
      intro ρ1 H1 v r1 e1 dv
      simp only [DV] at dv
      obtain ⟨a, vs, rfl, h1, h2⟩ := dv
      exact ⟨a, rfl, ⟨vs, h1⟩, p ρ1 H1 _ r1 e1 (walks_tup h1 h2)⟩
    | lst xs =>
      refine .inr ⟨ρ, S, E, r, er, ?_⟩
      rw [q]
      intro ρ1 H1 v r1 e1 dv
      simp only [DV] at dv
      obtain ⟨a, vs, rfl, h1, h2⟩ := dv
      exact ⟨a, rfl, ⟨vs, h1.seq⟩, p ρ1 H1 _ r1 e1 (walks_lst h1 h2)⟩
    | fz xs =>
      refine .inr ⟨ρ, S, E, r, er, ?_⟩
      rw [q]
      intro ρ1 H1 v r1 e1 dv
      simp only [DV] at dv
      obtain ⟨a, vs, rfl, h1, h2⟩ := dv
      exact ⟨a, rfl, ⟨vs, h1.seq⟩, p ρ1 H1 _ r1 e1 (walks_fz h1 h2)⟩
    | loc n =>
      refine .inr ⟨ρ, S, E, r, er, ?_⟩
      rw [q]
      intro ρ1 H1 v r1 e1 dv
      simp only [DV] at dv
      obtain ⟨a, rfl, h1⟩ := dv
      simp only at p
      cases hS : S1[n]? with
      | none => rw [hS] at p; exact p.elim
      | some o =>
        cases o with
        | lst xs =>
          rw [hS] at p
          obtain ⟨vs, h2, d2⟩ := r1.lst hS h1
          exact ⟨a, rfl, ⟨vs, SqL.of h2⟩, p ρ1 H1 _ r1 e1 (walks_loc h1)⟩
        | _ => rw [hS] at p; exact p.elim
    | _ => exact p.elim
/-! ### a def's body -/
def runB (N : Nat) (b : MS) : MF := fun ds S => match b (ds.map some ++ List.replicate (N - ds.length) none) S with
  | .nx _ S' => .ok .non S'
  | .rt d S' => .ok d S'
  | .ex e _ S' => .ex e S'
  | _ => .bad
theorem er_start {K : PySem.W.Frag} {W : WX} {ρ : List Addr} {H : Hp} {ds : List D} {vs : List V} {N : List Str} (h : DVs K ρ H ds vs) : ER K (WW.of W) ρ H (ds.map some ++ List.replicate (N.length - ds.length) none) (L2.start N vs) := by
  unfold L2.start
  refine ⟨trivial, fun i a z => (by cases z), by simp [h.length], fun i d e => ?_⟩
  by_cases hi : i < ds.length
  · rw [List.getElem?_append_left (by simpa using hi), List.getElem?_map] at e
    cases q : ds[i]? with
    | none => rw [q] at e; cases e
    | some d' =>
      rw [q] at e
      simp only [Option.map_some, Option.some.injEq] at e
      subst e
      obtain ⟨v, h1, h2⟩ := h.get q
      refine ⟨v, ?_, h2⟩
      rw [List.getElem?_append_left (by simpa [← h.length] using hi), List.getElem?_map, h1]
      rfl
  · rw [List.getElem?_append_right (by simpa using hi)] at e
    rw [List.getElem?_replicate] at e
    split at e <;> cases e
theorem spM_len {K : PySem.W.Frag} {n : Nat} {m : MF} (vs : List V) (H : Hp) (Q : VK) (E : XK) (h : spM K n m vs H Q E) : vs.length = n := by
  obtain ⟨ρ, S, ds, r, dv, hl, p⟩ := h
  rw [← dv.length]; exact hl
/-- a def by its body -/
theorem fn_run {P : Program} {w : World} {K : PySem.W.Frag} {mg : Str → Option Value} {base : Heap} {x qual : Str} {params : Arguments} {body : List Stmt} {scope : Scope} {dvs : List V} {kws : List (Str × V)} {f : Addr} {fd : FuncData} {k : Nat} {N ps : List Str} {b : MS} {n : Nat}
    (F : FunD K x qual params body scope dvs kws f fd) (Sc : FnScope N ps scope) (hn : ps.length = n)
    (hb : ∀ (cdv : Value) (A : Around) (outer : List Env) (s : Shared) (H : Hp) (E : XK), Room k (A.deeper (envOfC qual scope s.heap.objs.size f cdv)) → BD (cxOf (L2.CX P w) P w K mg base N qual scope f cdv A outer s H E) (WW.of (K := K) fun c d _ H => E c d H) body b) :
    FnOk P w K mg base (L2.CX P w) (k + 1) f fd ps (spM K n (runB N.length b)) := by
  refine F.ok Sc (fun vs H Q E h => by rw [hn]; exact spM_len vs H Q E h) (fun cdv A outer s H vs Q E hr h => ⟨_, hb cdv A outer s H E hr, ?_⟩)
  obtain ⟨ρ, S, ds, r, dv, hl, p⟩ := h
  refine ⟨ρ, S, _, r, er_start dv, ?_⟩
  unfold runB at p
  cases q : b (ds.map some ++ List.replicate (N.length - ds.length) none) S with
  | nx E' S' => rw [q] at p; exact fun ρ' H' σ' r' e' er' => p ρ' H' .non r' e' (by simp [DV])
  | rt d S' => rw [q] at p; exact p
  | bk E' S' => rw [q] at p; exact p.elim
  | ct E' S' => rw [q] at p; exact p.elim
  | ex e E' S' => rw [q] at p; exact fun ρ' H' σ' c dx r' e' er' x => p ρ' H' c dx r' e' x
  | bad => rw [q] at p; exact p
end
end PD

/-! PyD3: the operators and the built-ins. -/
namespace PD
open PySem PySem.Spec PyProof.Rows L2
section
variable {X : Cx} {W : WW X.K} {pos : Pos}
/-! ### reading values -/
theorem dv_int {K : PySem.W.Frag} {ρ : List Addr} {H : Hp} {i : Int} {v : V} : DV K ρ H (.int i) v ↔ v = .int i := by simp [DV]
theorem dv_bl {K : PySem.W.Frag} {ρ : List Addr} {H : Hp} {i : Bool} {v : V} : DV K ρ H (.bl i) v ↔ v = .bl i := by simp [DV]
theorem dv_str {K : PySem.W.Frag} {ρ : List Addr} {H : Hp} {i : Tx} {v : V} : DV K ρ H (.str i) v ↔ v = sv i := by simp [DV]
theorem dv_non {K : PySem.W.Frag} {ρ : List Addr} {H : Hp} {v : V} : DV K ρ H .non v ↔ v = .non := by simp [DV]
/-- the list at a value, tracked by itself -/
def seqL (S : Sto) : D → Option (List D)
  | .lst xs => some xs
  | .loc n => (match S[n]? with
    | some (.lst xs) => some xs
    | _ => none)
  | _ => none
/-- the same, the locked ones too -/
def seqF (S : Sto) : D → Option (List D)
  | .lst xs => some xs
  | .fz xs => some xs
  | .loc n => (match S[n]? with
    | some (.lst xs) => some xs
    | _ => none)
  | _ => none
theorem seqL_ok {K : PySem.W.Frag} {ρ : List Addr} {S : Sto} {H : Hp} (r : Rel K ρ S H) {d : D} {v : V} {xs : List D} (h : DV K ρ H d v) (q : seqL S d = some xs) : ∃ a vs, v = .ref a ∧ H a = some (.lst vs) ∧ DVs K ρ H xs vs := by
  cases d with
  | lst ys =>
    cases q
    simp only [DV] at h
    obtain ⟨a, vs, rfl, h1, h2⟩ := h
    exact ⟨a, vs, rfl, h1.2, h2⟩
  | loc n =>
    simp only [DV] at h
    obtain ⟨a, rfl, h1⟩ := h
    unfold seqL at q
    simp only at q
    cases e : S[n]? with
    | none => rw [e] at q; cases q
    | some o =>
      cases o with
      | lst ys =>
        rw [e] at q
        cases q
        obtain ⟨vs, h2, d2⟩ := r.lst e h1
        exact ⟨a, vs, rfl, h2, d2⟩
      | _ => rw [e] at q; cases q
  | _ => cases q
theorem seqF_ok {K : PySem.W.Frag} {ρ : List Addr} {S : Sto} {H : Hp} (r : Rel K ρ S H) {d : D} {v : V} {xs : List D} (h : DV K ρ H d v) (q : seqF S d = some xs) : ∃ a vs, v = .ref a ∧ SqL K H a vs ∧ DVs K ρ H xs vs := by
  cases d with
  | fz ys =>
    cases q
    simp only [DV] at h
    obtain ⟨a, vs, rfl, h1, h2⟩ := h
    exact ⟨a, vs, rfl, h1.seq, h2⟩
  | lst ys =>
    cases q
    obtain ⟨a, vs, rfl, h1, h2⟩ := seqL_ok r h (xs := xs) rfl
    exact ⟨a, vs, rfl, SqL.of h1, h2⟩
  | loc n =>
    obtain ⟨a, vs, rfl, h1, h2⟩ := seqL_ok r h (xs := xs) q
    exact ⟨a, vs, rfl, SqL.of h1, h2⟩
  | _ => cases q
theorem tup_ok {K : PySem.W.Frag} {ρ : List Addr} {H : Hp} {v : V} {xs : List D} (h : DV K ρ H (.tup xs) v) : ∃ a vs, v = .ref a ∧ SqT K H a vs ∧ DVs K ρ H xs vs := by
  simp only [DV] at h
  exact h
/-! ### + -/
open Classical in
noncomputable def catL (a b : List D) : Option D := if sizeOk (a.length + b.length) then some (.lst (a ++ b)) else none
open Classical in
noncomputable def gAdd (S : Sto) (x y : D) : Option D := match x, y with
  | .int i, .int j => some (.int (i + j))
  | .str a, .str b => if sizeOk (a.length + b.length) then some (.str (a ++ b)) else none
  | .tup a, .tup b => if sizeOk (a.length + b.length) then some (.tup (a ++ b)) else none
  | x, y => (match seqL S x, seqL S y with
    | some a, some b => catL a b
    | _, _ => none)
theorem sv_len (a : Tx) : (⟨a.toArray⟩ : Str).length = a.length := by simp [Str.length]
theorem sv_cat (a b : Tx) : (⟨a.toArray⟩ : Str) ++ (⟨b.toArray⟩ : Str) = ⟨(a ++ b).toArray⟩ := by
  show (⟨a.toArray ++ b.toArray⟩ : Str) = _
  simp
theorem post_int {K : PySem.W.Frag} {ρ : List Addr} {S : Sto} {H : Hp} {Q : VK} {i : Int} (r : Rel K ρ S H) (q : ∀ ρ' H' v, Rel K ρ' S H' → Ext K ρ H ρ' H' → DV K ρ' H' (.int i) v → Q v H') : Q (.int i) H := q ρ H _ r Ext.refl (by simp [DV])
theorem post_bl {K : PySem.W.Frag} {ρ : List Addr} {S : Sto} {H : Hp} {Q : VK} {i : Bool} (r : Rel K ρ S H) (q : ∀ ρ' H' v, Rel K ρ' S H' → Ext K ρ H ρ' H' → DV K ρ' H' (.bl i) v → Q v H') : Q (.bl i) H := q ρ H _ r Ext.refl (by simp [DV])
theorem post_str {K : PySem.W.Frag} {ρ : List Addr} {S : Sto} {H : Hp} {Q : VK} {i : Tx} (r : Rel K ρ S H) (q : ∀ ρ' H' v, Rel K ρ' S H' → Ext K ρ H ρ' H' → DV K ρ' H' (.str i) v → Q v H') : Q (sv i) H := q ρ H _ r Ext.refl (by simp [DV])
theorem post_lst {K : PySem.W.Frag} {ρ : List Addr} {S : Sto} {H : Hp} {Q : VK} {xs : List D} {vs : List V} {p : Addr} (r : Rel K ρ S H) (hp : H p = none) (h : DVs K ρ H xs vs) (q : ∀ ρ' H' v, Rel K ρ' S H' → Ext K ρ H ρ' H' → DV K ρ' H' (.lst xs) v → Q v H') : Q (.ref p) (upd H p (.lst vs)) :=
  q ρ _ _ (r.new hp) (Ext.new hp) (dv_lst hp (r.notin hp) h)
theorem post_tup {K : PySem.W.Frag} {ρ : List Addr} {S : Sto} {H : Hp} {Q : VK} {xs : List D} {vs : List V} {p : Addr} (r : Rel K ρ S H) (hp : H p = none) (h : DVs K ρ H xs vs) (q : ∀ ρ' H' v, Rel K ρ' S H' → Ext K ρ H ρ' H' → DV K ρ' H' (.tup xs) v → Q v H') : Q (.ref p) (upd H p (.tup vs)) :=
  q ρ _ _ (r.new hp) (Ext.new hp) (dv_tup hp h)
def rAddD (K : PySem.W.Frag) : R2 := fun x y H Q => (rI0 fun i j => .int (i + j)) x y H Q ∨ (∃ i j, x = .str i ∧ y = .str j ∧ i.length + j.length ≤ sizeLine ∧ Q (.str (i ++ j)) H) ∨ rCatA K x y H Q ∨ rCat x y H Q
theorem op_addD : OpR X (binaryOp .Add) (rAddD X.K) := op_add.or (op_add_str.or (op_catA.or op_cat))
theorem add_cat {x y : D} {v u : V} {H : Hp} {Q : VK} {ρ : List Addr} {S : Sto} {d : D} {K : PySem.W.Frag} (r : Rel K ρ S H) (dx : DV K ρ H x v) (dy : DV K ρ H y u)
    (hg : (match seqL S x, seqL S y with
    | some a, some b => catL a b
    | _, _ => none) = some d) (q : ∀ ρ' H' v, Rel K ρ' S H' → Ext K ρ H ρ' H' → DV K ρ' H' d v → Q v H') : rCat v u H Q := by
  cases e1 : seqL S x with
  | none => rw [e1] at hg; cases hg
  | some a =>
    cases e2 : seqL S y with
    | none => rw [e1, e2] at hg; cases hg
    | some b =>
      rw [e1, e2] at hg
      simp only [catL] at hg
      obtain ⟨p, vs, rfl, h1, d1⟩ := seqL_ok r dx e1
      obtain ⟨p2, us, rfl, h2, d2⟩ := seqL_ok r dy e2
      by_cases hl : sizeOk (a.length + b.length)
      · rw [if_pos hl] at hg
        cases hg
        exact ⟨p, p2, vs, us, rfl, rfl, h1, h2, by rw [← d1.length, ← d2.length]; exact hl, fun t ht => post_lst r ht (d1.append d2) q⟩
      · rw [if_neg hl] at hg; cases hg
theorem rp_add : ∀ x y H Q, rP X.K gAdd x y H Q → rAddD X.K x y H Q := by
  rintro v u H Q ⟨ρ, S, x, y, d, r, dx, dy, hg, q⟩
  unfold gAdd at hg
  split at hg
  · rw [dv_int] at dx dy
    subst dx dy
    cases hg
    exact .inl ⟨_, _, rfl, rfl, post_int r q⟩
  · rename_i a b
    rw [dv_str] at dx dy
    subst dx dy
    by_cases hl : sizeOk (a.length + b.length)
    · rw [if_pos hl] at hg
      cases hg
      exact .inr (.inl ⟨_, _, rfl, rfl, by rw [sv_len, sv_len]; exact hl, by rw [sv_cat]; exact post_str r q⟩)
    · rw [if_neg hl] at hg; cases hg
  · rename_i a b
    obtain ⟨p, vs, rfl, h1, d1⟩ := tup_ok dx
    obtain ⟨p2, us, rfl, h2, d2⟩ := tup_ok dy
    by_cases hl : sizeOk (a.length + b.length)
    · rw [if_pos hl] at hg
      cases hg
      refine .inr (.inr (.inl ⟨p, p2, vs, us, rfl, rfl, h1, h2, by rw [← d1.length, ← d2.length]; exact hl, fun e => ?_, fun _ e => ?_, fun _ _ t ht => post_tup r ht (d1.append d2) q⟩))
      · have : a = [] := List.length_eq_zero_iff.mp (by rw [d1.length, e]; rfl)
        subst this
        exact q ρ H _ r Ext.refl dy
      · have : b = [] := List.length_eq_zero_iff.mp (by rw [d2.length, e]; rfl)
        subst this
        rw [List.append_nil] at q
        exact q ρ H _ r Ext.refl dx
    · rw [if_neg hl] at hg; cases hg
  · exact .inr (.inr (.inr (add_cat r dx dy hg q)))
/-! ### the others on whole numbers -/
def gII (f : Int → Int → Option D) (_ : Sto) (x y : D) : Option D := match x, y with
  | .int i, .int j => f i j
  | _, _ => none
theorem gII_some {f : Int → Int → Option D} {S : Sto} {x y d : D} (h : gII f S x y = some d) : ∃ i j, x = .int i ∧ y = .int j ∧ f i j = some d := by
  unfold gII at h
  split at h
  · exact ⟨_, _, rfl, rfl, h⟩
  · cases h
theorem rp_ii {f : Int → Int → Option D} {r : R2} (hr : ∀ (i j : Int) (d : D) (H : Hp) (Q : VK), f i j = some d → (∀ v, (∀ K ρ H, DV K ρ H d v) → Q v H) → r (.int i) (.int j) H Q) : ∀ x y H Q, rP X.K (gII f) x y H Q → r x y H Q := by
  rintro v u H Q ⟨ρ, S, x, y, d, r, dx, dy, hg, q⟩
  obtain ⟨i, j, rfl, rfl, hf⟩ := gII_some hg
  rw [dv_int] at dx dy
  subst dx dy
  exact hr i j d H Q hf fun v hv => q ρ H v r Ext.refl (hv _ _ _)
theorem dvI {i : Int} : ∀ (K : PySem.W.Frag) (ρ : List Addr) (H : Hp), DV K ρ H (.int i) (.int i) := fun _ _ _ => by simp [DV]
theorem dvB {i : Bool} : ∀ (K : PySem.W.Frag) (ρ : List Addr) (H : Hp), DV K ρ H (.bl i) (.bl i) := fun _ _ _ => by simp [DV]
def gMns := gII fun i j => some (.int (i - j))
theorem rp_sub : ∀ x y H Q, rP X.K gMns x y H Q → (rI0 fun i j => .int (i - j)) x y H Q := rp_ii fun i j d H Q h q => by cases h; exact ⟨i, j, rfl, rfl, q _ dvI⟩
def mulOk (i j : Int) : Prop := CMul i j ∨ CMulW i j
open Classical in
noncomputable def gMul := gII fun i j => if mulOk i j then some (.int (i * j)) else none
def rMulD : R2 := fun x y H Q => (rI CMul fun i j => .int (i * j)) x y H Q ∨ (rI CMulW fun i j => .int (i * j)) x y H Q
theorem op_mulD : OpR X (binaryOp .Mult) rMulD := op_mul.or op_mulW
theorem rp_mul : ∀ x y H Q, rP X.K gMul x y H Q → rMulD x y H Q := rp_ii fun i j d H Q h q => by
  by_cases hm : mulOk i j
  · rw [if_pos hm] at h
    cases h
    rcases hm with hm | hm
    · exact .inl ⟨i, j, rfl, rfl, hm, q _ dvI⟩
    · exact .inr ⟨i, j, rfl, rfl, hm, q _ dvI⟩
  · rw [if_neg hm] at h; cases h
def divOk (j : Int) : Prop := 0 < j ∧ j.natAbs.log2 < 9000
open Classical in
noncomputable def gDiv := gII fun i j => if divOk j then some (.int (i / j)) else none
theorem rp_div : ∀ x y H Q, rP X.K gDiv x y H Q → (rI CDivW fun i j => .int (i / j)) x y H Q := rp_ii fun i j d H Q h q => by
  by_cases hm : divOk j
  · rw [if_pos hm] at h; cases h; exact ⟨i, j, rfl, rfl, hm, q _ dvI⟩
  · rw [if_neg hm] at h; cases h
def modOk (j : Int) : Prop := 0 < j
open Classical in
noncomputable def gMod := gII fun i j => if modOk j then some (.int (i % j)) else none
theorem rp_mod : ∀ x y H Q, rP X.K gMod x y H Q → (rI (fun _ j => 0 < j) fun i j => .int (i % j)) x y H Q := rp_ii fun i j d H Q h q => by
  by_cases hm : modOk j
  · rw [if_pos hm] at h; cases h; exact ⟨i, j, rfl, rfl, hm, q _ dvI⟩
  · rw [if_neg hm] at h; cases h
def powOk (i j : Int) : Prop := 0 ≤ j ∧ j ≤ 1000000 ∧ i.natAbs < 2 ^ 64
open Classical in
noncomputable def gPow := gII fun i j => if powOk i j then some (.int (i ^ j.toNat)) else none
theorem rp_pow : ∀ x y H Q, rP X.K gPow x y H Q → (rI CPow fun i j => .int (i ^ j.toNat)) x y H Q := rp_ii fun i j d H Q h q => by
  by_cases hm : powOk i j
  · rw [if_pos hm] at h; cases h; exact ⟨i, j, rfl, rfl, hm, q _ dvI⟩
  · rw [if_neg hm] at h; cases h
/-! order of numbers, of texts -/
def gLt (_ : Sto) (x y : D) : Option D := match x, y with
  | .int i, .int j => some (.bl (decide (i < j)))
  | .str a, .str b => some (.bl (decide (a < b)))
  | _, _ => none
def gGt (S : Sto) (x y : D) : Option D := gLt S y x
def gLe (_ : Sto) (x y : D) : Option D := match x, y with
  | .int i, .int j => some (.bl (decide (i ≤ j)))
  | .str a, .str b => some (.bl (!decide (b < a)))
  | _, _ => none
def gGe (S : Sto) (x y : D) : Option D := gLe S y x
def rLtD : R2 := fun x y H Q => (rI0 fun i j => .bl (decide (i < j))) x y H Q ∨ (∃ i j, x = .str i ∧ y = .str j ∧ Q (.bl (decide (i.cps.toList < j.cps.toList))) H)
def rGtD : R2 := fun x y H Q => (rI0 fun i j => .bl (decide (j < i))) x y H Q ∨ (∃ i j, x = .str i ∧ y = .str j ∧ Q (.bl (decide (j.cps.toList < i.cps.toList))) H)
def rLeD : R2 := fun x y H Q => (rI0 fun i j => .bl (decide (i ≤ j))) x y H Q ∨ (∃ i j, x = .str i ∧ y = .str j ∧ Q (.bl (!decide (j.cps.toList < i.cps.toList))) H)
def rGeD : R2 := fun x y H Q => (rI0 fun i j => .bl (decide (j ≤ i))) x y H Q ∨ (∃ i j, x = .str i ∧ y = .str j ∧ Q (.bl (!decide (i.cps.toList < j.cps.toList))) H)
theorem op_ltD : OpR X (compareOp .Lt) rLtD := op_lt.or op_lt_str
theorem op_gtD : OpR X (compareOp .Gt) rGtD := op_gt.or op_gt_str
theorem op_leD : OpR X (compareOp .LtE) rLeD := op_le.or op_le_str
theorem op_geD : OpR X (compareOp .GtE) rGeD := op_ge.or op_ge_str
theorem rp_lt : ∀ x y H Q, rP X.K gLt x y H Q → rLtD x y H Q := by
  rintro v u H Q ⟨ρ, S, x, y, d, r, dx, dy, hg, q⟩
  unfold gLt at hg
  split at hg
  · rw [dv_int] at dx dy; subst dx dy; cases hg
    exact .inl ⟨_, _, rfl, rfl, post_bl r q⟩
  · rw [dv_str] at dx dy; subst dx dy; cases hg
    exact .inr ⟨_, _, rfl, rfl, post_bl r q⟩
  · cases hg
theorem rp_gt : ∀ x y H Q, rP X.K gGt x y H Q → rGtD x y H Q := by
  rintro v u H Q ⟨ρ, S, x, y, d, r, dx, dy, hg, q⟩
  unfold gGt gLt at hg
  split at hg
  · rw [dv_int] at dx dy; subst dx dy; cases hg
    exact .inl ⟨_, _, rfl, rfl, post_bl r q⟩
  · rw [dv_str] at dx dy; subst dx dy; cases hg
    exact .inr ⟨_, _, rfl, rfl, post_bl r q⟩
  · cases hg
theorem rp_le : ∀ x y H Q, rP X.K gLe x y H Q → rLeD x y H Q := by
  rintro v u H Q ⟨ρ, S, x, y, d, r, dx, dy, hg, q⟩
  unfold gLe at hg
  split at hg
  · rw [dv_int] at dx dy; subst dx dy; cases hg
    exact .inl ⟨_, _, rfl, rfl, post_bl r q⟩
  · rw [dv_str] at dx dy; subst dx dy; cases hg
    exact .inr ⟨_, _, rfl, rfl, post_bl r q⟩
  · cases hg
theorem rp_ge : ∀ x y H Q, rP X.K gGe x y H Q → rGeD x y H Q := by
  rintro v u H Q ⟨ρ, S, x, y, d, r, dx, dy, hg, q⟩
  unfold gGe gLe at hg
  split at hg
  · rw [dv_int] at dx dy; subst dx dy; cases hg
    exact .inl ⟨_, _, rfl, rfl, post_bl r q⟩
  · rw [dv_str] at dx dy; subst dx dy; cases hg
    exact .inr ⟨_, _, rfl, rfl, post_bl r q⟩
  · cases hg
/-! ### == -/
mutual
def toP : D → Option PyData
  | .non => some .none
  | .bl b => some (.bool b)
  | .int i => some (.int i)
  | .str x => some (.str ⟨x.toArray⟩)
  | .tup xs => (toPs xs).map PyData.tuple
  | .lst xs => (toPs xs).map PyData.list
  | .fz xs => (toPs xs).map PyData.list
  | .loc _ => none
  | .ty _ => none
  | .glo _ => none
  | .exo => none
def toPs : List D → Option (List PyData)
  | [] => some []
  | x :: xs => match toP x, toPs xs with
    | some a, some b => some (a :: b)
    | _, _ => none
end
mutual
theorem toP_ok {K : PySem.W.Frag} {ρ : List Addr} {H : Hp} : ∀ (d : D) (v : V) (p : PyData), DV K ρ H d v → toP d = some p → Dp K H v p
  | .non, v, p, h, q => by simp only [DV] at h; simp only [toP] at q; cases q; subst h; exact .non
  | .bl b, v, p, h, q => by simp only [DV] at h; simp only [toP] at q; cases q; subst h; exact .bl b
  | .int i, v, p, h, q => by simp only [DV] at h; simp only [toP] at q; cases q; subst h; exact .int i
  | .str x, v, p, h, q => by simp only [DV] at h; simp only [toP] at q; cases q; subst h; exact .str _
  | .tup xs, v, p, h, q => by
    simp only [DV] at h; simp only [toP] at q
    obtain ⟨a, vs, rfl, h1, h2⟩ := h
    cases e : toPs xs with
    | none => rw [e] at q; cases q
    | some ps => rw [e] at q; cases q; exact .tup h1 (toPs_ok xs vs ps h2 e)
  | .lst xs, v, p, h, q => by
    simp only [DV] at h; simp only [toP] at q
    obtain ⟨a, vs, rfl, h1, h2⟩ := h
    cases e : toPs xs with
    | none => rw [e] at q; cases q
    | some ps => rw [e] at q; cases q; exact .lst h1.seq (toPs_ok xs vs ps h2 e)
  | .fz xs, v, p, h, q => by
    simp only [DV] at h; simp only [toP] at q
    obtain ⟨a, vs, rfl, h1, h2⟩ := h
    cases e : toPs xs with
    | none => rw [e] at q; cases q
    | some ps => rw [e] at q; cases q; exact .lst h1.seq (toPs_ok xs vs ps h2 e)
  | .loc _, _, _, _, q => by simp only [toP] at q; cases q
  | .ty _, _, _, _, q => by simp only [toP] at q; cases q
  | .glo _, _, _, _, q => by simp only [toP] at q; cases q
  | .exo, _, _, _, q => by simp only [toP] at q; cases q
theorem toPs_ok {K : PySem.W.Frag} {ρ : List Addr} {H : Hp} : ∀ (ds : List D) (vs : List V) (ps : List PyData), DVs K ρ H ds vs → toPs ds = some ps → DpAll K H vs ps
  | [], vs, ps, h, q => by simp only [DVs] at h; simp only [toPs] at q; cases q; subst h; exact .nil
  | x :: xs, vs, ps, h, q => by
    simp only [DVs] at h; simp only [toPs] at q
    obtain ⟨v, r, rfl, h1, h2⟩ := h
    cases e : toP x with
    | none => rw [e] at q; cases q
    | some a =>
      cases e2 : toPs xs with
      | none => rw [e, e2] at q; cases q
      | some b => rw [e, e2] at q; cases q; exact .cons (toP_ok x v a h1 e) (toPs_ok xs r b h2 e2)
end
/-- the datum of a value, a list that may change by its items -/
def toPS (S : Sto) (d : D) : Option PyData := match seqF S d with
  | some xs => (toPs xs).map PyData.list
  | none => toP d
theorem toPS_ok {K : PySem.W.Frag} {ρ : List Addr} {S : Sto} {H : Hp} (r : Rel K ρ S H) {d : D} {v : V} {p : PyData} (h : DV K ρ H d v) (q : toPS S d = some p) : Dp K H v p := by
  unfold toPS at q
  cases e : seqF S d with
  | none => rw [e] at q; exact toP_ok d v p h q
  | some xs =>
    rw [e] at q
    obtain ⟨a, vs, rfl, h1, h2⟩ := seqF_ok r h e
    simp only at q
    cases e2 : toPs xs with
    | none => rw [e2] at q; cases q
    | some ps => rw [e2] at q; cases q; exact .lst h1 (toPs_ok xs vs ps h2 e2)
def deepEq (S : Sto) (x y : D) : Option Bool := match toPS S x, toPS S y with
  | some a, some b => if SeqAt.shaped a = true ∧ SeqAt.shaped b = true then some (PyData.eqv a b) else none
  | _, _ => none
def eqB (S : Sto) (x y : D) : Option Bool := match x, y with
  | .int i, .int j => some (decide (i = j))
  | .str a, .str b => some (decide (a = b))
  | .bl a, .bl b => some (decide (a = b))
  | .non, .non => some true
  | .non, .int _ => some false
  | .int _, .non => some false
  | .str _, .non => some false
  | .non, .str _ => some false
  | x, y => deepEq S x y
def gEq (S : Sto) (x y : D) : Option D := (eqB S x y).map D.bl
def gNe (S : Sto) (x y : D) : Option D := (eqB S x y).map fun b => D.bl (!b)
def rEqA (K : PySem.W.Frag) : R2 := fun x y H Q => rEq x y H Q ∨ rEqD K x y H Q
def rNeA (K : PySem.W.Frag) : R2 := fun x y H Q => rNe x y H Q ∨ rNeD K x y H Q
theorem op_eqA (hu : X.A.units + 64 < cLine) : OpR X (compareOp .Eq) (rEqA X.K) := op_eq.or (op_eqD hu)
theorem op_neA (hu : X.A.units + 64 < cLine) : OpR X (compareOp .NotEq) (rNeA X.K) := op_ne.or (op_neD hu)
theorem sv_inj {a b : Tx} : sv a = sv b ↔ a = b := by
  unfold sv
  constructor
  · intro h
    injection h with h
    exact congrArg (fun x : Str => x.cps.toList) h
  · intro h; rw [h]
theorem eqB_ok {K : PySem.W.Frag} {ρ : List Addr} {S : Sto} {H : Hp} {x y : D} {v u : V} {b : Bool} (r : Rel K ρ S H) (dx : DV K ρ H x v) (dy : DV K ρ H y u) (h : eqB S x y = some b) :
    (scal v u = true ∧ decide (v = u) = b) ∨ ∃ d e, Dp K H v d ∧ Dp K H u e ∧ SeqAt.shaped d = true ∧ SeqAt.shaped e = true ∧ PyData.eqv d e = b := by
  unfold eqB at h
  split at h
  · rw [dv_int] at dx dy; subst dx dy; cases h; exact .inl ⟨rfl, by simp⟩
  · rw [dv_str] at dx dy; subst dx dy; cases h; exact .inl ⟨rfl, by simp [sv_inj]⟩
  · rw [dv_bl] at dx dy; subst dx dy; cases h; exact .inl ⟨rfl, by simp⟩
  · rw [dv_non] at dx dy; subst dx dy; cases h; exact .inl ⟨by rw [show scal V.non V.non = true from rfl], by simp⟩
  · rw [dv_non] at dx; rw [dv_int] at dy; subst dx dy; cases h; exact .inl ⟨rfl, by simp⟩
  · rw [dv_int] at dx; rw [dv_non] at dy; subst dx dy; cases h; exact .inl ⟨rfl, by simp⟩
  · rw [dv_str] at dx; rw [dv_non] at dy; subst dx dy; cases h; exact .inl ⟨rfl, by simp [sv]⟩
  · rw [dv_non] at dx; rw [dv_str] at dy; subst dx dy; cases h; exact .inl ⟨rfl, by simp [sv]⟩
  · unfold deepEq at h
    split at h
    · rename_i a b' e1 e2
      by_cases hs : SeqAt.shaped a = true ∧ SeqAt.shaped b' = true
      · rw [if_pos hs] at h
        cases h
        exact .inr ⟨a, b', toPS_ok r dx e1, toPS_ok r dy e2, hs.1, hs.2, rfl⟩
      · rw [if_neg hs] at h; cases h
    · cases h
theorem rp_eq : ∀ x y H Q, rP X.K gEq x y H Q → rEqA X.K x y H Q := by
  rintro v u H Q ⟨ρ, S, x, y, d, r, dx, dy, hg, q⟩
  unfold gEq at hg
  cases e : eqB S x y with
  | none => rw [e] at hg; cases hg
  | some b =>
    rw [e] at hg
    cases hg
    rcases eqB_ok r dx dy e with ⟨h1, rfl⟩ | ⟨a, c, h1, h2, h3, h4, rfl⟩
    · exact .inl ⟨h1, post_bl r q⟩
    · exact .inr ⟨a, c, h1, h2, h3, h4, post_bl r q⟩
theorem rp_ne : ∀ x y H Q, rP X.K gNe x y H Q → rNeA X.K x y H Q := by
  rintro v u H Q ⟨ρ, S, x, y, d, r, dx, dy, hg, q⟩
  unfold gNe at hg
  cases e : eqB S x y with
  | none => rw [e] at hg; cases hg
  | some b =>
    rw [e] at hg
    cases hg
    rcases eqB_ok r dx dy e with ⟨h1, rfl⟩ | ⟨a, c, h1, h2, h3, h4, rfl⟩
    · exact .inl ⟨h1, post_bl r q⟩
    · exact .inr ⟨a, c, h1, h2, h3, h4, post_bl r q⟩
/-! is None -/
def gIsN (_ : Sto) (x y : D) : Option D := match y with
  | .non => some (.bl (match x with | .non => true | _ => false))
  | _ => none
def gNotN (_ : Sto) (x y : D) : Option D := match y with
  | .non => some (.bl (match x with | .non => false | _ => true))
  | _ => none
theorem dv_isnon {K : PySem.W.Frag} {ρ : List Addr} {H : Hp} {x : D} {v : V} (h : DV K ρ H x v) : decide (v = .non) = (match x with | .non => true | _ => false) := by
  cases x with
  | non => rw [dv_non] at h; subst h; rfl
  | bl b => rw [dv_bl] at h; subst h; simp
  | int b => rw [dv_int] at h; subst h; simp
  | str b => rw [dv_str] at h; subst h; simp [sv]
  | tup b => simp only [DV] at h; obtain ⟨a, vs, rfl, _⟩ := h; simp
  | lst b => simp only [DV] at h; obtain ⟨a, vs, rfl, _⟩ := h; simp
  | fz b => simp only [DV] at h; obtain ⟨a, vs, rfl, _⟩ := h; simp
  | loc b => simp only [DV] at h; obtain ⟨a, rfl, _⟩ := h; simp
  | ty b => simp only [DV] at h; subst h; simp
  | glo b => simp only [DV] at h; subst h; simp
  | exo => simp only [DV] at h; obtain ⟨a, rfl⟩ := h; simp
def rIsD : R2 := fun x y H Q => (y = .non ∧ Q (.bl (decide (x = .non))) H)
def rIsND : R2 := fun x y H Q => (y = .non ∧ Q (.bl (!decide (x = .non))) H)
theorem rp_isN : ∀ x y H Q, rP X.K gIsN x y H Q → rIsD x y H Q := by
  rintro v u H Q ⟨ρ, S, x, y, d, r, dx, dy, hg, q⟩
  unfold gIsN at hg
  split at hg
  · rw [dv_non] at dy; subst dy; cases hg
    refine ⟨rfl, ?_⟩
    rw [dv_isnon dx]
    cases x <;> exact post_bl r q
  · cases hg
theorem rp_notN : ∀ x y H Q, rP X.K gNotN x y H Q → rIsND x y H Q := by
  rintro v u H Q ⟨ρ, S, x, y, d, r, dx, dy, hg, q⟩
  unfold gNotN at hg
  split at hg
  · rw [dv_non] at dy; subst dy; cases hg
    refine ⟨rfl, ?_⟩
    rw [dv_isnon dx]
    cases x <;> exact post_bl r q
  · cases hg
/-! ### in -/
/-- in a text: one sign; in a row of plain data -/
def inB (S : Sto) (x y : D) : Option Bool := match x, y with
  | .str [c], .str z => some (decide (c ∈ z))
  | x, y => (match toP x, (match y with | .tup ys => toPs ys | y => (seqF S y).bind toPs) with
    | some a, some bs => if SeqAt.shaped a = true ∧ SeqAt.shaped (.list bs) = true then some (bs.any fun z => PyData.eqv z a) else none
    | _, _ => none)
/-! ### one operand, built-ins -/
def gNeg (_ : Sto) (x : D) : Option D := match x with
  | .int i => some (.int (-i))
  | _ => none
theorem rp_neg : ∀ x H Q, rP1 X.K gNeg x H Q → (rU fun i => .int (-i)) x H Q := by
  rintro v H Q ⟨ρ, S, x, d, r, dx, hg, q⟩
  unfold gNeg at hg
  split at hg
  · rw [dv_int] at dx; subst dx; cases hg
    exact ⟨_, rfl, post_int r q⟩
  · cases hg
open Classical in
noncomputable def gLen (S : Sto) (ds : List D) : Option D := match ds with
  | [.str x] => if sizeOk (x.length) then some (.int x.length) else none
  | [.tup xs] => some (.int xs.length)
  | [d] => (seqF S d).map fun xs => .int xs.length
  | _ => none
theorem dvs1 {K : PySem.W.Frag} {ρ : List Addr} {H : Hp} {d : D} {vs : List V} (h : DVs K ρ H [d] vs) : ∃ v, vs = [v] ∧ DV K ρ H d v := by
  simp only [DVs] at h
  obtain ⟨v, r, rfl, h1, rfl⟩ := h
  exact ⟨v, rfl, h1⟩
theorem dvs2 {K : PySem.W.Frag} {ρ : List Addr} {H : Hp} {d e : D} {vs : List V} (h : DVs K ρ H [d, e] vs) : ∃ v u, vs = [v, u] ∧ DV K ρ H d v ∧ DV K ρ H e u := by
  simp only [DVs] at h
  obtain ⟨v, r, rfl, h1, u, t, rfl, h2, rfl⟩ := h
  exact ⟨v, u, rfl, h1, h2⟩
def rLenD (K : PySem.W.Frag) : List V → Hp → VK → Prop := fun xs H Q => ∃ x n, xs = [x] ∧ LenV K x H n ∧ Q (.int n) H
theorem rp_len : ∀ vs H Q, rPB X.K gLen vs H Q → rLenD X.K vs H Q := by
  rintro vs H Q ⟨ρ, S, ds, d, r, dv, hg, q⟩
  unfold gLen at hg
  split at hg
  · rename_i x
    obtain ⟨v, rfl, h1⟩ := dvs1 dv
    rw [dv_str] at h1; subst h1
    by_cases hl : sizeOk (x.length)
    · rw [if_pos hl] at hg; cases hg
      exact ⟨_, _, rfl, ⟨by rw [sv_len]; exact hl, (sv_len x).symm⟩, post_int r q⟩
    · rw [if_neg hl] at hg; cases hg
  · rename_i xs
    obtain ⟨v, rfl, h1⟩ := dvs1 dv
    obtain ⟨a, us, rfl, h2, h3⟩ := tup_ok h1
    cases hg
    exact ⟨_, _, rfl, .inr ⟨us, h2, h3.length⟩, post_int r q⟩
  · rename_i x _ _
    obtain ⟨v, rfl, h1⟩ := dvs1 dv
    cases e : seqF S x with
    | none => rw [e] at hg; cases hg
    | some xs =>
      rw [e] at hg; cases hg
      obtain ⟨a, us, rfl, h2, h3⟩ := seqF_ok r h1 e
      exact ⟨_, _, rfl, .inl ⟨us, h2, h3.length⟩, post_int r q⟩
  · cases hg
def gAbs (_ : Sto) (ds : List D) : Option D := match ds with
  | [.int i] => some (.int (if i < 0 then -i else i))
  | _ => none
theorem rp_abs : ∀ vs H Q, rPB X.K gAbs vs H Q → (∃ i, vs = [V.int i] ∧ Q (.int (if i < 0 then -i else i)) H) := by
  rintro vs H Q ⟨ρ, S, ds, d, r, dv, hg, q⟩
  unfold gAbs at hg
  split at hg
  · have := dvs_int1 dv; subst this; cases hg
    exact ⟨_, rfl, post_int r q⟩
  · cases hg
def gMax2 (_ : Sto) (ds : List D) : Option D := match ds with
  | [.int i, .int j] => some (.int (if j > i then j else i))
  | _ => none
theorem rp_max2 : ∀ vs H Q, rPB X.K gMax2 vs H Q → (∃ i j, vs = [V.int i, V.int j] ∧ Q (.int (if j > i then j else i)) H) := by
  rintro vs H Q ⟨ρ, S, ds, d, r, dv, hg, q⟩
  unfold gMax2 at hg
  split at hg
  · have := dvs_int2 dv; subst this; cases hg
    exact ⟨_, _, rfl, post_int r q⟩
  · cases hg
def gMin2 (_ : Sto) (ds : List D) : Option D := match ds with
  | [.int i, .int j] => some (.int (if j < i then j else i))
  | _ => none
theorem rp_min2 : ∀ vs H Q, rPB X.K gMin2 vs H Q → (∃ i j, vs = [V.int i, V.int j] ∧ Q (.int (if j < i then j else i)) H) := by
  rintro vs H Q ⟨ρ, S, ds, d, r, dv, hg, q⟩
  unfold gMin2 at hg
  split at hg
  · have := dvs_int2 dv; subst this; cases hg
    exact ⟨_, _, rfl, post_int r q⟩
  · cases hg
/-- int of a number, of a truth -/
def gInt (_ : Sto) (ds : List D) : Option D := match ds with
  | [.int i] => some (.int i)
  | [.bl k] => some (.int (if k then 1 else 0))
  | _ => none
def rIntD : List V → Hp → VK → Prop := fun xs H Q => (∃ i, xs = [.int i] ∧ Q (.int i) H) ∨ ∃ k, xs = [.bl k] ∧ Q (.int (if k then 1 else 0)) H
theorem rp_int : ∀ vs H Q, rPB X.K gInt vs H Q → rIntD vs H Q := by
  rintro vs H Q ⟨ρ, S, ds, d, r, dv, hg, q⟩
  unfold gInt at hg
  split at hg
  · have := dvs_int1 dv; subst this; cases hg
    exact .inl ⟨_, rfl, post_int r q⟩
  · obtain ⟨v, rfl, h1⟩ := dvs1 dv
    rw [dv_bl] at h1; subst h1; cases hg
    exact .inr ⟨_, rfl, post_int r q⟩
  · cases hg
/-! items -/
def atD (xs : List D) (i : Int) : Option D := if 0 ≤ i then xs[i.toNat]? else if -(xs.length : Int) ≤ i then xs[(i + xs.length).toNat]? else none
theorem atD_ok {K : PySem.W.Frag} {ρ : List Addr} {H : Hp} {xs : List D} {vs : List V} {i : Int} {d : D} (h : DVs K ρ H xs vs) (e : atD xs i = some d) : ∃ v, atI vs i = some v ∧ DV K ρ H d v := by
  unfold atD at e
  unfold atI ixN
  have hl := h.length
  by_cases h0 : 0 ≤ i
  · rw [if_pos h0] at e ⊢
    obtain ⟨v, h1, h2⟩ := h.get e
    have hi := (List.getElem?_eq_some_iff.mp h1).1
    rw [if_pos (by omega)]
    exact ⟨v, h1, h2⟩
  · rw [if_neg h0] at e ⊢
    by_cases h1 : -(xs.length : Int) ≤ i
    · rw [if_pos h1] at e
      rw [if_pos (by omega)]
      obtain ⟨v, h1, h2⟩ := h.get e
      rw [hl] at h1
      exact ⟨v, h1, h2⟩
    · rw [if_neg h1] at e; cases e
open Classical in
noncomputable def gIx (S : Sto) (x y : D) : Option D := match x, y with
  | .str z, .int i => if sizeOk (z.length) then (if 0 ≤ i then z[i.toNat]? else if -(z.length : Int) ≤ i then z[(i + z.length).toNat]? else none).map fun c => .str [c] else none
  | .tup xs, .int i => atD xs i
  | x, .int i => (seqF S x).bind fun xs => atD xs i
  | _, _ => none
theorem rp_ix : ∀ x y H Q, rP X.K gIx x y H Q → rIx X.K x y H Q := by
  rintro v u H Q ⟨ρ, S, x, y, d, r, dx, dy, hg, q⟩
  unfold gIx at hg
  split at hg
  · rename_i z i
    rw [dv_str] at dx; rw [dv_int] at dy; subst dx dy
    by_cases hl : sizeOk (z.length)
    · rw [if_pos hl] at hg
      refine .inr (.inr ?_)
      have key : ∃ c, atI z i = some c ∧ d = .str [c] := by
        unfold atI ixN
        by_cases h0 : 0 ≤ i
        · rw [if_pos h0] at hg ⊢
          cases e : z[i.toNat]? with
          | none => rw [e] at hg; cases hg
          | some c =>
            rw [e] at hg; cases hg
            have hi := (List.getElem?_eq_some_iff.mp e).1
            rw [if_pos (by omega)]
            exact ⟨c, e, rfl⟩
        · rw [if_neg h0] at hg ⊢
          by_cases h1 : -(z.length : Int) ≤ i
          · rw [if_pos h1] at hg ⊢
            cases e : z[(i + (z.length : Int)).toNat]? with
            | none => rw [e] at hg; cases hg
            | some c => rw [e] at hg; cases hg; exact ⟨c, e, rfl⟩
          · rw [if_neg h1] at hg; cases hg
      obtain ⟨c, h1, rfl⟩ := key
      exact ⟨_, i, c, rfl, rfl, by rw [sv_len]; exact hl, h1, post_str r q⟩
    · rw [if_neg hl] at hg; cases hg
  · rename_i xs i
    rw [dv_int] at dy; subst dy
    obtain ⟨a, vs, rfl, h1, h2⟩ := tup_ok dx
    obtain ⟨w, h3, h4⟩ := atD_ok h2 hg
    exact .inr (.inl ⟨a, vs, i, w, rfl, rfl, h1, h3, q ρ H w r Ext.refl h4⟩)
  · rename_i i _ _
    rw [dv_int] at dy; subst dy
    cases e : seqF S x with
    | none => rw [e] at hg; cases hg
    | some xs =>
      rw [e] at hg
      obtain ⟨a, vs, rfl, h1, h2⟩ := seqF_ok r dx e
      obtain ⟨w, h3, h4⟩ := atD_ok h2 hg
      exact .inl ⟨a, vs, i, w, rfl, rfl, h1, h3, q ρ H w r Ext.refl h4⟩
  · cases hg
/-! name op= value -/
def ipSub : TIp := ipI fun i j => i - j
theorem rp_isub : ∀ x y H Q, rP X.K gMns x y H Q → (ipI fun i j => i - j) x y H Q := rp_ii fun i j d H Q h q => by cases h; exact ⟨i, j, rfl, rfl, q _ dvI⟩
theorem ipR {op : Operator} {r : R2} (h : OpR X (inplaceOp op) r) : PIp X op r := fun pins s σ H x y v u Q I r1 r2 q => h pins s σ H x y v u Q I r1 r2 q
theorem rp_imul : ∀ x y H Q, rP X.K gMul x y H Q → (rI (fun i j => mulOk i j) fun i j => .int (i * j)) x y H Q := rp_ii fun i j d H Q h q => by
  by_cases hm : mulOk i j
  · rw [if_pos hm] at h
    cases h
    exact ⟨i, j, rfl, rfl, hm, q _ dvI⟩
  · rw [if_neg hm] at h; cases h
theorem iop_mulD : OpR X (inplaceOp .Mult) (rI (fun i j => mulOk i j) fun i j => .int (i * j)) := opI fun _ _ _ _ _ _ _ hc q => imul_int q (hc.elim CMul.ok CMulW.ok)
/-! isinstance against a built-in type -/
def tyName : D → Option String
  | .non => some "NoneType"
  | .bl _ => some "bool"
  | .int _ => some "int"
  | .str _ => some "str"
  | .tup _ => some "tuple"
  | .lst _ => some "list"
  | .fz _ => some "list"
  | _ => none
/-- a small table: which type is a subtype of which -/
def isTy (t : String) : String → Option Bool
  | "int" => some (t == "int" || t == "bool")
  | "bool" => some (t == "bool")
  | "str" => some (t == "str")
  | "tuple" => some (t == "tuple")
  | "list" => some (t == "list")
  | "dict" => some (t == "dict")
  | _ => none
def gIsi (S : Sto) (ds : List D) : Option D := match ds with
  | [x, .ty n] => (match (match x with | .loc k => (match S[k]? with | some (.lst _) => some "list" | some (.dic _) => some "dict" | _ => none) | x => tyName x) with
    | some t => (isTy t n).map D.bl
    | none => none)
  | _ => none
theorem isTy_kit {K : PySem.W.Frag} {t n : String} {b : Bool} (ht : t ∈ ["NoneType", "bool", "int", "str", "tuple", "list", "dict"]) (h : isTy t n = some b) : PySem.W.kitOne K (.type t) (.type n) = some b := by
  refine kit_ty ?_
  unfold isTy at h
  split at h
  all_goals first
    | (cases h
       simp only [List.mem_cons, List.not_mem_nil, or_false] at ht
       rcases ht with rfl | rfl | rfl | rfl | rfl | rfl | rfl <;> decide +kernel)
    | cases h
theorem tyName_ok {K : PySem.W.Frag} {ρ : List Addr} {H : Hp} {x : D} {v : V} {t : String} (h : DV K ρ H x v) (e : tyName x = some t) : TyX K H v (.type t) ∧ t ∈ ["NoneType", "bool", "int", "str", "tuple", "list", "dict"] := by
  cases x with
  | non => cases e; rw [dv_non] at h; subst h; exact ⟨.base .non, by simp⟩
  | bl b => cases e; rw [dv_bl] at h; subst h; exact ⟨.base (.bl b), by simp⟩
  | int b => cases e; rw [dv_int] at h; subst h; exact ⟨.base (.int b), by simp⟩
  | str b => cases e; rw [dv_str] at h; subst h; exact ⟨.base (.str _), by simp⟩
  | tup b =>
    cases e
    obtain ⟨a, vs, rfl, h1, h2⟩ := tup_ok h
    refine ⟨?_, by simp⟩
    rcases h1 with (h1 | ⟨o, h1⟩) | ⟨o, its, n, h1, h3, _⟩
    · exact .base (.tup h1)
    · exact .fTuple h1
    · exact .kTuple h1 h3
  | lst b =>
    cases e
    simp only [DV] at h
    obtain ⟨a, vs, rfl, h1, h2⟩ := h
    exact ⟨.base (.lst h1.2), by simp⟩
  | fz b =>
    cases e
    simp only [DV] at h
    obtain ⟨a, vs, rfl, h1, h2⟩ := h
    refine ⟨?_, by simp⟩
    rcases h1 with ⟨o, h1⟩ | ⟨o, its, n, h1, h3, _⟩
    · exact .base (.frz h1)
    · exact .kList h1 h3
  | _ => cases e
theorem rp_isi : ∀ vs H Q, rPB X.K gIsi vs H Q → rIsi X.K vs H Q := by
  rintro vs H Q ⟨ρ, S, ds, d, r, dv, hg, q⟩
  unfold gIsi at hg
  split at hg
  · rename_i x n
    obtain ⟨v, u, rfl, h1, h2⟩ := dvs2 dv
    have e2 : u = .ty n := by simpa [DV] using h2
    subst e2
    split at hg
    · rename_i t ht
      cases e : isTy t n with
      | none => rw [e] at hg; cases hg
      | some b =>
        rw [e] at hg; cases hg
        have key : TyX X.K H v (.type t) ∧ t ∈ ["NoneType", "bool", "int", "str", "tuple", "list", "dict"] := by
          split at ht
          · rename_i k
            simp only [DV] at h1
            obtain ⟨a, rfl, ha⟩ := h1
            split at ht
            · rename_i xs hx
              cases ht
              obtain ⟨us, h3, _⟩ := r.at_ _ _ _ hx ha
              exact ⟨.base (.lst h3), by simp⟩
            · rename_i xs hx
              cases ht
              obtain ⟨us, h3, _⟩ := r.at_ _ _ _ hx ha
              exact ⟨.base (.dK h3), by simp⟩
            · cases ht
          · exact tyName_ok h1 ht
        exact ⟨v, .ty n, .type t, .type n, b, rfl, .ty n, key.1, isTy_kit key.2 e, post_bl r q⟩
    · cases hg
  · cases hg
end
end PD

/-! PyD4: from one level of calls to the next; the end. -/
namespace PD
open PySem PySem.Spec PyProof.Rows L2
section
variable {P : Program} {w : World} {K : PySem.W.Frag} {mg : Str → Option Value} {base : Heap} {x : Str} {params : Arguments} {body : List Stmt} {scope : Scope}
/-- a def of the top, found by its name; its parameters ps -/
structure FD (K : PySem.W.Frag) (mg : Str → Option Value) (x : Str) (params : Arguments) (body : List Stmt) (scope : Scope) (ps : List Str) : Prop where
  ex : ∃ f fd, FunD K x x params body scope [] [] f fd ∧ mg x = some (.ref f) ∧ Binds K fd ps []
theorem callF_zero {ps : List Str} {n : Nat} (F : FD K mg x params body scope ps) : CallF P w K mg base 0 x n (fun _ _ => .bad) := by
  obtain ⟨f, fd, F, hm, b⟩ := F.ex
  have no : ∀ vs H Q E, ¬ spM K n (fun _ _ => .bad) vs H Q E := fun vs H Q E h => by
    obtain ⟨ρ, S, ds, r, dv, hl, p⟩ := h
    exact p
  exact ⟨f, fd, ps, ⟨fun vs H Q E h => absurd h (no vs H Q E), fun A outer s H args us vs Q E _ _ _ _ h => absurd h (no vs H Q E)⟩, hm, F.kp, b⟩
theorem callF_succ {k n : Nat} {N ps : List Str} {b : MS} (F : FD K mg x params body scope ps) (Sc : FnScope N ps scope) (hn : ps.length = n)
    (hb : ∀ (f : Addr) (cdv : Value) (A : Around) (outer : List Env) (s : Shared) (H : Hp) (E : XK), Room k (A.deeper (envOfC x scope s.heap.objs.size f cdv)) → BD (cxOf (L2.CX P w) P w K mg base N x scope f cdv A outer s H E) (WW.of (K := K) fun c d _ H => E c d H) body b) :
    CallF P w K mg base (k + 1) x n (runB N.length b) := by
  obtain ⟨f, fd, F, hm, bd⟩ := F.ex
  exact ⟨f, fd, ps, fn_run F Sc hn (hb f), hm, F.kp, bd⟩
/-- the script as a value -/
theorem dv_script {H : Hp} {a : Addr} {ns : List Int} (ho : Only H) (hs : SqL K H a (ns.map V.int)) : DVs K [] H [.fz (ns.map D.int)] [.ref a] := by
  have di : ∀ ms : List Int, DVs K [] H (ms.map D.int) (ms.map V.int) := fun ms => by
    induction ms with
    | nil => simp [DVs]
    | cons m r ih => simp only [List.map_cons, DVs]; exact ⟨_, _, rfl, by simp [DV], ih⟩
  refine DVs.one ?_
  simp only [DV]
  refine ⟨a, _, rfl, ?_, di ns⟩
  rcases FzP.of hs with h | h | h
  · exact .inl h
  · exact .inr h
  · rcases ho a with q | ⟨o, xs, q⟩
    · rw [h] at q; cases q
    · rw [h] at q; cases q
theorem rel_nil {H : Hp} : Rel K [] [] H := ⟨rfl, List.nodup_nil, fun n o a h => by simp at h⟩
/-- the law's promise from its meaning -/
theorem law_sp {m : MF} {H : Hp} {a : Addr} {ns : List Int} {E : XK} (ho : Only H) (hs : SqL K H a (ns.map V.int)) (h : ∃ S', m [.fz (ns.map D.int)] [] = .ok (.bl true) S') : spM K 1 m [.ref a] H (fun v _ => v = .bl true) E := by
  obtain ⟨S', h⟩ := h
  refine ⟨[], [], _, rel_nil, dv_script ho hs, rfl, ?_⟩
  rw [h]
  intro ρ' H' v r e d
  simpa [DV] using d
theorem cx_end {P : Program} {w : World} (H : Hp) (s : Shared) (e : Value) (s' : Shared) (h : L2.CX P w [] H s (fun _ _ _ => False) e s') : False := by
  obtain ⟨_, _, _, _, _, _, _, _, _, _, _, _, z⟩ := h
  exact z
end
/-- a law by its meaning m: F tells the written part and what stands there -/
theorem walk_W {l : PySem.W.OpenLaw} {n k : Nat} {q : Program} {loose : List Str} {XP : (Str → Option Value) → Heap → Prop} {YP : World → Heap → Prop} {d : DefRec} {x : Str} {m : MF}
    (hn : l.most = some n) (hn2 : n ≤ sizeLine) (hdf : d.params.defaults = []) (hr : Room k callerA)
    (F : ∀ (w : World) (mg : Str → Option Value) (fa : Addr) (h : Heap), YP w h → h.Ns mainGlobals mg → mg d.name = some (.ref fa) →
      ∃ (K : PySem.W.Frag) (fd : FuncData), K.In h ∧ (∀ (s : Shared) (u : Value), BindsTo s fd ⟨[u], []⟩ [(x, u)]) ∧
        ∀ base : Heap, K.In base → base.Ns mainGlobals mg → FnOk l.prog w K mg base (L2.CX l.prog w) k fa fd [x] (spM K 1 m))
    (hm : ∀ ns : List Int, ns.length ≤ n → ∃ S', m [.fz (ns.map D.int)] [] = .ok (.bl true) S') :
    PySem.W.WalkO q loose XP YP l.row.toRowW d [] (fun f vs => PySem.call f vs) := by
  refine Att.attach_call hn hdf fun w s₀ s₁ mg mb fa o pm cd doc a vs ns G Y ho hd hcd hmg hobj hints hlen hg => ?_
  obtain ⟨K, fd, KX, hb, hF⟩ := F w mg fa _ Y G.T.g hmg
  exact law_call KX G.T.g G.T.b G.T.builtins G.T.nolimit hg hobj hints (Nat.le_trans hlen hn2) hr hF hb (fun H hO hS => law_sp hO hS (hm ns hlen)) fun H e s' => cx_end H s₁ e s'
/-- the law's own def, as the row calls it -/
theorem law_fn {P : Program} {w : World} {K : PySem.W.Frag} {mg : Str → Option Value} {base : Heap} {k : Nat} {params : Arguments} {body : List Stmt} {scope : Scope} {f fa : Addr} {fd : FuncData} {N : List Str} {b : MS}
    (F : FunD K "law" "law" params body scope [] [] f fd) (hm : mg "law" = some (.ref f)) (hfa : mg "law" = some (.ref fa)) (Sc : FnScope N ["script"] scope)
    (hb : ∀ (f : Addr) (cdv : Value) (A : Around) (outer : List Env) (s : Shared) (H : Hp) (E : XK), Room k (A.deeper (envOfC "law" scope s.heap.objs.size f cdv)) → BD (cxOf (L2.CX P w) P w K mg base N "law" scope f cdv A outer s H E) (WW.of (K := K) fun c d _ H => E c d H) body b) :
    FnOk P w K mg base (L2.CX P w) (k + 1) fa fd ["script"] (spM K 1 (runB N.length b)) := by
  have e := hm.symm.trans hfa
  cases e
  exact fn_run F Sc rfl (hb f)
end PD

/-! PyD5: to reckon with the meanings. -/
namespace PD
open PySem PySem.Spec PyProof.Rows L2
/-- one turn of a loop -/
def turn (g : MG) (b : MS) (x : D) : MS := fun E S => (g x E S).toS E fun E1 S1 => b E1 S1
theorem chk_none {S : Sto} : chkOk none S := trivial
theorem forD_nil {g : MG} {b : MS} {E : Evn} {S : Sto} : forD none g b [] E S = .nx E S := by rw [forD, if_pos chk_none]
theorem forD_cons {g : MG} {b : MS} {x : D} {l : List D} {E : Evn} {S : Sto} : forD none g b (x :: l) E S = (match turn g b x E S with
    | .nx E2 S2 => forD none g b l E2 S2
    | .ct E2 S2 => forD none g b l E2 S2
    | .bk E2 S2 => .nx E2 S2
    | o => o) := by
  rw [forD, if_pos chk_none]
  unfold turn
  cases g x E S <;> rfl
/-- a loop whose turns all go on -/
theorem forD_all {g : MG} {b : MS} (P : Nat → Evn → Sto → Prop) : ∀ (l : List D) (E : Evn) (S : Sto) (n : Nat), P n E S →
    (∀ i x E S, l[i]? = some x → P (n + i) E S → ∃ E2 S2, (turn g b x E S = .nx E2 S2 ∨ turn g b x E S = .ct E2 S2) ∧ P (n + i + 1) E2 S2) →
    ∃ E2 S2, forD none g b l E S = .nx E2 S2 ∧ P (n + l.length) E2 S2
  | [], E, S, n, h0, hs => ⟨E, S, forD_nil, h0⟩
  | x :: l, E, S, n, h0, hs => by
    obtain ⟨E2, S2, h1, h2⟩ := hs 0 x E S rfl h0
    obtain ⟨E3, S3, h3, h4⟩ := forD_all P l E2 S2 (n + 1) h2 (fun i y E S e p => by
      have := hs (i + 1) y E S (by simpa using e) (by rw [show n + (i + 1) = n + 1 + i by omega]; exact p)
      rw [show n + (i + 1) + 1 = n + 1 + i + 1 by omega] at this
      exact this)
    refine ⟨E3, S3, ?_, by rw [List.length_cons, show n + (l.length + 1) = n + 1 + l.length by omega]; exact h4⟩
    rw [forD_cons]
    rcases h1 with h1 | h1 <;> rw [h1] <;> exact h3
/-- the same from the start -/
theorem forD_inv {g : MG} {b : MS} {l : List D} {E : Evn} {S : Sto} (P : Nat → Evn → Sto → Prop) (h0 : P 0 E S)
    (hs : ∀ i x E S, l[i]? = some x → P i E S → ∃ E2 S2, (turn g b x E S = .nx E2 S2 ∨ turn g b x E S = .ct E2 S2) ∧ P (i + 1) E2 S2) :
    ∃ E2 S2, forD none g b l E S = .nx E2 S2 ∧ P l.length E2 S2 := by
  have := forD_all P l E S 0 h0 (fun i x E S e p => by
    rw [Nat.zero_add] at p ⊢
    exact hs i x E S e p)
  rwa [Nat.zero_add] at this
/-- a range's turns -/
theorem rng_get {lo : Int} {n i : Nat} {x : D} (h : (rngD lo n)[i]? = some x) : i < n ∧ x = .int (lo + (i : Int)) := rngD_get h
theorem rng_len {lo : Int} {n : Nat} : (rngD lo n).length = n := by simp [rngD]
theorem forR_inv {g : MG} {b : MS} {lo : Int} {n : Nat} {E : Evn} {S : Sto} (P : Nat → Evn → Sto → Prop) (h0 : P 0 E S)
    (hs : ∀ i E S, i < n → P i E S → ∃ E2 S2, (turn g b (.int (lo + (i : Int))) E S = .nx E2 S2 ∨ turn g b (.int (lo + (i : Int))) E S = .ct E2 S2) ∧ P (i + 1) E2 S2) :
    ∃ E2 S2, forD none g b (rngD lo n) E S = .nx E2 S2 ∧ P n E2 S2 := by
  have := forD_inv (g := g) (b := b) (l := rngD lo n) (E := E) (S := S) P h0 (fun i x E S e p => by
    obtain ⟨h1, rfl⟩ := rng_get e
    exact hs i E S h1 p)
  rwa [rng_len] at this
theorem mulOk_small {i j : Int} (h : j.natAbs < 2 ^ 64) : mulOk i j := .inl (.inr ⟨by omega, by omega⟩)
theorem mulOk_smallL {i j : Int} (h : i.natAbs < 2 ^ 64) : mulOk i j := .inl (.inl ⟨by omega, by omega⟩)
theorem mulOk_wide {i j : Int} {a b : Nat} (ha : i.natAbs < 2 ^ a) (hb : j.natAbs < 2 ^ b) (h0 : 0 < a) (h1 : 0 < b) (h : a + b ≤ 1000000) : mulOk i j := .inr (wide_mul ha hb h0 h1 h)
end PD
namespace PD
open PySem PySem.Spec PyProof.Rows L2
section
variable {E : Evn} {S : Sto}
theorem a_seq {a b : MS} : mSeq a b E S = (match a E S with
  | .nx E' S' => b E' S'
  | r => r) := rfl
theorem a_skip : mSkip E S = .nx E S := rfl
theorem a_break : mBreak E S = .bk E S := rfl
theorem a_cont : mCont E S = .ct E S := rfl
theorem a_if {c : MT} {a b : MS} : mIf c a b E S = (c E S).toS E fun x S1 => if x = true then a E S1 else b E S1 := rfl
theorem a_ret {a : ME} : mRet a E S = (a E S).toS E fun d S1 => .rt d S1 := rfl
theorem a_retN : mRetN E S = .rt .non S := rfl
theorem a_drop {a : ME} : mDrop a E S = (a E S).toS E fun _ S1 => .nx E S1 := rfl
theorem a_set {i : Nat} {a : ME} : mSet i a E S = (a E S).toS E fun d S1 => .nx (E.set i (some d)) S1 := rfl
theorem a_asg {a : ME} {g : MG} : mAsg a g E S = (a E S).toS E fun d S1 => (g d E S1).toS E fun E' S2 => .nx E' S2 := rfl
theorem a_aug {i : Nat} {g : Sto → D → D → Option D} {a : ME} : mAug i g a E S = (match E[i]? with
  | some (some x) => (a E S).toS E fun y S1 => (match g S1 x y with
    | some d => .nx (E.set i (some d)) S1
    | none => .bad)
  | _ => .bad) := rfl
theorem a_for {it : MI} {g : MG} {b : MS} : mFor it g b E S = (it E S).toS E fun i S1 => forD i.chk g b i.items E S1 := rfl
theorem a_var {i : Nat} : mVar i E S = (match E[i]? with
  | some (some d) => .ok d S
  | _ => .bad) := rfl
theorem a_c {d : D} : mC d E S = .ok d S := rfl
theorem a_bin {g : Sto → D → D → Option D} {a b : ME} : mBin g a b E S = (a E S).bind fun x S1 => (b E S1).bind fun y S2 => (match g S2 x y with
  | some d => .ok d S2
  | none => .bad) := rfl
theorem a_un {g : Sto → D → Option D} {a : ME} : mUn g a E S = (a E S).bind fun x S1 => (match g S1 x with
  | some d => .ok d S1
  | none => .bad) := rfl
theorem a_b {g : Sto → List D → Option D} {a : MA} : mB g a E S = (a E S).bind fun xs S1 => (match g S1 xs with
  | some d => .ok d S1
  | none => .bad) := rfl
theorem a_nil : mNil E S = .ok [] S := rfl
theorem a_cons {a : ME} {r : MA} : mCons a r E S = (a E S).bind fun x S1 => (r E S1).bind fun xs S2 => .ok (x :: xs) S2 := rfl
open Classical in
theorem a_tup {a : MA} : mTup a E S = (a E S).bind fun xs S1 => if sizeOk xs.length then .ok (.tup xs) S1 else .bad := rfl
open Classical in
theorem a_lst {a : MA} : mLst a E S = (a E S).bind fun xs S1 => if sizeOk xs.length then .ok (.lst xs) S1 else .bad := rfl
open Classical in
theorem a_loc {a : MA} : mLoc a E S = (a E S).bind fun xs S1 => if sizeOk xs.length then .ok (.loc S1.length) (S1 ++ [.lst xs]) else .bad := rfl
theorem a_call {f : MF} {a : MA} : mCall f a E S = (a E S).bind fun ds S1 => f ds S1 := rfl
theorem a_and {a b : MT} : mAnd a b E S = (a E S).bind fun x S1 => if x = true then b E S1 else .ok false S1 := rfl
theorem a_or {a b : MT} : mOr a b E S = (a E S).bind fun x S1 => if x = true then .ok true S1 else b E S1 := rfl
theorem a_not {a : MT} : mNot a E S = (a E S).bind fun x S1 => .ok (!x) S1 := rfl
theorem a_andV {a b : ME} : mAndV a b E S = (a E S).bind fun x S1 => (match x with
  | .bl true => b E S1
  | .bl false => .ok (.bl false) S1
  | _ => .bad) := rfl
theorem a_orV {a b : ME} : mOrV a b E S = (a E S).bind fun x S1 => (match x with
  | .bl true => .ok (.bl true) S1
  | .bl false => b E S1
  | _ => .bad) := rfl
theorem a_notV {a : ME} : mNotV a E S = (a E S).bind fun x S1 => (match x with
  | .bl b => .ok (.bl (!b)) S1
  | _ => .bad) := rfl
theorem a_ifE {c : MT} {a b : ME} : mIfE c a b E S = (c E S).bind fun x S1 => if x = true then a E S1 else b E S1 := rfl
theorem a_asB {m : ME} : asB m E S = (m E S).bind fun d S1 => (match d with
  | .bl b => .ok b S1
  | _ => .bad) := rfl
theorem a_sl {g : Sto → D → Option Int → Option Int → Option D} {a : ME} {lo hi : MO} : mSl g a lo hi E S = (a E S).bind fun x S1 => (lo E S1).bind fun l S2 => (hi E S2).bind fun u S3 => (match g S3 x l u with
  | some d => .ok d S3
  | none => .bad) := rfl
theorem a_nopart : mNoPart E S = .ok none S := rfl
theorem a_part {a : ME} : mPart a E S = (a E S).bind fun d S1 => (match d with
  | .int i => .ok (some i) S1
  | _ => .bad) := rfl
theorem a_gN {i : Nat} {d : D} : gN i d E S = .ok (E.set i (some d)) S := rfl
theorem a_gT {n : Nat} {g : MGs} {xs : List D} : gT n g (.tup xs) E S = if xs.length = n then g xs E S else .bad := rfl
theorem a_gsNil : gsNil [] E S = .ok E S := rfl
theorem a_gsCons {g : MG} {r : MGs} {d : D} {ds : List D} : gsCons g r (d :: ds) E S = (g d E S).bind fun E' S' => (r ds E' S').noex := rfl
open Classical in
theorem a_range1 {a : MA} : iRange1 a E S = (a E S).bind fun ds S1 => (match int1 ds with
  | some j => if small62 j then .ok ⟨rngD 0 j.toNat, none⟩ S1 else .bad
  | none => .bad) := rfl
open Classical in
theorem a_range2 {a : MA} : iRange2 a E S = (a E S).bind fun ds S1 => (match int2 ds with
  | some (i, j) => if small62 i ∧ small62 j then .ok ⟨rngD i (j - i).toNat, none⟩ S1 else .bad
  | none => .bad) := rfl
theorem a_iseq {a : ME} : iSeq a E S = (a E S).bind fun d S1 => (match d with
  | .tup xs => .ok ⟨xs, none⟩ S1
  | .lst xs => .ok ⟨xs, none⟩ S1
  | .fz xs => .ok ⟨xs, none⟩ S1
  | .loc n => (match S1[n]? with
    | some (.lst xs) => .ok ⟨xs, some (n, xs)⟩ S1
    | _ => .bad)
  | _ => .bad) := rfl
theorem a_int1 {i : Int} : int1 [.int i] = some i := rfl
theorem a_int2 {i j : Int} : int2 [.int i, .int j] = some (i, j) := rfl
theorem a_turn {g : MG} {b : MS} {x : D} : turn g b x E S = (g x E S).toS E fun E1 S1 => b E1 S1 := rfl
theorem a_run {N : Nat} {b : MS} {ds : List D} : runB N b ds S = (match b (ds.map some ++ List.replicate (N - ds.length) none) S with
  | .nx _ S' => .ok .non S'
  | .rt d S' => .ok d S'
  | .ex e _ S' => .ex e S'
  | _ => .bad) := rfl
variable {i j : Int} {x y : Tx} {a b : Bool} {xs ys : List D}
theorem g_add : gAdd S (.int i) (.int j) = some (.int (i + j)) := rfl
open Classical in
theorem g_addS : gAdd S (.str x) (.str y) = if sizeOk (x.length + y.length) then some (.str (x ++ y)) else none := rfl
open Classical in
theorem g_addT : gAdd S (.tup xs) (.tup ys) = if sizeOk (xs.length + ys.length) then some (.tup (xs ++ ys)) else none := rfl
open Classical in
theorem g_addL : gAdd S (.lst xs) (.lst ys) = if sizeOk (xs.length + ys.length) then some (.lst (xs ++ ys)) else none := rfl
theorem g_sub : gMns S (.int i) (.int j) = some (.int (i - j)) := rfl
open Classical in
theorem g_mul : gMul S (.int i) (.int j) = if mulOk i j then some (.int (i * j)) else none := rfl
open Classical in
theorem g_div : gDiv S (.int i) (.int j) = if divOk j then some (.int (i / j)) else none := rfl
open Classical in
theorem g_mod : gMod S (.int i) (.int j) = if modOk j then some (.int (i % j)) else none := rfl
open Classical in
theorem g_pow : gPow S (.int i) (.int j) = if powOk i j then some (.int (i ^ j.toNat)) else none := rfl
theorem g_lt : gLt S (.int i) (.int j) = some (.bl (decide (i < j))) := rfl
theorem g_gt : gGt S (.int i) (.int j) = some (.bl (decide (j < i))) := rfl
theorem g_le : gLe S (.int i) (.int j) = some (.bl (decide (i ≤ j))) := rfl
theorem g_ge : gGe S (.int i) (.int j) = some (.bl (decide (j ≤ i))) := rfl
theorem g_ltS : gLt S (.str x) (.str y) = some (.bl (decide (x < y))) := rfl
theorem g_gtS : gGt S (.str x) (.str y) = some (.bl (decide (y < x))) := rfl
theorem g_leS : gLe S (.str x) (.str y) = some (.bl (!decide (y < x))) := rfl
theorem g_geS : gGe S (.str x) (.str y) = some (.bl (!decide (x < y))) := rfl
theorem g_eq : gEq S (.int i) (.int j) = some (.bl (decide (i = j))) := rfl
theorem g_ne : gNe S (.int i) (.int j) = some (.bl (!decide (i = j))) := rfl
theorem g_eqS : gEq S (.str x) (.str y) = some (.bl (decide (x = y))) := rfl
theorem g_neS : gNe S (.str x) (.str y) = some (.bl (!decide (x = y))) := rfl
theorem g_eqB : gEq S (.bl a) (.bl b) = some (.bl (decide (a = b))) := rfl
theorem g_neB : gNe S (.bl a) (.bl b) = some (.bl (!decide (a = b))) := rfl
theorem g_neg : gNeg S (.int i) = some (.int (-i)) := rfl
/-- the size of a number, as the built-in says it -/
def ab (i : Int) : Int := if i < 0 then -i else i
theorem g_abs : gAbs S [.int i] = some (.int (ab i)) := rfl
theorem g_max : gMax2 S [.int i, .int j] = some (.int (if j > i then j else i)) := rfl
theorem g_min : gMin2 S [.int i, .int j] = some (.int (if j < i then j else i)) := rfl
theorem g_int : gInt S [.int i] = some (.int i) := rfl
theorem g_intB : gInt S [.bl a] = some (.int (if a then 1 else 0)) := rfl
theorem g_ixT : gIx S (.tup xs) (.int i) = atD xs i := rfl
theorem g_ixL : gIx S (.lst xs) (.int i) = atD xs i := rfl
theorem g_ixF : gIx S (.fz xs) (.int i) = atD xs i := rfl
theorem g_lenT : gLen S [.tup xs] = some (.int xs.length) := rfl
theorem g_lenL : gLen S [.lst xs] = some (.int xs.length) := rfl
theorem g_lenF : gLen S [.fz xs] = some (.int xs.length) := rfl
open Classical in
theorem g_lenS : gLen S [.str x] = if sizeOk x.length then some (.int x.length) else none := rfl
theorem at_nat {n : Nat} : atD xs (n : Int) = xs[n]? := by unfold atD; rw [if_pos (Int.natCast_nonneg n), Int.toNat_natCast]
theorem at_0 : atD xs 0 = xs[0]? := rfl
theorem at_1 : atD xs 1 = xs[1]? := rfl
theorem at_2 : atD xs 2 = xs[2]? := rfl
theorem at_3 : atD xs 3 = xs[3]? := rfl
theorem at_4 : atD xs 4 = xs[4]? := rfl
theorem sizeOk_of {n : Nat} (h : n ≤ 16777216) : sizeOk n := by unfold sizeOk; rw [sizeLine_eq]; exact h
end
end PD
namespace PD
open PySem PySem.Spec PyProof.Rows L2
theorem so0 : sizeOk 0 := sizeOk_of (by decide)
theorem so1 : sizeOk 1 := sizeOk_of (by decide)
theorem so2 : sizeOk 2 := sizeOk_of (by decide)
theorem so3 : sizeOk 3 := sizeOk_of (by decide)
theorem so4 : sizeOk 4 := sizeOk_of (by decide)
theorem so5 : sizeOk 5 := sizeOk_of (by decide)
theorem so6 : sizeOk 6 := sizeOk_of (by decide)
theorem so7 : sizeOk 7 := sizeOk_of (by decide)
theorem so8 : sizeOk 8 := sizeOk_of (by decide)
theorem so9 : sizeOk 9 := sizeOk_of (by decide)
theorem so10 : sizeOk 10 := sizeOk_of (by decide)
theorem mo10 (i : Int) : mulOk i 10 := mulOk_small (by decide)
theorem divOk_of {j : Int} (h : 0 < j) (h2 : j < 18446744073709551616) : divOk j := by
  refine ⟨h, Nat.lt_of_lt_of_le (PySem.Flt.log2_lt_of (k := 64) (by decide) ?_) (by decide)⟩
  omega
theorem do10 : divOk 10 := divOk_of (by decide) (by decide)
theorem modOk_of {j : Int} (h : 0 < j) : modOk j := h
end PD
namespace PD
open PySem PySem.Spec PyProof.Rows L2
section
variable {S : Sto} {i : Int} {x : Tx} {a : Bool} {xs : List D}
theorem isi_non_int : gIsi S [.non, .ty "int"] = some (.bl false) := by simp [gIsi, tyName, isTy]
theorem isi_non_bool : gIsi S [.non, .ty "bool"] = some (.bl false) := by simp [gIsi, tyName, isTy]
theorem isi_non_str : gIsi S [.non, .ty "str"] = some (.bl false) := by simp [gIsi, tyName, isTy]
theorem isi_non_tuple : gIsi S [.non, .ty "tuple"] = some (.bl false) := by simp [gIsi, tyName, isTy]
theorem isi_non_list : gIsi S [.non, .ty "list"] = some (.bl false) := by simp [gIsi, tyName, isTy]
theorem isi_non_dict : gIsi S [.non, .ty "dict"] = some (.bl false) := by simp [gIsi, tyName, isTy]
theorem isi_bl_int : gIsi S [.bl a, .ty "int"] = some (.bl true) := by simp [gIsi, tyName, isTy]
theorem isi_bl_bool : gIsi S [.bl a, .ty "bool"] = some (.bl true) := by simp [gIsi, tyName, isTy]
theorem isi_bl_str : gIsi S [.bl a, .ty "str"] = some (.bl false) := by simp [gIsi, tyName, isTy]
theorem isi_bl_tuple : gIsi S [.bl a, .ty "tuple"] = some (.bl false) := by simp [gIsi, tyName, isTy]
theorem isi_bl_list : gIsi S [.bl a, .ty "list"] = some (.bl false) := by simp [gIsi, tyName, isTy]
theorem isi_bl_dict : gIsi S [.bl a, .ty "dict"] = some (.bl false) := by simp [gIsi, tyName, isTy]
theorem isi_int_int : gIsi S [.int i, .ty "int"] = some (.bl true) := by simp [gIsi, tyName, isTy]
theorem isi_int_bool : gIsi S [.int i, .ty "bool"] = some (.bl false) := by simp [gIsi, tyName, isTy]
theorem isi_int_str : gIsi S [.int i, .ty "str"] = some (.bl false) := by simp [gIsi, tyName, isTy]
theorem isi_int_tuple : gIsi S [.int i, .ty "tuple"] = some (.bl false) := by simp [gIsi, tyName, isTy]
theorem isi_int_list : gIsi S [.int i, .ty "list"] = some (.bl false) := by simp [gIsi, tyName, isTy]
theorem isi_int_dict : gIsi S [.int i, .ty "dict"] = some (.bl false) := by simp [gIsi, tyName, isTy]
theorem isi_str_int : gIsi S [.str x, .ty "int"] = some (.bl false) := by simp [gIsi, tyName, isTy]
theorem isi_str_bool : gIsi S [.str x, .ty "bool"] = some (.bl false) := by simp [gIsi, tyName, isTy]
theorem isi_str_str : gIsi S [.str x, .ty "str"] = some (.bl true) := by simp [gIsi, tyName, isTy]
theorem isi_str_tuple : gIsi S [.str x, .ty "tuple"] = some (.bl false) := by simp [gIsi, tyName, isTy]
theorem isi_str_list : gIsi S [.str x, .ty "list"] = some (.bl false) := by simp [gIsi, tyName, isTy]
theorem isi_str_dict : gIsi S [.str x, .ty "dict"] = some (.bl false) := by simp [gIsi, tyName, isTy]
theorem isi_tup_int : gIsi S [.tup xs, .ty "int"] = some (.bl false) := by simp [gIsi, tyName, isTy]
theorem isi_tup_bool : gIsi S [.tup xs, .ty "bool"] = some (.bl false) := by simp [gIsi, tyName, isTy]
theorem isi_tup_str : gIsi S [.tup xs, .ty "str"] = some (.bl false) := by simp [gIsi, tyName, isTy]
theorem isi_tup_tuple : gIsi S [.tup xs, .ty "tuple"] = some (.bl true) := by simp [gIsi, tyName, isTy]
theorem isi_tup_list : gIsi S [.tup xs, .ty "list"] = some (.bl false) := by simp [gIsi, tyName, isTy]
theorem isi_tup_dict : gIsi S [.tup xs, .ty "dict"] = some (.bl false) := by simp [gIsi, tyName, isTy]
theorem isi_lst_int : gIsi S [.lst xs, .ty "int"] = some (.bl false) := by simp [gIsi, tyName, isTy]
theorem isi_lst_bool : gIsi S [.lst xs, .ty "bool"] = some (.bl false) := by simp [gIsi, tyName, isTy]
theorem isi_lst_str : gIsi S [.lst xs, .ty "str"] = some (.bl false) := by simp [gIsi, tyName, isTy]
theorem isi_lst_tuple : gIsi S [.lst xs, .ty "tuple"] = some (.bl false) := by simp [gIsi, tyName, isTy]
theorem isi_lst_list : gIsi S [.lst xs, .ty "list"] = some (.bl true) := by simp [gIsi, tyName, isTy]
theorem isi_lst_dict : gIsi S [.lst xs, .ty "dict"] = some (.bl false) := by simp [gIsi, tyName, isTy]
theorem isi_fz_int : gIsi S [.fz xs, .ty "int"] = some (.bl false) := by simp [gIsi, tyName, isTy]
theorem isi_fz_bool : gIsi S [.fz xs, .ty "bool"] = some (.bl false) := by simp [gIsi, tyName, isTy]
theorem isi_fz_str : gIsi S [.fz xs, .ty "str"] = some (.bl false) := by simp [gIsi, tyName, isTy]
theorem isi_fz_tuple : gIsi S [.fz xs, .ty "tuple"] = some (.bl false) := by simp [gIsi, tyName, isTy]
theorem isi_fz_list : gIsi S [.fz xs, .ty "list"] = some (.bl true) := by simp [gIsi, tyName, isTy]
theorem isi_fz_dict : gIsi S [.fz xs, .ty "dict"] = some (.bl false) := by simp [gIsi, tyName, isTy]
end
end PD

/-! PyD6: errors. -/
namespace PD
open PySem PySem.Spec PyProof.Rows L2
def mRaise (e : Exn) : MS := fun E S => .ex e E S
/-- an own class of errors without an __init__ of its own -/
structure ExK (K : PySem.W.Frag) (mg : Str → Option Value) (x : String) : Prop where
  g : mg (x : Str) = some (.ref (He.ga K x))
  q : PySem.W.excIn K (He.ga K x) He.veBase "ValueError.__new__" = true
  k : PySem.W.keepIn K (.ref (He.ga K x)) = true
  b : PySem.W.subIn K (.ref (He.ga K x)) (.type "BaseException") = some true
  t : PySem.W.typeIn K (.ref (He.ga K x)) = some (.type "type")
section
variable {X : Cx} {W : WW X.K} {pos : Pos}
theorem pmk_own0 {C : Addr} {bmB : List Value} {B newId initId : String} {x : Str} {p pos : Pos} (F : ExcBaseFacts B newId initId bmB) (q : PySem.W.excIn X.K C bmB newId = true) (gC : X.mg x = some (.ref C)) (kC : PySem.W.keepIn X.K (.ref C) = true) (r : Raises X (.ref C)) (hg : Gl X x)
    (hdb : (x == ("__debug__" : Str)) = false := by decide) : PMk X (.Call (.Name x p) [] [] pos) (fun _ H Q => Q (.ref C) none H) := by
  intro pins s σ H Q I h
  refine wpAny_Call_Name_kw (ld_glob I hg gC ?_ hdb)
  refine PySem.W.callWith_K0 I.kIn kC ?_
  show wpAny _ _ (call (.ref C) []) _ _ _
  obtain ⟨bm, N, nm, qn, bs, hdct, sn, sub, ab, col, dd, k0, k1, k2, k3, k5, mN, hC, hN, hni, T⟩ := exc_obj I.kIn q
  refine wpAny_call_exc_subT F T hC hN hni (fun h' e hm => ?_) (by show 0 ≤ sizeLine; exact Nat.zero_le _)
  exact mk_of I hm r h (I.hok.gone hm.new)
theorem sd_raise0 {x : String} {p p2 : Pos} (c : ExK X.K X.mg x) (hc : X.calm = true) (tk : Takes X W.w) (hg : Gl X (x : Str)) (hdb : ((x : Str) == ("__debug__" : Str)) = false := by decide) :
    SD X W (.Raise (some (.Call (.Name (x : Str) p) [] [] p2)) none pos) (mRaise ⟨.own x, none⟩) := by
  refine sd_of (ps_raise hc tk (pmk_own0 PySem.F.excBase_ValueError c.q c.g c.k (raises_own c.b c.t) hg hdb)) fun D σ H ρ S E r er p => ?_
  exact p ρ H σ _ none r Ext.refl er ⟨rfl, rfl⟩
/-! try: .. except C as n: .. -/
/-- does the clause take it: a table by the classes' names -/
def takesE (tbl : List (String × Bool)) (e : Exn) : Option Bool := match e.cls with
  | .own x => tbl.lookup x
  | .bi _ => none
def mTryAs (body : MS) (tbl : List (String × Bool)) (i : Nat) (suite : Exn → MS) : MS := fun E S => match body E S with
  | .ex e E' S' => (match takesE tbl e with
    | some true => if i < E'.length then (match suite e (E'.set i (some .exo)) S' with
      | .nx E2 S2 => .nx (E2.set i none) S2
      | .bk E2 S2 => .bk (E2.set i none) S2
      | .ct E2 S2 => .ct (E2.set i none) S2
      | .rt d S2 => .rt d S2
      | _ => .bad) else .bad
    | some false => .ex e E' S'
    | none => .bad)
  | r => r
def mTryOnly (body : MS) (tbl : List (String × Bool)) (suite : Exn → MS) : MS := fun E S => match body E S with
  | .ex e E' S' => (match takesE tbl e with
    | some true => (match suite e E' S' with
      | .ex _ _ _ => .bad
      | r => r)
    | some false => .ex e E' S'
    | none => .bad)
  | r => r
/-- what the table's words say of the written part -/
def TblOk (K : PySem.W.Frag) (c : Value) (tbl : List (String × Bool)) : Prop := ∀ p ∈ tbl, PySem.W.exmOne K (.ref (He.ga K p.1)) c = some p.2
theorem lookup_mem' : ∀ {tbl : List (String × Bool)} {x : String} {b : Bool}, tbl.lookup x = some b → (x, b) ∈ tbl
  | [], _, _, h => by cases h
  | (y, c) :: t, x, b, h => by
    rw [List.lookup_cons] at h
    by_cases q : (x == y) = true
    · rw [q] at h
      cases h
      rw [beq_iff_eq.mp q]
      exact List.mem_cons_self
    · have q2 : (x == y) = false := by simpa using q
      rw [q2] at h
      exact List.mem_cons_of_mem _ (lookup_mem' h)
/-- what holds in the suite -/
def WS (X : Cx) (W : WW X.K) (e : Exn) (c : Value) (d : Option Addr) (f : Option (Nat × Addr)) : WW X.K := ⟨fun _ _ _ _ => False, fun ρ H => XR X.K ρ H e c d ∧ W.g ρ H, fun _ _ _ _ x h => ⟨h.1.mono x, W.gm _ _ _ _ x h.2⟩, f⟩
theorem sd_try_as {x : String} {n : Str} {i : Nat} {body suite : List Stmt} {b0 : Stmt} {np pos' : Pos} {mb : MS} {ms : Exn → MS} {tbl : List (String × Bool)} {c : Value} (hs : X.stack = X.env :: X.outer) (hf : X.env.frame = some X.env.locals) (hN : X.N.Nodup) (hi : X.N[i]? = some n) (hln : X.env.kindOf n = some .local)
    (hw : W.fix = none) (hc : Names X (x : Str) c) (ht : TblOk X.K c tbl) (tk : Takes X W.w)
    (hb : ∀ (w : WX) (pn : List (Addr × Obj)) (xe : Value → Shared → Prop), Takes (X.tr pn xe) w → PassesOwn (model X.prog X.w) X.A X.env xe → BD (X.tr pn xe) (⟨w, W.g, W.gm, W.fix⟩ : WW X.K) body mb)
    (hsu : ∀ (a : Addr) (oe : Obj) (e : Exn) (d : Option Addr) (pn : List (Addr × Obj)), Zc (e.cls.val X.K) d oe → (∃ vs, oe.data = .fields vs) → BD (X.suite a ((a, oe) :: pn)) (WS X W e (e.cls.val X.K) d (some (i, a)) : WW X.K) (b0 :: suite) (ms e)) :
    SD X W (.Try body [.ExceptHandler (some (.Name (x : Str) np)) (some n) (b0 :: suite) pos'] [] [] pos) (mTryAs mb tbl i ms) := by
  refine sd_of (ps_try_as (tb := fun w => tS X.K (⟨w, W.g, W.gm, W.fix⟩ : WW X.K) mb) (ts := fun a cls d D σ H => ∃ ρ S E e, Rel X.K ρ S H ∧ ER X.K W ρ H E σ ∧ XR X.K ρ H e cls d ∧ σ[i]? = some (some (.ref a)) ∧ SPost X.K (WS X W e cls d (some (i, a))) ρ H D (ms e E S)) hs hf hN hi hln hc tk (fun w pn xe h1 h2 => hb w pn xe h1 h2) ?_) ?_
  · intro a oe cls d pn hz hv
    refine ⟨fun pins s σ H D I q => ?_⟩
    obtain ⟨ρ, S, E, e, r, er, xr, sa, p⟩ := q
    have hcls := xr.1
    subst hcls
    exact (hsu a oe e d pn hz hv).run pins s σ H D I ⟨ρ, S, E, r, er.wish ⟨xr, er.1⟩ (fun j b z => by cases z; exact sa), p⟩
  · intro D σ H ρ S E r er p
    refine ⟨ρ, S, E, r, er.wish er.1 er.2.1, ?_⟩
    unfold mTryAs at p
    cases q : mb E S with
    | nx E' S' => rw [q] at p; exact fun ρ' H' σ' r' e' er' => p ρ' H' σ' r' e' (er'.wish er'.1 er'.2.1)
    | rt d S' => rw [q] at p; exact p
    | bk E' S' => rw [q] at p; exact fun ρ' H' σ' r' e' er' => p ρ' H' σ' r' e' (er'.wish er'.1 er'.2.1)
    | ct E' S' => rw [q] at p; exact fun ρ' H' σ' r' e' er' => p ρ' H' σ' r' e' (er'.wish er'.1 er'.2.1)
    | bad => rw [q] at p; exact p
    | ex e E' S' =>
      rw [q] at p
      intro ρ' H' σ' cv dx r' e' er' xr
      have hcls := xr.1
      simp only at p
      cases ht2 : takesE tbl e with
      | none => rw [ht2] at p; exact p.elim
      | some b =>
        rw [ht2] at p
        have hm : PySem.W.exmOne X.K cv c = some b := by
          unfold takesE at ht2
          rw [hcls]
          cases q2 : e.cls with
          | own y => rw [q2] at ht2; exact ht (y, b) (lookup_mem' ht2)
          | bi y => rw [q2] at ht2; cases ht2
        refine ⟨b, hm, fun hb1 a ha => ?_, fun hb1 => ?_⟩
        · subst hb1
          simp only at p
          by_cases hil : i < E'.length
          case neg => rw [if_neg hil] at p; exact p.elim
          rw [if_pos hil] at p
          have er3 := (er'.wish (W' := W) er'.1 er'.2.1).set hw i (show DV X.K ρ' H' .exo (.ref a) by simp [DV])
          refine ⟨ρ', S', E'.set i (some .exo), e, r', er3, xr, ?_, ?_⟩
          · have hlt : i < σ'.length := by rw [← er'.2.2.1]; exact hil
            rw [List.getElem?_set_self hlt]
          cases q3 : ms e (E'.set i (some .exo)) S' with
          | nx E2 S2 => rw [q3] at p; exact fun ρ2 H2 σ2 r2 e2 er2 => p ρ2 H2 _ r2 (e'.trans e2) ((er2.wish (W' := W) er2.1.2 (fun j b z => by rw [hw] at z; cases z)).unset hw i)
          | bk E2 S2 => rw [q3] at p; exact fun ρ2 H2 σ2 r2 e2 er2 => p ρ2 H2 _ r2 (e'.trans e2) ((er2.wish (W' := W) er2.1.2 (fun j b z => by rw [hw] at z; cases z)).unset hw i)
          | ct E2 S2 => rw [q3] at p; exact fun ρ2 H2 σ2 r2 e2 er2 => p ρ2 H2 _ r2 (e'.trans e2) ((er2.wish (W' := W) er2.1.2 (fun j b z => by rw [hw] at z; cases z)).unset hw i)
          | rt d2 S2 => rw [q3] at p; exact fun ρ2 H2 v r2 e2 dv => p ρ2 H2 v r2 (e'.trans e2) dv
          | ex e2 E2 S2 => rw [q3] at p; exact p.elim
          | bad => rw [q3] at p; exact p.elim
        · subst hb1
          exact p ρ' H' σ' cv dx r' e' (er'.wish er'.1 er'.2.1) xr
theorem sd_try_only {x : String} {body suite : List Stmt} {b0 : Stmt} {np pos' : Pos} {mb : MS} {ms : Exn → MS} {tbl : List (String × Bool)} {c : Value} (hs : X.stack = X.env :: X.outer) (hf : X.env.frame = some X.env.locals)
    (hc : Names X (x : Str) c) (ht : TblOk X.K c tbl) (tk : Takes X W.w)
    (hb : ∀ (w : WX) (pn : List (Addr × Obj)) (xe : Value → Shared → Prop), Takes (X.tr pn xe) w → PassesOwn (model X.prog X.w) X.A X.env xe → BD (X.tr pn xe) (⟨w, W.g, W.gm, W.fix⟩ : WW X.K) body mb)
    (hsu : ∀ (a : Addr) (oe : Obj) (e : Exn) (d : Option Addr) (pn : List (Addr × Obj)), Zc (e.cls.val X.K) d oe → (∃ vs, oe.data = .fields vs) → BD (X.suite a ((a, oe) :: pn)) (WS X W e (e.cls.val X.K) d W.fix : WW X.K) (b0 :: suite) (ms e)) :
    SD X W (.Try body [.ExceptHandler (some (.Name (x : Str) np)) none (b0 :: suite) pos'] [] [] pos) (mTryOnly mb tbl ms) := by
  refine sd_of (ps_try_only (tb := fun w => tS X.K (⟨w, W.g, W.gm, W.fix⟩ : WW X.K) mb) (ts := fun a cls d D σ H => ∃ ρ S E e, Rel X.K ρ S H ∧ ER X.K W ρ H E σ ∧ XR X.K ρ H e cls d ∧ SPost X.K (WS X W e cls d W.fix) ρ H D (ms e E S)) hs hf hc tk (fun w pn xe h1 h2 => hb w pn xe h1 h2) ?_) ?_
  · intro a oe cls d pn hz hv
    refine ⟨fun pins s σ H D I q => ?_⟩
    obtain ⟨ρ, S, E, e, r, er, xr, p⟩ := q
    have hcls := xr.1
    subst hcls
    exact (hsu a oe e d pn hz hv).run pins s σ H D I ⟨ρ, S, E, r, er.wish ⟨xr, er.1⟩ er.2.1, p⟩
  · intro D σ H ρ S E r er p
    refine ⟨ρ, S, E, r, er.wish er.1 er.2.1, ?_⟩
    unfold mTryOnly at p
    cases q : mb E S with
    | nx E' S' => rw [q] at p; exact fun ρ' H' σ' r' e' er' => p ρ' H' σ' r' e' (er'.wish er'.1 er'.2.1)
    | rt d S' => rw [q] at p; exact p
    | bk E' S' => rw [q] at p; exact fun ρ' H' σ' r' e' er' => p ρ' H' σ' r' e' (er'.wish er'.1 er'.2.1)
    | ct E' S' => rw [q] at p; exact fun ρ' H' σ' r' e' er' => p ρ' H' σ' r' e' (er'.wish er'.1 er'.2.1)
    | bad => rw [q] at p; exact p
    | ex e E' S' =>
      rw [q] at p
      intro ρ' H' σ' cv dx r' e' er' xr
      have hcls := xr.1
      simp only at p
      cases ht2 : takesE tbl e with
      | none => rw [ht2] at p; exact p.elim
      | some b =>
        rw [ht2] at p
        have hm : PySem.W.exmOne X.K cv c = some b := by
          unfold takesE at ht2
          rw [hcls]
          cases q2 : e.cls with
          | own y => rw [q2] at ht2; exact ht (y, b) (lookup_mem' ht2)
          | bi y => rw [q2] at ht2; cases ht2
        refine ⟨b, hm, fun hb1 a ha => ?_, fun hb1 => ?_⟩
        · subst hb1
          simp only at p
          refine ⟨ρ', S', E', e, r', er'.wish (W' := W) er'.1 er'.2.1, xr, ?_⟩
          cases q3 : ms e E' S' with
          | nx E2 S2 => rw [q3] at p; exact fun ρ2 H2 σ2 r2 e2 er2 => p ρ2 H2 _ r2 (e'.trans e2) (er2.wish er2.1.2 er2.2.1)
          | bk E2 S2 => rw [q3] at p; exact fun ρ2 H2 σ2 r2 e2 er2 => p ρ2 H2 _ r2 (e'.trans e2) (er2.wish er2.1.2 er2.2.1)
          | ct E2 S2 => rw [q3] at p; exact fun ρ2 H2 σ2 r2 e2 er2 => p ρ2 H2 _ r2 (e'.trans e2) (er2.wish er2.1.2 er2.2.1)
          | rt d2 S2 => rw [q3] at p; exact fun ρ2 H2 v r2 e2 dv => p ρ2 H2 v r2 (e'.trans e2) dv
          | ex e2 E2 S2 => rw [q3] at p; exact p.elim
          | bad => rw [q3] at p; exact p.elim
        · subst hb1
          exact p ρ' H' σ' cv dx r' e' (er'.wish er'.1 er'.2.1) xr
end
end PD
namespace PD
open PySem PySem.Spec PyProof.Rows L2
/-- isinstance of the caught error, by a table of the classes' names -/
def mExIs (e : Exn) (tbl : List (String × Bool)) : ME := fun _ S => match e.fs with
  | some _ => .bad
  | none => (match takesE tbl e with
    | some b => .ok (.bl b) S
    | none => .bad)
structure IsOk (K : PySem.W.Frag) (c : String) (tbl : List (String × Bool)) : Prop where
  all : ∀ p ∈ tbl, ExcC K (He.ga K p.1) ∧ PySem.W.kitOne K (.ref (He.ga K p.1)) (.ref (He.ga K c)) = some p.2
theorem takesE_some {tbl : List (String × Bool)} {e : Exn} {b : Bool} (h : takesE tbl e = some b) : ∃ y, e.cls = .own y ∧ (y, b) ∈ tbl := by
  unfold takesE at h
  cases q : e.cls with
  | own y => rw [q] at h; exact ⟨y, rfl, lookup_mem' h⟩
  | bi y => rw [q] at h; cases h
section
variable {X : Cx} {W : WW X.K} {pos : Pos}
theorem ed_exis {e : Exn} {d : Option Addr} {a : Addr} {oe : Obj} {pn : List (Addr × Obj)} {i : Nat} {c : String} {tbl : List (String × Bool)} {en ec : Expr} {p : Pos} (hz : Zc (e.cls.val X.K) d oe) (hv : ∃ vs, oe.data = .fields vs) (ht : IsOk X.K c tbl)
    (hg : Gl X "isinstance") (hm : X.mg "isinstance" = none) (hn : PE (X.suite a ((a, oe) :: pn)) en (tVar i)) (hc : PE (X.suite a ((a, oe) :: pn)) ec (tC (.ref (He.ga X.K c))))
    (hs1 : starEach (en :: [ec]) X.env = (false, eval en X.env) :: starEach [ec] X.env := by rfl) (hs2 : starEach (ec :: []) X.env = (false, eval ec X.env) :: starEach [] X.env := by rfl) (hpl : (backTo pos (starEach [ec] X.env)).any (·.1) = false := by rfl) :
    ED (X.suite a ((a, oe) :: pn)) (WS X W e (e.cls.val X.K) d (some (i, a)) : WW X.K) (.Call (.Name "isinstance" p) [en, ec] [] pos) (mExIs e tbl) := by
  refine ⟨fun pins s σ H Q I h => ?_⟩
  obtain ⟨ρ, S, E, r, er, q⟩ := h
  unfold mExIs at q
  cases q1 : e.fs with
  | some fs => rw [q1] at q; exact q.elim
  | none =>
    rw [q1] at q
    cases q2 : takesE tbl e with
    | none => rw [q2] at q; exact q.elim
    | some b =>
      rw [q2] at q
      obtain ⟨y, hy, hmem⟩ := takesE_some q2
      obtain ⟨hC, hk⟩ := ht.all _ hmem
      have hd : d = none := by
        have h1 := er.1.1.2
        rw [q1] at h1
        exact h1
      subst hd
      rw [hy] at hz
      have C : CallR (X.suite a ((a, oe) :: pn)) (.builtin "isinstance") (rIsE X.K (He.ga X.K y) a) := call_isE hC hz hv
      refine PE.run (pe_callB (X := X.suite a ((a, oe) :: pn)) C hg hm boot_isinstance (pa_cons (X := X.suite a ((a, oe) :: pn)) hn (pa_cons (X := X.suite a ((a, oe) :: pn)) hc pa_nil hs2) hs1) (he := hs1) (hpl := hpl)) pins s σ H Q I ?_
      refine ⟨.ref a, er.2.1 i a rfl, ?_⟩
      exact ⟨.ref (He.ga X.K c), .ref (He.ga X.K c), b, rfl, fun u hu => hu, hk, q ρ H _ r Ext.refl (by simp [DV])⟩
end
/-! ### more facts of the written part: a row of truths -/
def obsB (n : Nat) (fa : List He.Fa) (fn : List He.DefD) (ex : PySem.W.Frag → Bool) (g : Addr → Option Obj) : He.AlD × Bool := (He.obsDG n fa fn g, ex (He.frG g (He.asD g n)))
def hookB (n : Nat) (fa : List He.Fa) (fn : List He.DefD) (ex : PySem.W.Frag → Bool) : PySem.W.Hook where
  α := He.AlD × Bool
  obs := fun s => obsB n fa fn ex s.heap.get?
  val := fun _ => (He.valD fn, true)
  says := fun _ h => ∃ K : PySem.W.Frag, K.In h ∧ He.SaysD fa fn K ∧ ex K = true
  of := fun _ _ e => ⟨_, He.frG_in, congrArg (fun z : He.AlD × Bool => z.1) e, congrArg (fun z : He.AlD × Bool => z.2) e⟩
  keeps := fun _ _ _ ⟨K, hK, c⟩ k => ⟨K, PySem.W.Frag.In.keeps hK k, c⟩
theorem obsB_eq {n : Nat} {fa : List He.Fa} {fn : List He.DefD} {ex : PySem.W.Frag → Bool} {g : Addr → Option Obj} {s : Shared} (h : ∀ a, g a = s.heap.get? a) : obsB n fa fn ex g = (hookB n fa fn ex).obs s := by
  have e : g = s.heap.get? := funext h
  rw [e] <;> rfl
def excCB (K : PySem.W.Frag) (x : String) : Bool :=
  decide (PySem.W.findIn K (.ref (He.ga K x)) "__getattribute__" = some (some (.builtin "BaseException.__getattribute__"))) && (decide (PySem.W.findIn K (.ref (He.ga K x)) "__getattr__" = some none) &&
  (decide (PySem.W.subIn K (.ref (He.ga K x)) (.type "BaseException") = some true) && (PySem.W.hasDictIn K (He.ga K x) && (decide (PySem.W.findIn K (.ref (He.ga K x)) "__class__" = some (some (.builtin "object.__class__"))) &&
  (decide (PySem.W.specialIn K (.builtin "object.__class__") "__get__" = some (some (.builtin "getset_descriptor.__get__"))) && (decide (PySem.W.takesIn K (.builtin "object.__class__") = some true) && decide (PySem.W.mroIn K (He.ga K x) (.type "object") = some true)))))))
theorem excCB_ok {K : PySem.W.Frag} {x : String} (h : excCB K x = true) : ExcC K (He.ga K x) := by
  unfold excCB at h
  simp only [Bool.and_eq_true, decide_eq_true_eq] at h
  obtain ⟨h1, h2, h3, h4, h5, h6, h7, h8⟩ := h
  exact ⟨h1, h2, h3, h4, h5, h6, h7, h8⟩
def kitCB (K : PySem.W.Frag) (x c : String) (b : Bool) : Bool := decide (PySem.W.kitOne K (.ref (He.ga K x)) (.ref (He.ga K c)) = some b)
theorem kitCB_ok {K : PySem.W.Frag} {x c : String} {b : Bool} (h : kitCB K x c b = true) : PySem.W.kitOne K (.ref (He.ga K x)) (.ref (He.ga K c)) = some b := of_decide_eq_true h
end PD
namespace PD
open PySem PySem.Spec PyProof.Rows L2
/-! name += value: numbers, texts -/
open Classical in
noncomputable def gAddA (_ : Sto) (x y : D) : Option D := match x, y with
  | .int i, .int j => some (.int (i + j))
  | .str a, .str b => if sizeOk (a.length + b.length) then some (.str (a ++ b)) else none
  | _, _ => none
theorem g_addA {S : Sto} {i j : Int} : gAddA S (.int i) (.int j) = some (.int (i + j)) := rfl
open Classical in
theorem g_addAS {S : Sto} {x y : Tx} : gAddA S (.str x) (.str y) = if sizeOk (x.length + y.length) then some (.str (x ++ y)) else none := rfl
def rAddA : R2 := fun x y H Q => (rI0 fun i j => .int (i + j)) x y H Q ∨ (∃ i j, x = .str i ∧ y = .str j ∧ i.length + j.length ≤ sizeLine ∧ Q (.str (i ++ j)) H)
section
variable {X : Cx}
theorem iop_addD : OpR X (inplaceOp .Add) rAddA := iop_add.or iop_add_str
theorem rp_iadd : ∀ x y H Q, rP X.K gAddA x y H Q → rAddA x y H Q := by
  rintro v u H Q ⟨ρ, S, x, y, d, r, dx, dy, hg, q⟩
  unfold gAddA at hg
  split at hg
  · rw [dv_int] at dx dy
    subst dx dy
    cases hg
    exact .inl ⟨_, _, rfl, rfl, post_int r q⟩
  · rename_i a b
    rw [dv_str] at dx dy
    subst dx dy
    by_cases hl : sizeOk (a.length + b.length)
    · rw [if_pos hl] at hg
      cases hg
      exact .inr ⟨_, _, rfl, rfl, by rw [sv_len, sv_len]; exact hl, by rw [sv_cat]; exact post_str r q⟩
    · rw [if_neg hl] at hg; cases hg
  · cases hg
end
end PD

namespace PD
open PySem PySem.Spec PyProof PyProof.Rows L2
/-! ### == on data -/
mutual
def okd : D → Nat → Bool
  | .non, _ => true
  | .bl _, _ => true
  | .int _, _ => true
  | .str c, _ => c.all (· < 0x110000)
  | .tup xs, n => decide (0 < n) && okds xs (n - 1)
  | .lst xs, n => decide (0 < n) && okds xs (n - 1)
  | .fz xs, n => decide (0 < n) && okds xs (n - 1)
  | .loc _, _ => false
  | .ty _, _ => false
  | .glo _, _ => false
  | .exo, _ => false
def okds : List D → Nat → Bool
  | [], _ => true
  | x :: xs, n => okd x n && okds xs n
end
mutual
def teq : D → D → Bool
  | .non, y => match y with | .non => true | _ => false
  | .bl a, y => match y with | .bl b => a == b | .int j => (if a then 1 else 0) == j | _ => false
  | .int i, y => match y with | .bl b => i == (if b then 1 else 0) | .int j => decide (i = j) | _ => false
  | .str a, y => match y with | .str b => decide (a = b) | _ => false
  | .tup xs, y => match y with | .tup ys => teqs xs ys | _ => false
  | .lst xs, y => match y with | .lst ys => teqs xs ys | .fz ys => teqs xs ys | _ => false
  | .fz xs, y => match y with | .lst ys => teqs xs ys | .fz ys => teqs xs ys | _ => false
  | .loc _, _ => false
  | .ty _, _ => false
  | .glo _, _ => false
  | .exo, _ => false
def teqs : List D → List D → Bool
  | [], ys => match ys with | [] => true | _ :: _ => false
  | x :: xs, ys => match ys with | [] => false | y :: ys => teq x y && teqs xs ys
end
mutual
theorem okd_toP : ∀ (d : D) (n : Nat), okd d n = true → ∃ p, toP d = some p ∧ p.canLay0 = true ∧ p.depth ≤ n
  | .non, n, h => ⟨_, rfl, by simp [PyData.canLay0], by simp [PyData.depth]⟩
  | .bl b, n, h => ⟨_, rfl, by simp [PyData.canLay0], by simp [PyData.depth]⟩
  | .int i, n, h => ⟨_, rfl, by simp [PyData.canLay0], by simp [PyData.depth]⟩
  | .str c, n, h => by
    simp only [okd] at h
    exact ⟨_, rfl, by simpa [PyData.canLay0, PyData.strOk] using h, by simp [PyData.depth]⟩
  | .tup xs, n, h => by
    simp only [okd, Bool.and_eq_true, decide_eq_true_eq] at h
    obtain ⟨p, e, a, b⟩ := okds_toP xs (n - 1) h.2
    refine ⟨.tuple p, by simp only [toP, e, Option.map_some], by simpa [PyData.canLay0] using a, by simp [PyData.depth]; omega⟩
  | .lst xs, n, h => by
    simp only [okd, Bool.and_eq_true, decide_eq_true_eq] at h
    obtain ⟨p, e, a, b⟩ := okds_toP xs (n - 1) h.2
    refine ⟨.list p, by simp only [toP, e, Option.map_some], by simpa [PyData.canLay0] using a, by simp [PyData.depth]; omega⟩
  | .fz xs, n, h => by
    simp only [okd, Bool.and_eq_true, decide_eq_true_eq] at h
    obtain ⟨p, e, a, b⟩ := okds_toP xs (n - 1) h.2
    refine ⟨.list p, by simp only [toP, e, Option.map_some], by simpa [PyData.canLay0] using a, by simp [PyData.depth]; omega⟩
  | .loc _, n, h => by simp [okd] at h
  | .ty _, n, h => by simp [okd] at h
  | .glo _, n, h => by simp [okd] at h
  | .exo, n, h => by simp [okd] at h
theorem okds_toP : ∀ (ds : List D) (n : Nat), okds ds n = true → ∃ p, toPs ds = some p ∧ PyData.canLayAll0 p = true ∧ PyData.depthAll p ≤ n
  | [], n, h => ⟨[], rfl, by simp [PyData.canLayAll0], by simp [PyData.depthAll]⟩
  | x :: xs, n, h => by
    simp only [okds, Bool.and_eq_true] at h
    obtain ⟨p, e, a, b⟩ := okd_toP x n h.1
    obtain ⟨q, e2, a2, b2⟩ := okds_toP xs n h.2
    exact ⟨p :: q, by simp only [toPs, e, e2], by simp [PyData.canLayAll0, a, a2], by simp [PyData.depthAll]; omega⟩
end
theorem tx_str {a b : Tx} : ((⟨a.toArray⟩ : Str) == ⟨b.toArray⟩) = decide (a = b) := by
  rw [Bool.eq_iff_iff]
  simp only [beq_iff_eq, decide_eq_true_eq]
  constructor
  · intro h; have := congrArg (fun x : Str => x.cps.toList) h; simpa using this
  · intro h; rw [h]
mutual
theorem eqv_teq : ∀ (x y : D) (p q : PyData), toP x = some p → toP y = some q → PyData.eqv p q = teq x y
  | .non, y, p, q, h, g => by
    simp only [toP] at h; cases h
    cases y <;> simp only [toP, Option.map_eq_some_iff, reduceCtorEq] at g
    all_goals first | (obtain ⟨r, _, rfl⟩ := g; simp [PyData.eqv, teq]; done) | (cases g; simp [PyData.eqv, teq]; done)
  | .bl b, y, p, q, h, g => by
    simp only [toP] at h; cases h
    cases y <;> simp only [toP, Option.map_eq_some_iff, reduceCtorEq] at g
    all_goals first | (obtain ⟨r, _, rfl⟩ := g; simp [PyData.eqv, teq]; done) | (cases g; simp [PyData.eqv, teq]; done)
  | .int i, y, p, q, h, g => by
    simp only [toP] at h; cases h
    cases y <;> simp only [toP, Option.map_eq_some_iff, reduceCtorEq] at g
    all_goals first | (obtain ⟨r, _, rfl⟩ := g; simp [PyData.eqv, teq]; done) | (cases g; simp [PyData.eqv, teq]; done) | (cases g; simp only [PyData.eqv, teq]; rw [Bool.eq_iff_iff]; simp; done)
  | .str c, y, p, q, h, g => by
    simp only [toP] at h; cases h
    cases y <;> simp only [toP, Option.map_eq_some_iff, reduceCtorEq] at g
    all_goals first | (obtain ⟨r, _, rfl⟩ := g; simp [PyData.eqv, teq]; done) | (cases g; simp only [PyData.eqv, teq]; exact tx_str) | (cases g; simp [PyData.eqv, teq]; done)
  | .tup xs, y, p, q, h, g => by
    simp only [toP, Option.map_eq_some_iff] at h
    obtain ⟨ps, h1, rfl⟩ := h
    cases y <;> simp only [toP, Option.map_eq_some_iff, reduceCtorEq] at g
    all_goals first | (obtain ⟨r, g1, rfl⟩ := g; simp only [PyData.eqv, teq]; exact eqv_teqs _ _ _ _ h1 g1) | (obtain ⟨r, g1, rfl⟩ := g; simp only [PyData.eqv, teq]; done) | (cases g; simp [PyData.eqv, teq]; done)
  | .lst xs, y, p, q, h, g => by
    simp only [toP, Option.map_eq_some_iff] at h
    obtain ⟨ps, h1, rfl⟩ := h
    cases y <;> simp only [toP, Option.map_eq_some_iff, reduceCtorEq] at g
    all_goals first | (obtain ⟨r, g1, rfl⟩ := g; simp only [PyData.eqv, teq]; exact eqv_teqs _ _ _ _ h1 g1) | (obtain ⟨r, g1, rfl⟩ := g; simp only [PyData.eqv, teq]; done) | (cases g; simp [PyData.eqv, teq]; done)
  | .fz xs, y, p, q, h, g => by
    simp only [toP, Option.map_eq_some_iff] at h
    obtain ⟨ps, h1, rfl⟩ := h
    cases y <;> simp only [toP, Option.map_eq_some_iff, reduceCtorEq] at g
    all_goals first | (obtain ⟨r, g1, rfl⟩ := g; simp only [PyData.eqv, teq]; exact eqv_teqs _ _ _ _ h1 g1) | (obtain ⟨r, g1, rfl⟩ := g; simp only [PyData.eqv, teq]; done) | (cases g; simp [PyData.eqv, teq]; done)
  | .loc _, y, p, q, h, g => by simp [toP] at h
  | .ty _, y, p, q, h, g => by simp [toP] at h
  | .glo _, y, p, q, h, g => by simp [toP] at h
  | .exo, y, p, q, h, g => by simp [toP] at h
theorem eqv_teqs : ∀ (xs ys : List D) (p q : List PyData), toPs xs = some p → toPs ys = some q → PyData.eqvAll p q = teqs xs ys
  | [], ys, p, q, h, g => by
    simp only [toPs] at h; cases h
    cases ys with
    | nil => simp only [toPs] at g; cases g; simp [PyData.eqvAll, teqs]
    | cons y ys =>
      simp only [toPs] at g
      split at g
      · cases g; simp [PyData.eqvAll, teqs]
      · cases g
  | x :: xs, ys, p, q, h, g => by
    simp only [toPs] at h
    split at h
    · rename_i a b e1 e2
      cases h
      cases ys with
      | nil => simp only [toPs] at g; cases g; simp [PyData.eqvAll, teqs]
      | cons y ys =>
        simp only [toPs] at g
        split at g
        · rename_i c d e3 e4
          cases g
          simp only [PyData.eqvAll, teqs]
          rw [eqv_teq x y a c e1 e3, eqv_teqs xs ys b d e2 e4]
        · cases g
    · cases h
end
/-- a value with the items of a list that may change read off -/
def flat (S : Sto) (d : D) : D := match d with
  | .loc n => match seqF S (.loc n) with
    | some xs => .lst xs
    | none => .loc n
  | d => d
theorem toPS_flat (S : Sto) (d : D) : okd (flat S d) 64 = true → toPS S d = toP (flat S d) := by
  intro h
  unfold toPS
  cases d
  case loc n =>
    simp only [flat] at *
    cases e : seqF S (.loc n) with
    | none => (try rw [e] at h) <;> simp [okd] at h
    | some xs => simp only [e]; simp only [toP]
  all_goals simp only [seqF, flat, toP]
theorem deepEq_teq {S : Sto} {x y : D} (hx : okd (flat S x) 64 = true) (hy : okd (flat S y) 64 = true) : deepEq S x y = some (teq (flat S x) (flat S y)) := by
  obtain ⟨p, e1, a1, b1⟩ := okd_toP _ _ hx
  obtain ⟨q, e2, a2, b2⟩ := okd_toP _ _ hy
  unfold deepEq
  rw [toPS_flat S x hx, toPS_flat S y hy, e1, e2]
  simp only
  rw [if_pos ⟨by simp [SeqAt.shaped, a1, b1], by simp [SeqAt.shaped, a2, b2]⟩, eqv_teq _ _ _ _ e1 e2]
theorem eqB_teq {S : Sto} {x y : D} (hx : okd (flat S x) 64 = true) (hy : okd (flat S y) 64 = true) : eqB S x y = some (teq (flat S x) (flat S y)) := by
  unfold eqB
  split
  all_goals first | (simp [flat, teq]; done) | exact deepEq_teq hx hy
theorem gEq_teq {S : Sto} {x y : D} (hx : okd (flat S x) 64 = true) (hy : okd (flat S y) 64 = true) : gEq S x y = some (.bl (teq (flat S x) (flat S y))) := by
  unfold gEq; rw [eqB_teq hx hy]; rfl
theorem gNe_teq {S : Sto} {x y : D} (hx : okd (flat S x) 64 = true) (hy : okd (flat S y) 64 = true) : gNe S x y = some (.bl (!teq (flat S x) (flat S y))) := by
  unfold gNe; rw [eqB_teq hx hy]; rfl
mutual
theorem teq_self : ∀ (d : D) (n : Nat), okd d n = true → teq d d = true
  | .non, _, _ => by simp [teq]
  | .bl _, _, _ => by simp [teq]
  | .int _, _, _ => by simp [teq]
  | .str _, _, _ => by simp [teq]
  | .tup xs, n, h => by simp only [okd, Bool.and_eq_true] at h; simp only [teq]; exact teqs_self xs _ h.2
  | .lst xs, n, h => by simp only [okd, Bool.and_eq_true] at h; simp only [teq]; exact teqs_self xs _ h.2
  | .fz xs, n, h => by simp only [okd, Bool.and_eq_true] at h; simp only [teq]; exact teqs_self xs _ h.2
  | .loc _, _, h => by simp [okd] at h
  | .ty _, _, h => by simp [okd] at h
  | .glo _, _, h => by simp [okd] at h
  | .exo, _, h => by simp [okd] at h
theorem teqs_self : ∀ (ds : List D) (n : Nat), okds ds n = true → teqs ds ds = true
  | [], _, _ => by simp [teqs]
  | x :: xs, n, h => by
    simp only [okds, Bool.and_eq_true] at h
    simp only [teqs, teq_self x n h.1, teqs_self xs n h.2, Bool.and_self]
end
end PD

/-! PyD8: texts, methods, lists that change. -/
namespace PD
open PySem PySem.Spec PyProof PyProof.Rows L2
section
variable {X : Cx} {W : WW X.K} {pos : Pos}
/-! ### slices -/
def cutL {α : Type} (xs : List α) (lo hi : Option Int) : List α := (xs.drop (HT.sIx xs.length 0 lo)).take (HT.sIx xs.length xs.length hi - HT.sIx xs.length 0 lo)
open Classical in
noncomputable def gSl (S : Sto) (x : D) (lo hi : Option Int) : Option D := match x with
  | .str z => if sizeOk z.length then some (.str (cutL z lo hi)) else none
  | .tup xs => some (.tup (cutL xs lo hi))
  | x => (seqF S x).map fun xs => .lst (cutL xs lo hi)
def rSlAny (K : PySem.W.Frag) : V → Option Int → Option Int → Hp → VK → Prop := fun x lo hi H Q => rSlS x lo hi H Q ∨ rSlA K x lo hi H Q ∨ rSlL K x lo hi H Q
theorem sl_any : SlR X (rSlAny X.K) := sl_str.or (sl_tupA.or sl_list)
theorem cutS_D (z : Tx) (lo hi : Option Int) : cutS ⟨z.toArray⟩ lo hi = ⟨(cutL z lo hi).toArray⟩ := by
  unfold cutS cutL
  rw [sv_len]
theorem dvs_cut {K : PySem.W.Frag} {ρ : List Addr} {H : Hp} {ds : List D} {vs : List V} {lo hi : Option Int} (h : DVs K ρ H ds vs) : DVs K ρ H (cutL ds lo hi) (cutV vs lo hi) := by
  unfold cutL cutV
  rw [← h.length]
  exact DVs.take _ (DVs.drop _ h)
theorem cut_whole {α : Type} {xs : List α} {lo hi : Option Int} (h : HT.sIx xs.length 0 lo = 0 ∧ HT.sIx xs.length xs.length hi = xs.length) : cutL xs lo hi = xs := by
  unfold cutL
  rw [h.1, h.2]
  simp
theorem rp_sl : ∀ x l u H Q, rPS X.K gSl x l u H Q → rSlAny X.K x l u H Q := by
  rintro v lo hi H Q ⟨ρ, S, x, d, r, dx, hg, q⟩
  unfold gSl at hg
  split at hg
  · rename_i z
    rw [dv_str] at dx; subst dx
    by_cases hl : sizeOk z.length
    · rw [if_pos hl] at hg; cases hg
      exact .inl ⟨_, rfl, by rw [sv_len]; exact hl, by rw [cutS_D]; exact post_str r q⟩
    · rw [if_neg hl] at hg; cases hg
  · rename_i xs
    cases hg
    obtain ⟨a, vs, rfl, h1, h2⟩ := tup_ok dx
    refine .inr (.inl ⟨a, vs, rfl, h1, fun w => ?_, fun _ p hp => post_tup r hp (dvs_cut h2) q⟩)
    rw [cut_whole (by rw [h2.length]; exact w)] at q
    exact q ρ H _ r Ext.refl dx
  · cases e : seqF S x with
    | none => rw [e] at hg; cases hg
    | some xs =>
      rw [e] at hg; cases hg
      obtain ⟨a, vs, rfl, h1, h2⟩ := seqF_ok r dx e
      exact .inr (.inr ⟨a, vs, rfl, h1, fun p hp => post_lst r hp (dvs_cut h2) q⟩)
/-- xs[::-1] -/
def gRev (S : Sto) (x : D) : Option D := (seqF S x).map fun xs => .lst xs.reverse
theorem ed_rev {e : Expr} {m : ME} {k : Nat} {p1 p2 p3 : Pos} (h : ED X W e m) : ED X W (.Subscript e (.Slice none none (some (.UnaryOp .USub (.Constant (.int 1) k p1) p2)) p3) pos) (mUn gRev m) := by
  refine ed_of (pe_revL h) fun σ H Q ρ S E r er p => ?_
  refine ⟨ρ, S, E, r, er, (Post.bind (R := DV X.K) p).imp fun x H1 ⟨ρ1, S1, d, r1, e1, d1, p1⟩ => ?_⟩
  obtain ⟨u, hu, q⟩ := post_opt p1
  unfold gRev at hu
  cases e2 : seqF S1 d with
  | none => rw [e2] at hu; cases hu
  | some xs =>
    rw [e2] at hu; cases hu
    obtain ⟨a, vs, rfl, h1, h2⟩ := seqF_ok r1 d1 e2
    exact ⟨a, vs, rfl, h1, fun p hp => post_lst r1 hp h2.reverse q⟩
/-! ### methods of texts -/
noncomputable def mSM (g : Sto → Tx → List D → Option D) (o : ME) (a : MA) : ME := fun E S => (o E S).bind fun x S1 => match x with
  | .str z => (a E S1).bind fun xs S2 => match g S2 z xs with
    | some d => .ok d S2
    | none => .bad
  | _ => .bad
def rPM (K : PySem.W.Frag) (g : Sto → Tx → List D → Option D) : V → List V → Hp → VK → Prop := fun x vs H Q => ∃ ρ S z ds d, x = sv z ∧ Rel K ρ S H ∧ DVs K ρ H ds vs ∧ g S z ds = some d ∧ ∀ ρ' H' v, Rel K ρ' S H' → Ext K ρ H ρ' H' → DV K ρ' H' d v → Q v H'
variable {id : String} {name : Str} {o e : Expr} {es : List Expr} {mo : ME} {ma : MA} {apos : Pos} {r : V → List V → Hp → VK → Prop} {g : Sto → Tx → List D → Option D}
theorem ed_sm0 (slot : Slot "str" name id) (ty : typeOf (.builtin id) = pure (.type "method_descriptor")) (hm : MtR X id r) (hr : ∀ x vs H Q, rPM X.K g x vs H Q → r x vs H Q) (ho : ED X W o mo)
    (hbase : attributeBase o name X.env (eval o X.env) = eval o X.env := by rfl) (hline : (apos.endLine == pos.line) = true := by rfl) : ED X W (.Call (.Attribute o name apos) [] [] pos) (mSM g mo mNil) := by
  refine ed_of (pe_bm0 F.plainAttrs_str slot ty hm ho hbase hline) fun σ H Q ρ S E r0 er p => ?_
  refine ⟨ρ, S, E, r0, er, (Post.bind (R := DV X.K) p).imp fun x H1 ⟨ρ1, S1, d, r1, e1, d1, p1⟩ => ?_⟩
  cases d with
  | str z =>
    rw [dv_str] at d1; subst d1
    refine ⟨rfl, ?_⟩
    obtain ⟨u, hu, q⟩ := post_opt p1
    exact hr _ _ _ _ ⟨ρ1, S1, z, [], u, rfl, r1, by simp [DVs], hu, q⟩
  | _ => exact p1.elim
theorem ed_sm (slot : Slot "str" name id) (ty : typeOf (.builtin id) = pure (.type "method_descriptor")) (hm : MtR X id r) (hr : ∀ x vs H Q, rPM X.K g x vs H Q → r x vs H Q) (ho : ED X W o mo) (ha : AD X W (e :: es) ma)
    (hbase : attributeBase o name X.env (eval o X.env) = eval o X.env := by rfl)
    (hfew : ((backTo pos (starEach (e :: es) X.env)).all (fun x => !x.1) && (backToKw pos (keywordEach [] X.env)).all (fun x => x.1.isSome)
      && decide ((e :: es).length + ([] : List Keyword).length + (if ([] : List Keyword).isEmpty then 0 else 1) < 30)) = true := by rfl)
    (hline : (apos.endLine == pos.line) = true := by rfl) (hs : starEach (e :: es) X.env = (false, eval e X.env) :: starEach es X.env := by rfl) (hplain : (backTo pos (starEach es X.env)).any (·.1) = false := by rfl) :
    ED X W (.Call (.Attribute o name apos) (e :: es) [] pos) (mSM g mo ma) := by
  refine ed_of (pe_bm F.plainAttrs_str slot ty hm ho ha hbase hfew hline hs hplain) fun σ H Q ρ S E r0 er p => ?_
  refine ⟨ρ, S, E, r0, er, (Post.bind (R := DV X.K) p).imp fun x H1 ⟨ρ1, S1, d, r1, e1, d1, p1⟩ => ?_⟩
  cases d with
  | str z =>
    rw [dv_str] at d1; subst d1
    refine ⟨rfl, ρ1, S1, E, r1, er.mono e1, (Post.bind (R := DVs X.K) p1).imp fun vs H2 ⟨ρ2, S2, ds, r2, e2, d2, p2⟩ => ?_⟩
    obtain ⟨u, hu, q⟩ := post_opt p2
    exact hr _ _ _ _ ⟨ρ2, S2, z, ds, u, rfl, r2, d2, hu, q⟩
  | _ => exact p1.elim
/-! texts as codes -/
def gStarts (_ : Sto) (z : Tx) (ds : List D) : Option D := match ds with
  | [.str p] => some (.bl (decide (z.take p.length = p)))
  | _ => none
theorem take_beq {z p : Tx} : (z.take p.length == p) = decide (z.take p.length = p) := by
  rw [Bool.eq_iff_iff]; simp
theorem starts_D (z p : Tx) : Txt.startswith ⟨z.toArray⟩ ⟨p.toArray⟩ = decide (z.take p.length = p) := by
  unfold Txt.startswith
  rw [StrLaws.subAt_eq, sv_len, sv_len]
  show (decide (0 + p.length ≤ z.length) && ((z.drop 0).take p.length == p)) = _
  rw [List.drop_zero, take_beq]
  by_cases h : z.take p.length = p
  · have hl := congrArg List.length h
    rw [List.length_take] at hl
    simp [h]
    omega
  · simp [h]
theorem rp_starts : ∀ x vs H Q, rPM X.K gStarts x vs H Q → (∃ a b, x = .str a ∧ vs = [.str b] ∧ Q (.bl (Txt.startswith a b)) H) := by
  rintro v vs H Q ⟨ρ, S, z, ds, d, rfl, r, dv, hg, q⟩
  unfold gStarts at hg
  split at hg
  · rename_i p
    cases hg
    obtain ⟨u, rfl, h1⟩ := dvs1 dv
    rw [dv_str] at h1; subst h1
    exact ⟨_, _, rfl, rfl, by rw [starts_D]; exact post_bl r q⟩
  · cases hg
def gEnds (_ : Sto) (z : Tx) (ds : List D) : Option D := match ds with
  | [.str p] => some (.bl (decide (p.length ≤ z.length ∧ z.drop (z.length - p.length) = p)))
  | _ => none
theorem ends_D (z p : Tx) : Txt.endswith ⟨z.toArray⟩ ⟨p.toArray⟩ = decide (p.length ≤ z.length ∧ z.drop (z.length - p.length) = p) := by
  unfold Txt.endswith
  rw [StrLaws.subAt_eq, sv_len, sv_len]
  show (decide (0 + p.length ≤ z.length) && ((z.drop (z.length - p.length)).take p.length == p)) = _
  by_cases h : p.length ≤ z.length
  · have e : (z.drop (z.length - p.length)).take p.length = z.drop (z.length - p.length) := List.take_of_length_le (by rw [List.length_drop]; omega)
    rw [e, Bool.eq_iff_iff]
    simp [h]
  · simp [h]
theorem rp_ends : ∀ x vs H Q, rPM X.K gEnds x vs H Q → (∃ a b, x = .str a ∧ vs = [.str b] ∧ Q (.bl (Txt.endswith a b)) H) := by
  rintro v vs H Q ⟨ρ, S, z, ds, d, rfl, r, dv, hg, q⟩
  unfold gEnds at hg
  split at hg
  · rename_i p
    cases hg
    obtain ⟨u, rfl, h1⟩ := dvs1 dv
    rw [dv_str] at h1; subst h1
    exact ⟨_, _, rfl, rfl, by rw [ends_D]; exact post_bl r q⟩
  · cases hg
/-- strings of a row -/
def strL : List D → Option (List Tx)
  | [] => some []
  | .str x :: r => (strL r).map (x :: ·)
  | _ => none
theorem strs_ok {K : PySem.W.Frag} {ρ : List Addr} {H : Hp} : ∀ {ds : List D} {vs : List V} {xs : List Tx}, DVs K ρ H ds vs → strL ds = some xs → vs = (xs.map SX.S).map V.str
  | [], vs, xs, h, e => by simp only [DVs] at h; simp only [strL] at e; cases e; subst h; rfl
  | d :: ds, vs, xs, h, e => by
    simp only [DVs] at h
    obtain ⟨v, rr, rfl, h1, h2⟩ := h
    cases d with
    | str x =>
      simp only [strL, Option.map_eq_some_iff] at e
      obtain ⟨ys, e1, rfl⟩ := e
      rw [dv_str] at h1; subst h1
      rw [strs_ok h2 e1]
      rfl
    | _ => simp only [strL] at e; cases e
@[simp] theorem strs_map (l : List Tx) : strL (l.map D.str) = some l := by
  induction l with
  | nil => rfl
  | cons x l ih => simp only [List.map_cons, strL, ih, Option.map_some]
theorem dvs_strs {K : PySem.W.Frag} {ρ : List Addr} {H : Hp} : ∀ (l : List Tx), DVs K ρ H (l.map D.str) ((l.map SX.S).map V.str)
  | [] => by simp [DVs]
  | x :: l => by
    simp only [List.map_cons, DVs]
    exact ⟨_, _, rfl, dv_str.mpr rfl, dvs_strs l⟩
open Classical in
/-- split by a text of signs below 256 -/
noncomputable def gSplit (_ : Sto) (z : Tx) (ds : List D) : Option D := match ds with
  | [.str p] => if p ≠ [] ∧ p.all (· < 256) = true ∧ sizeOk (z.length + 2) then some (.lst ((TL.spl p 0 [] z).map D.str)) else none
  | _ => none
theorem rp_split : ∀ x vs H Q, rPM X.K gSplit x vs H Q → (∃ a b, x = .str a ∧ vs = [.str b] ∧ (b.length == 0) = false ∧ a.length + 2 ≤ sizeLine ∧ rNewStrs (Txt.split a b) H Q) := by
  rintro v vs H Q ⟨ρ, S, z, ds, d, rfl, r, dv, hg, q⟩
  unfold gSplit at hg
  split at hg
  · rename_i p
    by_cases hl : p ≠ [] ∧ p.all (· < 256) = true ∧ sizeOk (z.length + 2)
    · rw [if_pos hl] at hg; cases hg
      obtain ⟨u, rfl, h1⟩ := dvs1 dv
      rw [dv_str] at h1; subst h1
      refine ⟨_, _, rfl, rfl, ?_, by rw [sv_len]; exact hl.2.2, ?_⟩
      · rw [sv_len]
        cases p with
        | nil => exact absurd rfl hl.1
        | cons a b => rfl
      · rw [SX.split_S hl.1 hl.2.1]
        intro t ht
        exact post_lst r ht (dvs_strs _) q
    · rw [if_neg hl] at hg; cases hg
  · cases hg
/-- join -/
def joinOk (z : Tx) (ys : List Tx) : Prop := (ys.map (·.length)).sum + ys.length * z.length ≤ 16777216
def rowF (S : Sto) : D → Option (List D)
  | .tup xs => some xs
  | d => seqF S d
open Classical in
noncomputable def gJoin (S : Sto) (z : Tx) (ds : List D) : Option D := match ds with
  | [d] => (match (rowF S d).bind strL with
    | some ys => if joinOk z ys then some (.str (TL.joinL z ys)) else none
    | none => none)
  | _ => none
theorem rowF_ok {K : PySem.W.Frag} {ρ : List Addr} {S : Sto} {H : Hp} (r : Rel K ρ S H) {d : D} {v : V} {xs : List D} (h : DV K ρ H d v) (q : rowF S d = some xs) : ∃ a vs, v = .ref a ∧ (SqL K H a vs ∨ SqT K H a vs) ∧ DVs K ρ H xs vs := by
  unfold rowF at q
  split at q
  · cases q
    obtain ⟨a, vs, rfl, h1, h2⟩ := tup_ok h
    exact ⟨a, vs, rfl, .inr h1, h2⟩
  · obtain ⟨a, vs, rfl, h1, h2⟩ := seqF_ok r h q
    exact ⟨a, vs, rfl, .inl h1, h2⟩
theorem rp_join : ∀ x vs H Q, rPM X.K gJoin x vs H Q → (∃ a p, ∃ ys : List Str, x = .str a ∧ vs = [.ref p] ∧ (SqL X.K H p (ys.map V.str) ∨ SqT X.K H p (ys.map V.str)) ∧
      (ys.map (·.length)).sum + ys.length * a.length ≤ 16777216 ∧ Q (.str (Txt.join a ys)) H) := by
  rintro v vs H Q ⟨ρ, S, z, ds, d, rfl, r, dv, hg, q⟩
  unfold gJoin at hg
  split at hg
  · rename_i x
    obtain ⟨u, rfl, h1⟩ := dvs1 dv
    cases e : rowF S x with
    | none => rw [e] at hg; cases hg
    | some xs =>
      rw [e] at hg
      cases e2 : strL xs with
      | none => rw [Option.bind_some, e2] at hg; cases hg
      | some ys =>
        rw [Option.bind_some, e2] at hg
        simp only at hg
        by_cases hl : joinOk z ys
        · rw [if_pos hl] at hg; cases hg
          obtain ⟨a, us, rfl, h2, h3⟩ := rowF_ok r h1 e
          have := strs_ok h3 e2
          subst this
          refine ⟨_, a, ys.map SX.S, rfl, rfl, h2, ?_, ?_⟩
          · rw [SX.lens, List.length_map, sv_len]; exact hl
          · have e4 : Txt.join ⟨z.toArray⟩ (ys.map SX.S) = SX.S (TL.joinL z ys) := SX.join_S z ys
            rw [e4]
            exact post_str r q
        · rw [if_neg hl] at hg; cases hg
  · cases hg
/-- zfill -/
def zfillD (z : Tx) (n : Int) : Tx := if n ≤ z.length then z else match z with
  | 43 :: r => 43 :: (List.replicate (n.toNat - z.length) 48 ++ r)
  | 45 :: r => 45 :: (List.replicate (n.toNat - z.length) 48 ++ r)
  | z => List.replicate (n.toNat - z.length) 48 ++ z
def padOk (i : Int) : Prop := PadOk i = true
open Classical in
noncomputable def gZfill (_ : Sto) (z : Tx) (ds : List D) : Option D := match ds with
  | [.int i] => if padOk i then some (.str (zfillD z i)) else none
  | _ => none
theorem tl_padded (x : Str) (k : Nat) : TL.tl (Builtin.Str.padded x k 0 48) = List.replicate k 48 ++ TL.tl x := by
  have := PyProof.Rows.padded_list x k 0 48
  simp only [List.replicate_zero, List.append_nil] at this
  exact this
theorem zfill_D (z : Tx) (n : Int) : Txt.zfill ⟨z.toArray⟩ n = ⟨(zfillD z n).toArray⟩ := by
  refine TL.ext_tl ?_
  unfold Txt.zfill zfillD
  rw [sv_len]
  by_cases h : n ≤ (z.length : Int)
  · rw [if_pos h, if_pos h]
  · rw [if_neg h, if_neg h]
    unfold zfilled
    have key : ∀ c (r : Tx), z = c :: r → TL.tl (Builtin.Str.strSub (⟨z.toArray⟩ : Str) 0 1 ++ Builtin.Str.padded (Builtin.Str.strSub (⟨z.toArray⟩ : Str) 1 (⟨z.toArray⟩ : Str).length) (n.toNat - z.length) 0 48) = c :: (List.replicate (n.toNat - z.length) 48 ++ r) := fun c r e => by
      subst e
      rw [TL.tl_append, tl_padded, TL.tl_strSub, TL.tl_strSub_end]
      rfl
    cases z with
    | nil => rw [show ((⟨([] : Tx).toArray⟩ : Str).cps[0]?) = none from rfl]; exact tl_padded _ _
    | cons c r =>
      rw [show ((⟨(c :: r).toArray⟩ : Str).cps[0]?) = some c by simp]
      by_cases h1 : c = 43
      · subst h1; exact key 43 r rfl
      · by_cases h2 : c = 45
        · subst h2; exact key 45 r rfl
        · have e1 : (match some c with | some 43 => Builtin.Str.strSub (⟨(c :: r).toArray⟩ : Str) 0 1 ++ Builtin.Str.padded (Builtin.Str.strSub (⟨(c :: r).toArray⟩ : Str) 1 (⟨(c :: r).toArray⟩ : Str).length) (n.toNat - (c :: r).length) 0 48 | some 45 => Builtin.Str.strSub (⟨(c :: r).toArray⟩ : Str) 0 1 ++ Builtin.Str.padded (Builtin.Str.strSub (⟨(c :: r).toArray⟩ : Str) 1 (⟨(c :: r).toArray⟩ : Str).length) (n.toNat - (c :: r).length) 0 48 | _ => Builtin.Str.padded (⟨(c :: r).toArray⟩ : Str) (n.toNat - (c :: r).length) 0 48) = Builtin.Str.padded (⟨(c :: r).toArray⟩ : Str) (n.toNat - (c :: r).length) 0 48 := by
            split
            · rename_i q; cases q; exact absurd rfl h1
            · rename_i q; cases q; exact absurd rfl h2
            · rfl
          refine (congrArg TL.tl e1).trans ?_
          rw [tl_padded]
          split
          · rename_i q; cases q; exact absurd rfl h1
          · rename_i q; cases q; exact absurd rfl h2
          · rfl
theorem rp_zfill : ∀ x vs H Q, rPM X.K gZfill x vs H Q → (∃ (a : Str) (i : Int), x = .str a ∧ vs = [.int i] ∧ PadOk i = true ∧ Q (.str (Txt.zfill a i)) H) := by
  rintro v vs H Q ⟨ρ, S, z, ds, d, rfl, r, dv, hg, q⟩
  unfold gZfill at hg
  split at hg
  · rename_i i
    by_cases hl : padOk i
    · rw [if_pos hl] at hg; cases hg
      have := dvs_int1 dv
      subst this
      exact ⟨_, i, rfl, rfl, hl, by rw [zfill_D]; exact post_str r q⟩
    · rw [if_neg hl] at hg; cases hg
  · cases hg
end
end PD

/-! PyD9: built-ins on texts, in, lists that change. -/
namespace PD
open PySem PySem.Spec PyProof PyProof.Rows L2
section
variable {X : Cx} {W : WW X.K} {pos : Pos}
/-! ### numbers and texts -/
def numT (i : Int) : Tx := if i < 0 then 45 :: TL.numL i.natAbs else TL.numL i.natAbs
theorem num_D (i : Int) : (Str.ofString (toString i)) = (⟨(numT i).toArray⟩ : Str) := by
  refine TL.ext_tl ?_
  unfold numT
  cases i with
  | ofNat n =>
    rw [if_neg (by simp)]
    exact TL.tl_num n
  | negSucc n =>
    rw [if_pos (Int.negSucc_lt_zero n)]
    have e : toString (Int.negSucc n) = "-" ++ toString (n + 1) := rfl
    have e2 := TL.tl_num (n + 1)
    rw [TL.tl_ofString] at e2
    rw [e, TL.tl_ofString, String.toList_append, List.map_append]
    have e3 : (toString ((n + 1 : Nat) : Int)) = toString (n + 1) := rfl
    rw [e3] at e2
    rw [e2]
    rfl
def strOkI (i : Int) : Prop := i.natAbs.log2 < 1920
open Classical in
noncomputable def gStr (_ : Sto) (ds : List D) : Option D := match ds with
  | [.int i] => if strOkI i then some (.str (numT i)) else none
  | _ => none
theorem rp_str : ∀ vs H Q, rPB X.K gStr vs H Q → (∃ i : Int, vs = [.int i] ∧ i.natAbs.log2 < 1920 ∧ Q (.str (toString i)) H) := by
  rintro vs H Q ⟨ρ, S, ds, d, r, dv, hg, q⟩
  unfold gStr at hg
  split at hg
  · rename_i i
    by_cases hl : strOkI i
    · rw [if_pos hl] at hg; cases hg
      have := dvs_int1 dv
      subst this
      refine ⟨i, rfl, hl, ?_⟩
      have e : ((toString i : String) : Str) = (⟨(numT i).toArray⟩ : Str) := num_D i
      rw [e]
      exact post_str r q
    · rw [if_neg hl] at hg; cases hg
  · cases hg
def digT (z : Tx) : Prop := z.all (fun c => decide (48 ≤ c) && decide (c ≤ 57)) = true ∧ z ≠ [] ∧ z.length ≤ 640
open Classical in
/-- int of a number, of a truth, of a text of figures -/
noncomputable def gIntA (S : Sto) (ds : List D) : Option D := match ds with
  | [.str z] => if digT z then some (.int (NumText.digitsVal z : Nat)) else none
  | ds => gInt S ds
def rIntA : List V → Hp → VK → Prop := fun xs H Q => (∃ a n, xs = [V.str a] ∧ PySem.intText? a = some n ∧ a.length ≤ 640 ∧ Q (.int n) H) ∨ rIntD xs H Q
theorem rp_intA : ∀ vs H Q, rPB X.K gIntA vs H Q → rIntA vs H Q := by
  rintro vs H Q ⟨ρ, S, ds, d, r, dv, hg, q⟩
  unfold gIntA at hg
  split at hg
  · rename_i z
    by_cases hl : digT z
    · rw [if_pos hl] at hg; cases hg
      obtain ⟨u, rfl, h1⟩ := dvs1 dv
      rw [dv_str] at h1; subst h1
      refine .inl ⟨_, _, rfl, SX.int_S hl.1 hl.2.1 (Nat.le_trans hl.2.2 (by decide)), by rw [sv_len]; exact hl.2.2, post_int r q⟩
    · rw [if_neg hl] at hg; cases hg
  · exact .inr (rp_int (X := X) _ _ _ ⟨ρ, S, ds, d, r, dv, hg, q⟩)
def gOrd (_ : Sto) (ds : List D) : Option D := match ds with
  | [.str [c]] => some (.int c)
  | _ => none
theorem rp_ord : ∀ vs H Q, rPB X.K gOrd vs H Q → (∃ x, vs = [V.str x] ∧ x.length = 1 ∧ Q (.int (x.cps.getD 0 0 : Nat)) H) := by
  rintro vs H Q ⟨ρ, S, ds, d, r, dv, hg, q⟩
  unfold gOrd at hg
  split at hg
  · rename_i c
    cases hg
    obtain ⟨u, rfl, h1⟩ := dvs1 dv
    rw [dv_str] at h1; subst h1
    exact ⟨_, rfl, rfl, post_int r q⟩
  · cases hg
def gChr (_ : Sto) (ds : List D) : Option D := match ds with
  | [.int i] => if 0 ≤ i ∧ i ≤ 1114111 then some (.str [i.toNat]) else none
  | _ => none
theorem rp_chr : ∀ vs H Q, rPB X.K gChr vs H Q → (∃ i, vs = [V.int i] ∧ 0 ≤ i ∧ i ≤ 1114111 ∧ Q (.str ⟨#[i.toNat]⟩) H) := by
  rintro vs H Q ⟨ρ, S, ds, d, r, dv, hg, q⟩
  unfold gChr at hg
  split at hg
  · rename_i i
    split at hg
    · rename_i h
      cases hg
      have := dvs_int1 dv
      subst this
      exact ⟨i, rfl, h.1, h.2, post_str (i := [i.toNat]) r q⟩
    · cases hg
  · cases hg
/-! ### in -/
def flD : D → Bool
  | .non => true
  | .bl _ => true
  | .int _ => true
  | .str _ => true
  | _ => false
theorem fl_eq {K : PySem.W.Frag} {ρ : List Addr} {H : Hp} {x y : D} {v u : V} (fx : flD x = true) (fy : flD y = true) (dx : DV K ρ H x v) (dy : DV K ρ H y u) : flatV v = true ∧ eqV v u = teq x y := by
  cases x <;> simp only [flD, Bool.false_eq_true] at fx <;> cases y <;> simp only [flD, Bool.false_eq_true] at fy <;>
    simp only [DV] at dx dy <;> subst dx dy <;> refine ⟨rfl, ?_⟩
  all_goals simp only [teq]
  all_goals first | rfl | skip
  all_goals (show (_ == _) = _; first | exact tx_str | (rw [Bool.eq_iff_iff]; simp))
theorem fl_in {K : PySem.W.Frag} {ρ : List Addr} {H : Hp} {x : D} {v : V} (fx : flD x = true) (dx : DV K ρ H x v) : ∀ {ys : List D} {us : List V}, ys.all flD = true → DVs K ρ H ys us → us.all flatV = true ∧ inV v us = ys.any fun y => teq y x
  | [], us, f, h => by simp only [DVs] at h; subst h; exact ⟨rfl, rfl⟩
  | y :: ys, us, f, h => by
    simp only [DVs] at h
    obtain ⟨u, r, rfl, h1, h2⟩ := h
    simp only [List.all_cons, Bool.and_eq_true] at f
    obtain ⟨a, b⟩ := fl_in fx dx f.2 h2
    obtain ⟨c, e⟩ := fl_eq f.1 fx h1 dx
    refine ⟨by simp [c, a], ?_⟩
    unfold inV at b ⊢
    rw [List.any_cons, List.any_cons, e, b]
def inB2 (S : Sto) (x y : D) : Option Bool := match x, y with
  | .str [c], .str z => some (decide (c ∈ z))
  | x, .tup ys => if flD x = true ∧ ys.all flD = true then some (ys.any fun y => teq y x) else none
  | x, y => (match seqF S y with
    | some ys => if flD x = true ∧ ys.all flD = true then some (ys.any fun y => teq y x) else
        if okd (flat S x) 64 = true ∧ okds ys 63 = true then some (ys.any fun y => teq y (flat S x)) else none
    | none => none)
def gIn (S : Sto) (x y : D) : Option D := (inB2 S x y).map D.bl
def gNotIn (S : Sto) (x y : D) : Option D := (inB2 S x y).map fun b => D.bl (!b)
def InOk (K : PySem.W.Frag) (b : Bool) (v u : V) (H : Hp) : Prop := (∃ c z, v = .str ⟨#[c]⟩ ∧ u = .str z ∧ decide (c ∈ z.cps.toList) = b) ∨
  (∃ p xs, u = .ref p ∧ (SqL K H p xs ∨ SqT K H p xs) ∧ flatV v = true ∧ xs.all flatV = true ∧ inV v xs = b) ∨
  (∃ d ds, Dp K H v d ∧ Dp K H u (.list ds) ∧ SeqAt.shaped d = true ∧ SeqAt.shaped (.list ds) = true ∧ (ds.any fun z => PyData.eqv z d) = b)
theorem any_teq : ∀ (ys : List D) (ps : List PyData) (x : D) (p : PyData), toPs ys = some ps → toP x = some p → (ps.any fun z => PyData.eqv z p) = ys.any fun y => teq y x
  | [], ps, x, p, h, g => by simp only [toPs] at h; cases h; rfl
  | y :: ys, ps, x, p, h, g => by
    simp only [toPs] at h
    split at h
    · rename_i a b e1 e2
      cases h
      rw [List.any_cons, List.any_cons, any_teq ys b x p e2 g, eqv_teq y x a p e1 g]
    · cases h
theorem inB2_ok {K : PySem.W.Frag} {ρ : List Addr} {S : Sto} {H : Hp} {x y : D} {v u : V} {b : Bool} (r : Rel K ρ S H) (dx : DV K ρ H x v) (dy : DV K ρ H y u) (h : inB2 S x y = some b) : InOk K b v u H := by
  unfold inB2 at h
  split at h
  · cases h
    rw [dv_str] at dx dy; subst dx dy
    exact .inl ⟨_, _, rfl, rfl, rfl⟩
  · rename_i ys
    split at h
    · rename_i f
      cases h
      obtain ⟨a, us, rfl, h1, h2⟩ := tup_ok dy
      obtain ⟨c, e⟩ := fl_in f.1 dx f.2 h2
      exact .inr (.inl ⟨a, us, rfl, .inr h1, (fl_eq f.1 f.1 dx dx).1, c, e⟩)
    · cases h
  · split at h
    · rename_i ys e
      obtain ⟨a, us, rfl, h1, h2⟩ := seqF_ok r dy e
      split at h
      · rename_i f
        cases h
        obtain ⟨c, e⟩ := fl_in f.1 dx f.2 h2
        exact .inr (.inl ⟨a, us, rfl, .inl h1, (fl_eq f.1 f.1 dx dx).1, c, e⟩)
      · split at h
        · rename_i f
          cases h
          obtain ⟨p, e1, a1, b1⟩ := okd_toP _ _ f.1
          obtain ⟨ps, e2, a2, b2⟩ := okds_toP _ _ f.2
          refine .inr (.inr ⟨p, ps, toPS_ok r dx (by rw [toPS_flat S _ f.1]; exact e1), .lst h1 (toPs_ok ys us ps h2 e2), by simp [SeqAt.shaped, a1, b1], by simp [SeqAt.shaped, PyData.canLay0, PyData.depth, a2]; omega, any_teq _ _ _ _ e2 e1⟩)
        · cases h
    · cases h
def rInA (K : PySem.W.Frag) : R2 := fun x y H Q => (∃ (c : Nat) (z : Str), x = .str ⟨#[c]⟩ ∧ y = .str z ∧ Q (.bl (decide (c ∈ z.cps.toList))) H) ∨ rIn K false x y H Q ∨ rInD K x y H Q
def rNotInA (K : PySem.W.Frag) : R2 := fun x y H Q => (∃ (c : Nat) (z : Str), x = .str ⟨#[c]⟩ ∧ y = .str z ∧ Q (.bl (!decide (c ∈ z.cps.toList))) H) ∨ rIn K true x y H Q ∨ rNotInD K x y H Q
theorem op_inA (hu : X.A.units + 65 < cLine) : OpR X (compareOp .In) (rInA X.K) := op_in_sign.or (op_in_seq.or (op_inD hu))
theorem op_notInA (hu : X.A.units + 65 < cLine) : OpR X (compareOp .NotIn) (rNotInA X.K) := op_notIn_sign.or (op_notIn_seq.or (op_notInD hu))
theorem rp_in : ∀ x y H Q, rP X.K gIn x y H Q → rInA X.K x y H Q := by
  rintro v u H Q ⟨ρ, S, x, y, d, r, dx, dy, hg, q⟩
  unfold gIn at hg
  simp only [Option.map_eq_some_iff] at hg
  obtain ⟨b, hb, rfl⟩ := hg
  rcases inB2_ok r dx dy hb with ⟨c, z, rfl, rfl, e⟩ | ⟨p, xs, rfl, h1, h2, h3, e⟩ | ⟨d1, ds, h1, h2, h3, h4, e⟩
  · exact .inl ⟨c, z, rfl, rfl, by rw [e]; exact post_bl r q⟩
  · exact .inr (.inl ⟨p, xs, rfl, h1, h2, h3, by rw [if_neg (by decide), e]; exact post_bl r q⟩)
  · exact .inr (.inr ⟨d1, ds, h1, h2, h3, h4, by rw [e]; exact post_bl r q⟩)
theorem rp_notIn : ∀ x y H Q, rP X.K gNotIn x y H Q → rNotInA X.K x y H Q := by
  rintro v u H Q ⟨ρ, S, x, y, d, r, dx, dy, hg, q⟩
  unfold gNotIn at hg
  simp only [Option.map_eq_some_iff] at hg
  obtain ⟨b, hb, rfl⟩ := hg
  rcases inB2_ok r dx dy hb with ⟨c, z, rfl, rfl, e⟩ | ⟨p, xs, rfl, h1, h2, h3, e⟩ | ⟨d1, ds, h1, h2, h3, h4, e⟩
  · exact .inl ⟨c, z, rfl, rfl, by rw [e]; exact post_bl r q⟩
  · exact .inr (.inl ⟨p, xs, rfl, h1, h2, h3, by rw [if_pos rfl, e]; exact post_bl r q⟩)
  · exact .inr (.inr ⟨d1, ds, h1, h2, h3, h4, by rw [e]; exact post_bl r q⟩)
/-! ### walks over anything -/
def iAny (a : ME) : MI := fun E S => (a E S).bind fun d S1 => match d with
  | .str z => .ok ⟨z.map fun c => .str [c], none⟩ S1
  | d => iSeq (mC d) E S1
theorem walks_str {ρ : List Addr} {H : Hp} {z : Tx} : Walks X.K ρ H ⟨z.map fun c => .str [c], none⟩ (Its ⟨z.toArray⟩) := by
  intro ρ1 S H1 r e c
  refine ⟨fun i d hd => ?_, by simp [Its]⟩
  rw [List.getElem?_map, Option.map_eq_some_iff] at hd
  obtain ⟨k, hk, rfl⟩ := hd
  have hi := (List.getElem?_eq_some_iff.mp hk).1
  refine ⟨by simpa [Its] using hi, fun x H' hy => ?_⟩
  obtain ⟨rfl, c, hc, rfl⟩ := hy
  simp only [List.getElem?_toArray, hk, Option.some.injEq] at hc
  subst hc
  exact ⟨r, Ext.refl, by simp [DV, sv]⟩
theorem id_any {tg e : Expr} {m : ME} (h : ED X W e m) : ID X W tg e (iAny m) := by
  refine PI.impI (PI.or (pi_str h) (PI.or (pi_tup h) (pi_list h))) fun σ H R ρ S E r er p => ?_
  unfold iAny at p
  cases q : m E S with
  | bad => rw [q] at p; exact p.elim
  | ex e S1 => rw [q] at p; exact .inl ⟨ρ, S, E, r, er, by rw [q]; exact p⟩
  | ok d S1 =>
    rw [q, bind_ok] at p
    cases d with
    | str z =>
      refine .inl ⟨ρ, S, E, r, er, ?_⟩
      rw [q]
      intro ρ1 H1 v r1 e1 dv
      rw [dv_str] at dv; subst dv
      exact ⟨_, rfl, p ρ1 H1 _ r1 e1 walks_str⟩
    | tup xs =>
      refine .inr (.inl ⟨ρ, S, E, r, er, ?_⟩)
      rw [q]
      intro ρ1 H1 v r1 e1 dv
      simp only [DV] at dv
      obtain ⟨a, vs, rfl, h1, h2⟩ := dv
      exact ⟨a, rfl, ⟨vs, h1⟩, p ρ1 H1 _ r1 e1 (walks_tup h1 h2)⟩
    | lst xs =>
      refine .inr (.inr ⟨ρ, S, E, r, er, ?_⟩)
      rw [q]
      intro ρ1 H1 v r1 e1 dv
      simp only [DV] at dv
      obtain ⟨a, vs, rfl, h1, h2⟩ := dv
      exact ⟨a, rfl, ⟨vs, h1.seq⟩, p ρ1 H1 _ r1 e1 (walks_lst h1 h2)⟩
    | fz xs =>
      refine .inr (.inr ⟨ρ, S, E, r, er, ?_⟩)
      rw [q]
      intro ρ1 H1 v r1 e1 dv
      simp only [DV] at dv
      obtain ⟨a, vs, rfl, h1, h2⟩ := dv
      exact ⟨a, rfl, ⟨vs, h1.seq⟩, p ρ1 H1 _ r1 e1 (walks_fz h1 h2)⟩
    | loc n =>
      simp only [iSeq, mC, bind_ok] at p
      cases e : S1[n]? with
      | none => rw [e] at p; exact p.elim
      | some o =>
        cases o with
        | lst xs =>
          rw [e] at p
          refine .inr (.inr ⟨ρ, S, E, r, er, ?_⟩)
          rw [q]
          intro ρ1 H1 v r1 e1 dv
          simp only [DV] at dv
          obtain ⟨a, rfl, ha⟩ := dv
          obtain ⟨vs, h1, d1⟩ := r1.lst e ha
          exact ⟨a, rfl, ⟨vs, SqL.of h1⟩, p ρ1 H1 _ r1 e1 (walks_loc ha)⟩
        | _ => rw [e] at p; exact p.elim
    | _ => exact p.elim
/-! ### all, any -/
def bools : List D → Option (List Bool)
  | [] => some []
  | .bl x :: r => (bools r).map (x :: ·)
  | _ => none
theorem bools_ok {K : PySem.W.Frag} {ρ : List Addr} {H : Hp} : ∀ {ds : List D} {vs : List V} {xs : List Bool}, DVs K ρ H ds vs → bools ds = some xs → vs = xs.map V.bl
  | [], vs, xs, h, e => by simp only [DVs] at h; simp only [bools] at e; cases e; subst h; rfl
  | d :: ds, vs, xs, h, e => by
    simp only [DVs] at h
    obtain ⟨v, rr, rfl, h1, h2⟩ := h
    cases d with
    | bl x =>
      simp only [bools, Option.map_eq_some_iff] at e
      obtain ⟨ys, e1, rfl⟩ := e
      rw [dv_bl] at h1; subst h1
      rw [bools_ok h2 e1]
      rfl
    | _ => simp only [bools] at e; cases e
@[simp] theorem bools_map (l : List Bool) : bools (l.map D.bl) = some l := by
  induction l with
  | nil => rfl
  | cons x l ih => simp only [List.map_cons, bools, ih, Option.map_some]
def gAll (S : Sto) (ds : List D) : Option D := match ds with
  | [d] => ((seqF S d).bind bools).map fun bs => .bl (bs.all id)
  | _ => none
def gAny (S : Sto) (ds : List D) : Option D := match ds with
  | [d] => ((seqF S d).bind bools).map fun bs => .bl (bs.any id)
  | _ => none
theorem rp_all : ∀ vs H Q, rPB X.K gAll vs H Q → rAll X.K vs H Q := by
  rintro vs H Q ⟨ρ, S, ds, d, r, dv, hg, q⟩
  unfold gAll at hg
  split at hg
  · rename_i x
    simp only [Option.map_eq_some_iff, Option.bind_eq_some_iff] at hg
    obtain ⟨bs, ⟨xs, e1, e2⟩, rfl⟩ := hg
    obtain ⟨u, rfl, h1⟩ := dvs1 dv
    obtain ⟨a, us, rfl, h2, h3⟩ := seqF_ok r h1 e1
    have := bools_ok h3 e2
    subst this
    exact ⟨a, bs, rfl, h2, post_bl r q⟩
  · cases hg
theorem rp_any : ∀ vs H Q, rPB X.K gAny vs H Q → rAny X.K vs H Q := by
  rintro vs H Q ⟨ρ, S, ds, d, r, dv, hg, q⟩
  unfold gAny at hg
  split at hg
  · rename_i x
    simp only [Option.map_eq_some_iff, Option.bind_eq_some_iff] at hg
    obtain ⟨bs, ⟨xs, e1, e2⟩, rfl⟩ := hg
    obtain ⟨u, rfl, h1⟩ := dvs1 dv
    obtain ⟨a, us, rfl, h2, h3⟩ := seqF_ok r h1 e1
    have := bools_ok h3 e2
    subst this
    exact ⟨a, bs, rfl, h2, post_bl r q⟩
  · cases hg
/-! ### texts and lists many times -/
def repOk (n : Nat) (k : Int) : Prop := -(2 ^ 62) ≤ k ∧ k < 2 ^ 62 ∧ n * k.toNat ≤ 16777216
open Classical in
noncomputable def gMulA (S : Sto) (x y : D) : Option D := match x, y with
  | .str z, .int k => if repOk z.length k then some (.str (List.replicate k.toNat z).flatten) else none
  | .int _, _ => gMul S x y
  | x, .int k => (match seqL S x with
    | some xs => if repOk xs.length k then some (.lst (List.replicate k.toNat xs).flatten) else none
    | none => none)
  | _, _ => none
theorem foldl_repN (its : List Nat) : ∀ (k : Nat) (acc : List Nat), List.foldl (fun x1 x2 => x1 ++ x2) acc.toArray (List.replicate k its.toArray) = (acc ++ (List.replicate k its).flatten).toArray
  | 0, acc => by simp
  | k + 1, acc => by
    rw [List.replicate_succ, List.foldl_cons, List.append_toArray, foldl_repN its k (acc ++ its), List.replicate_succ, List.flatten_cons, List.append_assoc]
theorem mul_D {z : Tx} {k : Int} (h : repOk z.length k) : Txt.mul ⟨z.toArray⟩ k = ⟨((List.replicate k.toNat z).flatten).toArray⟩ := by
  unfold Txt.mul
  rw [sv_len]
  by_cases h1 : k < 1
  · rw [if_pos h1]
    have : k.toNat = 0 := by omega
    rw [this]
    rfl
  · rw [if_neg h1]
    by_cases h2 : (k == 1 || z.length == 0) = true
    · rw [if_pos h2]
      simp only [Bool.or_eq_true, beq_iff_eq] at h2
      rcases h2 with h2 | h2
      · subst h2; simp
      · have : z = [] := List.length_eq_zero_iff.mp h2
        subst this
        simp
    · rw [if_neg h2]
      have := foldl_repN z k.toNat []
      rw [List.nil_append] at this
      exact congrArg Str.mk this
theorem mul_ok {z : Tx} {k : Int} (h : repOk z.length k) : MulOk ⟨z.toArray⟩ k := by
  obtain ⟨h0, h1, h2⟩ := h
  refine ⟨?_, fun h3 h4 => ?_, fun _ _ => ?_⟩
  · rw [decide_eq_false (by omega), decide_eq_false (by omega)]; rfl
  · rw [sv_len]
    intro h5
    have hk : 0 < k := by omega
    have e1 : (2 ^ 63 - 1 : Int) < (z.length : Int) * k := by
      have := (Int.ediv_lt_iff_lt_mul hk).mp h5
      exact this
    have e2 : ((z.length * k.toNat : Nat) : Int) = (z.length : Int) * k := by rw [Int.natCast_mul, Int.toNat_of_nonneg (by omega)]
    omega
  · rw [sv_len]
    unfold Builtin.Str.tooLong
    rw [sizeLine_eq]
    exact decide_eq_false (by omega)
def rMulA (X : Cx) : R2 := fun x y H Q => rMulD x y H Q ∨ (∃ (z : Str) (k : Int), x = .str z ∧ y = .int k ∧ MulOk z k ∧ Q (.str (Txt.mul z k)) H) ∨ rRep x y H Q
theorem op_mul_str : OpR X (binaryOp .Mult) (fun x y H Q => ∃ (z : Str) (k : Int), x = .str z ∧ y = .int k ∧ MulOk z k ∧ Q (.str (Txt.mul z k)) H) := by
  intro pins s σ H x y v u Q I rx ry h
  obtain ⟨z, k, rfl, rfl, hk, q⟩ := h
  obtain ⟨t, rfl⟩ := rx
  obtain ⟨t', rfl⟩ := ry
  exact SB.mul hk fun t2 k2 => ⟨.str _, H, I.tok _, ⟨_, rfl⟩, q⟩
theorem op_mulA : OpR X (binaryOp .Mult) (rMulA X) := op_mulD.or (op_mul_str.or op_rep)
theorem dvs_rep {K : PySem.W.Frag} {ρ : List Addr} {H : Hp} {ds : List D} {vs : List V} (h : DVs K ρ H ds vs) : ∀ k : Nat, DVs K ρ H (List.replicate k ds).flatten (List.replicate k vs).flatten
  | 0 => by simp [DVs]
  | k + 1 => by
    simp only [List.replicate_succ, List.flatten_cons]
    exact h.append (dvs_rep h k)
theorem rp_mulA : ∀ x y H Q, rP X.K gMulA x y H Q → rMulA X x y H Q := by
  rintro v u H Q ⟨ρ, S, x, y, d, r, dx, dy, hg, q⟩
  unfold gMulA at hg
  split at hg
  · rename_i z k
    rw [dv_str] at dx; rw [dv_int] at dy; subst dx dy
    by_cases hl : repOk z.length k
    · rw [if_pos hl] at hg; cases hg
      exact .inr (.inl ⟨_, k, rfl, rfl, mul_ok hl, by rw [mul_D hl]; exact post_str r q⟩)
    · rw [if_neg hl] at hg; cases hg
  · exact .inl (rp_mul (X := X) _ _ _ _ ⟨ρ, S, _, _, d, r, dx, dy, hg, q⟩)
  · rename_i k _ _
    rw [dv_int] at dy; subst dy
    cases e : seqL S x with
    | none => rw [e] at hg; cases hg
    | some xs =>
      rw [e] at hg
      simp only at hg
      by_cases hl : repOk xs.length k
      · rw [if_pos hl] at hg; cases hg
        obtain ⟨a, vs, rfl, h1, h2⟩ := seqL_ok r dx e
        obtain ⟨a0, a1, a2⟩ := hl
        exact .inr (.inr ⟨a, k, vs, rfl, rfl, h1, by omega, by omega, by rw [← h2.length, sizeLine_eq]; omega, fun p hp => post_lst r hp (dvs_rep h2 _) q⟩)
      · rw [if_neg hl] at hg; cases hg
  · cases hg
end
end PD

/-! PyE0: lists that change; comprehensions; what a def leaves behind is dropped. -/
namespace PD
open PySem PySem.Spec PyProof PyProof.Rows L2
section
variable {X : Cx} {W : WW X.K} {pos : Pos}
/-! ### a list of the store gets other items -/
theorem Ext.write {K : PySem.W.Frag} {ρ : List Addr} {H : Hp} {a : Addr} {vs us : List V} (ha : a ∈ ρ) (h : H a = some (.lst vs)) : Ext K ρ H ρ (upd H a (.lst us)) := by
  refine ⟨⟨[], by simp⟩, fun b ws hb => ?_, fun b ws hb hw => ⟨hb, ?_⟩, fun b o ws hb => ?_, fun b fs hb => ?_⟩
  · refine hb.imp (fun hb => Rd.upd (fun z => ?_) hb) id
    subst z
    rcases hb with hb | ⟨o, hb⟩ <;> rw [h] at hb <;> cases hb
  · rw [upd_ne (fun z => by subst z; exact hb ha)]; exact hw
  · rw [upd_ne (fun z => by subst z; rw [h] at hb; cases hb)]; exact hb
  · rw [upd_ne (fun z => by subst z; rw [h] at hb; cases hb)]; exact hb
theorem nodup_at {ρ : List Addr} (hn : ρ.Nodup) {i j : Nat} {a : Addr} (hi : ρ[i]? = some a) (hj : ρ[j]? = some a) : i = j := by
  obtain ⟨h1, e1⟩ := List.getElem?_eq_some_iff.mp hi
  obtain ⟨h2, e2⟩ := List.getElem?_eq_some_iff.mp hj
  have hp := List.pairwise_iff_getElem.mp hn
  rcases Nat.lt_trichotomy i j with h | h | h
  · exact absurd (e1.trans e2.symm) (hp i j h1 h2 h)
  · exact h
  · exact absurd (e2.trans e1.symm) (hp j i h2 h1 h)
theorem Rel.write {K : PySem.W.Frag} {ρ : List Addr} {S : Sto} {H : Hp} (r : Rel K ρ S H) {n : Nat} {a : Addr} {xs ys : List D} {vs us : List V} (ha : ρ[n]? = some a) (hs : S[n]? = some (.lst xs)) (h : H a = some (.lst vs)) (d : DVs K ρ H ys us) :
    Rel K ρ (S.set n (.lst ys)) (upd H a (.lst us)) := by
  have e := Ext.write (K := K) (us := us) (List.mem_of_getElem? ha) h
  refine ⟨by simpa using r.len, r.nd, fun m o b h1 h2 => ?_⟩
  by_cases hm : n = m
  · subst hm
    rw [ha] at h2; cases h2
    have hl := (List.getElem?_eq_some_iff.mp hs).1
    rw [List.getElem?_set_self hl] at h1
    cases h1
    exact ⟨us, upd_same, DVs.mono e _ _ d⟩
  · rw [List.getElem?_set_ne hm] at h1
    have hb : b ≠ a := fun z => by subst z; exact hm (nodup_at r.nd ha h2)
    exact (r.at_ m o b h1 h2).mono e fun u hu => by rw [upd_ne hb]; exact hu
abbrev GL := Sto → List D → List D → Option (D × List D)
noncomputable def mLM (g : GL) (o : ME) (a : MA) : ME := fun E S => (o E S).bind fun x S1 => match x with
  | .loc n => (match S1[n]? with
    | some (.lst _) => (a E S1).bind fun xs S2 => (match S2[n]? with
      | some (.lst l) => (match g S2 l xs with
        | some (d, l2) => .ok d (S2.set n (.lst l2))
        | none => .bad)
      | _ => .bad)
    | _ => .bad)
  | _ => .bad
/-- a changing method by plain data -/
def rPL (K : PySem.W.Frag) (g : GL) : V → List V → Hp → VK → Prop := fun x vs H Q => ∃ ρ S n a l us ds d l2, x = .ref a ∧ Rel K ρ S H ∧ ρ[n]? = some a ∧ S[n]? = some (.lst l) ∧ H a = some (.lst us) ∧ DVs K ρ H l us ∧ DVs K ρ H ds vs ∧ g S l ds = some (d, l2) ∧
  ∀ ρ' H' v, Rel K ρ' (S.set n (.lst l2)) H' → Ext K ρ H ρ' H' → DV K ρ' H' d v → Q v H'
variable {id : String} {name : Str} {o e : Expr} {es : List Expr} {mo : ME} {ma : MA} {apos : Pos} {r : V → List V → Hp → VK → Prop} {g : GL}
theorem lm_read {n : Nat} {v : V} {ρ1 : List Addr} {S1 : Sto} {H1 : Hp} (r1 : Rel X.K ρ1 S1 H1) {xs : List D} (hs : S1[n]? = some (.lst xs)) (dv : DV X.K ρ1 H1 (.loc n) v) : ∃ a, v = .ref a ∧ ρ1[n]? = some a ∧ tyV X.K "list" v H1 := by
  simp only [DV] at dv
  obtain ⟨a, rfl, ha⟩ := dv
  obtain ⟨us, h1, d1⟩ := r1.lst hs ha
  exact ⟨a, rfl, ha, .inl ⟨rfl, us, SqL.of h1⟩⟩
theorem ed_lm0 (slot : Slot "list" name id) (ty : typeOf (.builtin id) = pure (.type "method_descriptor")) (hm : MtM X id r) (hr : ∀ x vs H Q, rPL X.K g x vs H Q → r x vs H Q) (ho : ED X W o mo)
    (hbase : attributeBase o name X.env (eval o X.env) = eval o X.env := by rfl) (hline : (apos.endLine == pos.line) = true := by rfl) : ED X W (.Call (.Attribute o name apos) [] [] pos) (mLM g mo mNil) := by
  refine ed_of (pe_bm0 (T := "list") (PySem.F.plainAttrs_list) slot ty hm ho hbase hline) fun σ H Q ρ S E r0 er p => ?_
  refine ⟨ρ, S, E, r0, er, (Post.bind (R := DV X.K) p).imp fun x H1 ⟨ρ1, S1, d, r1, e1, d1, p1⟩ => ?_⟩
  cases d with
  | loc n =>
    cases hs : S1[n]? with
    | none => simp only [hs] at p1; exact p1.elim
    | some ob =>
      cases ob with
      | lst xs =>
        obtain ⟨a, rfl, ha, ty⟩ := lm_read r1 hs d1
        refine ⟨ty, ?_⟩
        simp only [hs, mNil, bind_ok] at p1
        cases hg : g S1 xs [] with
        | none => rw [hg] at p1; exact p1.elim
        | some dl =>
          obtain ⟨d, l2⟩ := dl
          rw [hg] at p1
          obtain ⟨us, h1, d2⟩ := r1.lst hs ha
          exact hr _ _ _ _ ⟨ρ1, S1, n, a, xs, us, [], d, l2, rfl, r1, ha, hs, h1, d2, by simp [DVs], hg, p1⟩
      | _ => simp only [hs] at p1; exact p1.elim
  | _ => exact p1.elim
theorem ed_lm (slot : Slot "list" name id) (ty : typeOf (.builtin id) = pure (.type "method_descriptor")) (hm : MtM X id r) (hr : ∀ x vs H Q, rPL X.K g x vs H Q → r x vs H Q) (ho : ED X W o mo) (ha : AD X W (e :: es) ma)
    (hbase : attributeBase o name X.env (eval o X.env) = eval o X.env := by rfl)
    (hfew : ((backTo pos (starEach (e :: es) X.env)).all (fun x => !x.1) && (backToKw pos (keywordEach [] X.env)).all (fun x => x.1.isSome)
      && decide ((e :: es).length + ([] : List Keyword).length + (if ([] : List Keyword).isEmpty then 0 else 1) < 30)) = true := by rfl)
    (hline : (apos.endLine == pos.line) = true := by rfl) (hs : starEach (e :: es) X.env = (false, eval e X.env) :: starEach es X.env := by rfl) (hplain : (backTo pos (starEach es X.env)).any (·.1) = false := by rfl) :
    ED X W (.Call (.Attribute o name apos) (e :: es) [] pos) (mLM g mo ma) := by
  refine ed_of (pe_bm (T := "list") (PySem.F.plainAttrs_list) slot ty hm ho ha hbase hfew hline hs hplain) fun σ H Q ρ S E r0 er p => ?_
  refine ⟨ρ, S, E, r0, er, (Post.bind (R := DV X.K) p).imp fun x H1 ⟨ρ1, S1, d, r1, e1, d1, p1⟩ => ?_⟩
  cases d with
  | loc n =>
    cases hs : S1[n]? with
    | none => simp only [hs] at p1; exact p1.elim
    | some ob =>
      cases ob with
      | lst xs =>
        obtain ⟨a, rfl, hra, ty⟩ := lm_read r1 hs d1
        simp only [hs] at p1
        refine ⟨ty, ρ1, S1, E, r1, er.mono e1, (Post.bind (R := DVs X.K) p1).imp fun vs H2 ⟨ρ2, S2, ds, r2, e2, d2, p2⟩ => ?_⟩
        have ha2 : ρ2[n]? = some a := by
          obtain ⟨t, rfl⟩ := e2.pre
          rw [List.getElem?_append_left (List.getElem?_eq_some_iff.mp hra).1]; exact hra
        cases hs2 : S2[n]? with
        | none => simp only [hs2] at p2; exact p2.elim
        | some ob =>
          cases ob with
          | lst ys =>
            simp only [hs2] at p2
            cases hg : g S2 ys ds with
            | none => rw [hg] at p2; exact p2.elim
            | some dl =>
              obtain ⟨d, l2⟩ := dl
              rw [hg] at p2
              obtain ⟨us, h1, d3⟩ := r2.lst hs2 ha2
              exact hr _ _ _ _ ⟨ρ2, S2, n, a, ys, us, ds, d, l2, rfl, r2, ha2, hs2, h1, d3, d2, hg, p2⟩
          | _ => simp only [hs2] at p2; exact p2.elim
      | _ => simp only [hs] at p1; exact p1.elim
  | _ => exact p1.elim
/-! the methods -/
open Classical in
noncomputable def gAppend : GL := fun _ l ds => match ds with
  | [d] => if sizeOk (l.length + 1) then some (.non, l ++ [d]) else none
  | _ => none
theorem post_write {K : PySem.W.Frag} {ρ : List Addr} {S : Sto} {H : Hp} {Q : VK} {n : Nat} {a : Addr} {l l2 : List D} {us u2 : List V} {d : D} {v : V} (r : Rel K ρ S H) (ha : ρ[n]? = some a) (hs : S[n]? = some (.lst l)) (h1 : H a = some (.lst us)) (d2 : DVs K ρ H l2 u2) (dv : DV K ρ H d v)
    (q : ∀ ρ' H' v, Rel K ρ' (S.set n (.lst l2)) H' → Ext K ρ H ρ' H' → DV K ρ' H' d v → Q v H') : Q v (upd H a (.lst u2)) :=
  q ρ _ _ (r.write ha hs h1 d2) (Ext.write (List.mem_of_getElem? ha) h1) (DV.mono (Ext.write (List.mem_of_getElem? ha) h1) _ _ dv)
theorem rp_append : ∀ x vs H Q, rPL X.K gAppend x vs H Q → rAppend x vs H Q := by
  rintro x vs H Q ⟨ρ, S, n, a, l, us, ds, d, l2, rfl, r, ha, hs, h1, dl, dv, hg, q⟩
  unfold gAppend at hg
  split at hg
  · rename_i y
    by_cases hl : sizeOk (l.length + 1)
    · rw [if_pos hl] at hg; cases hg
      obtain ⟨w, rfl, h2⟩ := dvs1 dv
      exact ⟨a, us, w, rfl, rfl, h1, by rw [← dl.length]; exact hl, post_write r ha hs h1 (dl.append (DVs.one h2)) (dv_non.mpr rfl) q⟩
    · rw [if_neg hl] at hg; cases hg
  · cases hg
def gPop : GL := fun _ l ds => match ds with
  | [] => l[l.length - 1]?.map fun d => (d, l.dropLast)
  | _ => none
theorem dvs_dropLast {K : PySem.W.Frag} {ρ : List Addr} {H : Hp} {ds : List D} {vs : List V} (h : DVs K ρ H ds vs) : DVs K ρ H ds.dropLast vs.dropLast := by
  rw [List.dropLast_eq_take, List.dropLast_eq_take, h.length]
  exact h.take _
theorem rp_pop : ∀ x vs H Q, rPL X.K gPop x vs H Q → rPop x vs H Q := by
  rintro x vs H Q ⟨ρ, S, n, a, l, us, ds, d, l2, rfl, r, ha, hs, h1, dl, dv, hg, q⟩
  unfold gPop at hg
  split at hg
  · rw [Option.map_eq_some_iff] at hg
    obtain ⟨y, hy, e⟩ := hg
    cases e
    simp only [DVs] at dv
    subst dv
    obtain ⟨w, h2, h3⟩ := dl.get hy
    exact ⟨a, us, w, rfl, rfl, h1, by rw [← dl.length]; exact h2, post_write r ha hs h1 (dvs_dropLast dl) h3 q⟩
  · cases hg
open Classical in
noncomputable def gExtend : GL := fun S l ds => match ds with
  | [d] => (match seqL S d with
    | some ys => if sizeOk (l.length + ys.length) then some (.non, l ++ ys) else none
    | none => none)
  | _ => none
theorem rp_extend : ∀ x vs H Q, rPL X.K gExtend x vs H Q → rExtend x vs H Q := by
  rintro x vs H Q ⟨ρ, S, n, a, l, us, ds, d, l2, rfl, r, ha, hs, h1, dl, dv, hg, q⟩
  unfold gExtend at hg
  split at hg
  · rename_i y
    cases e : seqL S y with
    | none => rw [e] at hg; cases hg
    | some ys =>
      rw [e] at hg
      simp only at hg
      by_cases hl : sizeOk (l.length + ys.length)
      · rw [if_pos hl] at hg; cases hg
        obtain ⟨w, rfl, h2⟩ := dvs1 dv
        obtain ⟨b, ws, rfl, h3, h4⟩ := seqL_ok r h2 e
        exact ⟨a, b, us, ws, rfl, rfl, h1, h3, by rw [← dl.length, ← h4.length]; exact hl, post_write r ha hs h1 (dl.append h4) (dv_non.mpr rfl) q⟩
      · rw [if_neg hl] at hg; cases hg
  · cases hg

/-! ### what a def leaves behind is dropped -/
mutual
def lb (n : Nat) : D → Bool
  | .tup xs => lbs n xs
  | .lst xs => lbs n xs
  | .fz xs => lbs n xs
  | .loc k => decide (k < n)
  | .non => true
  | .bl _ => true
  | .int _ => true
  | .str _ => true
  | .ty _ => true
  | .glo _ => true
  | .exo => true
def lbs (n : Nat) : List D → Bool
  | [] => true
  | x :: xs => lb n x && lbs n xs
end
mutual
theorem DV.lb {K : PySem.W.Frag} {ρ : List Addr} {H : Hp} : ∀ (d : D) (v : V), DV K ρ H d v → lb ρ.length d = true
  | .non, v, h => by simp [PD.lb]
  | .bl _, v, h => by simp [PD.lb]
  | .int _, v, h => by simp [PD.lb]
  | .str _, v, h => by simp [PD.lb]
  | .ty _, v, h => by simp [PD.lb]
  | .glo _, v, h => by simp [PD.lb]
  | .exo, v, h => by simp [PD.lb]
  | .tup xs, v, h => by simp only [DV] at h; obtain ⟨a, vs, rfl, h1, h2⟩ := h; simp only [PD.lb]; exact DVs.lbs xs vs h2
  | .lst xs, v, h => by simp only [DV] at h; obtain ⟨a, vs, rfl, h1, h2⟩ := h; simp only [PD.lb]; exact DVs.lbs xs vs h2
  | .fz xs, v, h => by simp only [DV] at h; obtain ⟨a, vs, rfl, h1, h2⟩ := h; simp only [PD.lb]; exact DVs.lbs xs vs h2
  | .loc n, v, h => by simp only [DV] at h; obtain ⟨a, rfl, h1⟩ := h; simp only [PD.lb, decide_eq_true_eq]; exact (List.getElem?_eq_some_iff.mp h1).1
theorem DVs.lbs {K : PySem.W.Frag} {ρ : List Addr} {H : Hp} : ∀ (ds : List D) (vs : List V), DVs K ρ H ds vs → lbs ρ.length ds = true
  | [], vs, h => by simp [PD.lbs]
  | x :: xs, vs, h => by
    simp only [DVs] at h
    obtain ⟨v, r, rfl, h1, h2⟩ := h
    simp only [PD.lbs, Bool.and_eq_true]
    exact ⟨DV.lb x v h1, DVs.lbs xs r h2⟩
end
mutual
theorem DV.shrink {K : PySem.W.Frag} {ρ t : List Addr} {H : Hp} : ∀ (d : D) (v : V), DV K (ρ ++ t) H d v → lb ρ.length d = true → DV K ρ H d v
  | .non, v, h, _ => by simp only [DV] at h ⊢; exact h
  | .bl _, v, h, _ => by simp only [DV] at h ⊢; exact h
  | .int _, v, h, _ => by simp only [DV] at h ⊢; exact h
  | .str _, v, h, _ => by simp only [DV] at h ⊢; exact h
  | .ty _, v, h, _ => by simp only [DV] at h ⊢; exact h
  | .glo _, v, h, _ => by simp only [DV] at h ⊢; exact h
  | .exo, v, h, _ => by simp only [DV] at h ⊢; exact h
  | .tup xs, v, h, b => by simp only [DV] at h ⊢; simp only [PD.lb] at b; obtain ⟨a, vs, rfl, h1, h2⟩ := h; exact ⟨a, vs, rfl, h1, DVs.shrink xs vs h2 b⟩
  | .lst xs, v, h, b => by
    simp only [DV] at h ⊢; simp only [PD.lb] at b; obtain ⟨a, vs, rfl, h1, h2⟩ := h
    exact ⟨a, vs, rfl, ⟨fun z => h1.1 (List.mem_append_left _ z), h1.2⟩, DVs.shrink xs vs h2 b⟩
  | .fz xs, v, h, b => by simp only [DV] at h ⊢; simp only [PD.lb] at b; obtain ⟨a, vs, rfl, h1, h2⟩ := h; exact ⟨a, vs, rfl, h1, DVs.shrink xs vs h2 b⟩
  | .loc n, v, h, b => by
    simp only [DV] at h ⊢; simp only [PD.lb, decide_eq_true_eq] at b; obtain ⟨a, rfl, h1⟩ := h
    exact ⟨a, rfl, by rw [List.getElem?_append_left b] at h1; exact h1⟩
theorem DVs.shrink {K : PySem.W.Frag} {ρ t : List Addr} {H : Hp} : ∀ (ds : List D) (vs : List V), DVs K (ρ ++ t) H ds vs → lbs ρ.length ds = true → DVs K ρ H ds vs
  | [], vs, h, _ => by simp only [DVs] at h ⊢; exact h
  | x :: xs, vs, h, b => by
    simp only [DVs] at h ⊢
    obtain ⟨v, r, rfl, h1, h2⟩ := h
    simp only [PD.lbs, Bool.and_eq_true] at b
    exact ⟨v, r, rfl, DV.shrink x v h1 b.1, DVs.shrink xs r h2 b.2⟩
end
theorem KVR.shrink {K : PySem.W.Frag} {ρ t : List Addr} {H H0 : Hp} : ∀ (xs : List (Key × D)) (vs us : List (Key × V)), KVR K (ρ ++ t) H xs vs → KVR K ρ H0 xs us → KVR K ρ H xs vs
  | [], _, _, h, _ => h
  | (k, d) :: r, _, _, ⟨v, w, h1, h2, h3⟩, ⟨u, z, g1, g2, g3⟩ => ⟨v, w, h1, DV.shrink d v h2 (DV.lb d u g2), KVR.shrink r w z h3 g3⟩
theorem Ext.shrink {K : PySem.W.Frag} {ρ ρ' : List Addr} {H H' : Hp} (e : Ext K ρ H ρ' H') : Ext K ρ H ρ H' := by
  obtain ⟨t, rfl⟩ := e.pre
  exact ⟨⟨[], by simp⟩, e.tup, fun a vs h g => ⟨h, (e.oth a vs h g).2⟩, e.fz, e.xd⟩
theorem Rel.shrink {K : PySem.W.Frag} {ρ t : List Addr} {S T : Sto} {H H' : Hp} (r0 : Rel K ρ S H) (r : Rel K (ρ ++ t) (S ++ T) H') : Rel K ρ S H' := by
  refine ⟨r0.len, r0.nd, fun n o a h1 h2 => ?_⟩
  have q := r.at_ n o a (by rw [List.getElem?_append_left (List.getElem?_eq_some_iff.mp h1).1]; exact h1) (by rw [List.getElem?_append_left (List.getElem?_eq_some_iff.mp h2).1]; exact h2)
  have q0 := r0.at_ n o a h1 h2
  cases o with
  | lst xs => obtain ⟨vs, a1, a2⟩ := q; obtain ⟨us, b1, b2⟩ := q0; exact ⟨vs, a1, DVs.shrink _ _ a2 (DVs.lbs _ _ b2)⟩
  | dic xs => obtain ⟨vs, a1, a2⟩ := q; obtain ⟨us, b1, b2⟩ := q0; exact ⟨vs, a1, KVR.shrink _ _ _ a2 b2⟩
  | set S n => exact q
  | ins c N fs => obtain ⟨dx, vs, a1, a2⟩ := q; obtain ⟨dy, us, b1, b2⟩ := q0; exact ⟨dx, vs, a1, DVs.shrink _ _ a2 (DVs.lbs _ _ b2)⟩
def lbE (n : Nat) (e : Exn) : Prop := match e.fs with
  | none => True
  | some fs => lbs n fs.2 = true
open Classical in
noncomputable def trim (S : Sto) : Out D → Out D
  | .ok d S' => if S'.take S.length = S ∧ lb S.length d = true then .ok d S else .ok d S'
  | .ex e S' => if S'.take S.length = S ∧ lbE S.length e then .ex e S else .ex e S'
  | .bad => .bad
theorem Post.trim {K : PySem.W.Frag} {ρ : List Addr} {S : Sto} {H : Hp} {Q : VK} {Z : XQ} {o : Out D} (r : Rel K ρ S H) (h : Post K (DV K) ρ H Q Z (PD.trim S o)) : Post K (DV K) ρ H Q Z o := by
  cases o with
  | bad => exact h
  | ok d S' =>
    simp only [PD.trim] at h
    split at h
    · rename_i c
      intro ρ1 H1 v r1 e1 d1
      obtain ⟨t, rfl⟩ := e1.pre
      have hs : S' = S ++ S'.drop S.length := by
        have := List.take_append_drop S.length S'
        rw [c.1] at this
        exact this.symm
      rw [hs] at r1
      exact h ρ H1 v (r.shrink r1) e1.shrink (DV.shrink _ _ d1 (by rw [r.len]; exact c.2))
    · exact h
  | ex e S' =>
    simp only [PD.trim] at h
    split at h
    · rename_i c
      intro ρ1 H1 cl dx r1 e1 d1
      obtain ⟨t, rfl⟩ := e1.pre
      have hs : S' = S ++ S'.drop S.length := by
        have := List.take_append_drop S.length S'
        rw [c.1] at this
        exact this.symm
      rw [hs] at r1
      refine h ρ H1 cl dx (r.shrink r1) e1.shrink ?_
      obtain ⟨x1, x2⟩ := d1
      refine ⟨x1, ?_⟩
      have c2 := c.2
      unfold lbE at c2
      cases q : e.fs with
      | none => rw [q] at x2; exact x2
      | some fs =>
        rw [q] at x2 c2
        obtain ⟨d, vs, a1, a2, a3⟩ := x2
        exact ⟨d, vs, a1, a2, DVs.shrink _ _ a3 (by rw [r.len]; exact c2)⟩
    · exact h
/-- a def that drops what it has laid for itself -/
noncomputable def runT (n : Nat) (b : MS) : MF := fun ds S => trim S (runB n b ds S)
theorem callF_trim {P : Program} {w : World} {K : PySem.W.Frag} {mg : Str → Option Value} {base : Heap} {k n : Nat} {x : Str} {m : MF} (c : CallF P w K mg base k x n m) : CallF P w K mg base k x n (fun ds S => trim S (m ds S)) := by
  obtain ⟨f, fd, ps, F, h1, h2, h3⟩ := c.ex
  have i : ∀ vs H Q E, spM K n (fun ds S => trim S (m ds S)) vs H Q E → spM K n m vs H Q E := fun vs H Q E ⟨ρ, S, ds, r, dv, hl, p⟩ => ⟨ρ, S, ds, r, dv, hl, Post.trim r p⟩
  exact ⟨f, fd, ps, F.imp i, h1, h2, h3⟩

/-! ### comprehensions -/
def wipeE (E : Evn) : List Nat → Evn
  | [] => E
  | v :: vs => (wipeE E vs).set v none
theorem ER.wipe {K : PySem.W.Frag} {W : WW K} {ρ : List Addr} {H : Hp} {E : Evn} {σ : L2.St} (hw : W.fix = none) (h : ER K W ρ H E σ) : ∀ vs : List Nat, ER K W ρ H (wipeE E vs) (L2.wipe σ vs)
  | [] => h
  | v :: vs => (h.wipe hw vs).unset hw v
/-- the names that a turn stores: one, or those of a tuple -/
def stN (one : Bool) (is : List Nat) (x : D) (E : Evn) : Option Evn := match one, is, x with
  | true, [i], x => some (E.set i (some x))
  | false, [i, j], .tup [a, b] => some ((E.set i (some a)).set j (some b))
  | false, [i, j, k], .tup [a, b, c] => some (((E.set i (some a)).set j (some b)).set k (some c))
  | false, [i, j, k, _], .tup [a, .tup [b, c]] => some (((E.set i (some a)).set j (some b)).set k (some c))
  | _, _, _ => none
/-- the same over values -/
def gN1 (K : PySem.W.Frag) (one : Bool) (is : List Nat) : TG := match one, is with
  | true, [i] => gName i
  | false, [i, j] => gTup K 2 (gCons (gName i) (gCons (gName j) gNil))
  | false, [i, j, k] => gTup K 3 (gCons (gName i) (gCons (gName j) (gCons (gName k) gNil)))
  | false, [i, j, k, _] => gTup K 2 (gCons (gName i) (gCons (gTup K 2 (gCons (gName j) (gCons (gName k) gNil))) gNil))
  | _, _ => fun _ _ _ _ => False
theorem wipe_set {σ : L2.St} {i : Nat} {v : Option V} : ∀ {vs : List Nat}, i ∈ vs → L2.wipe (σ.set i v) vs = L2.wipe σ vs
  | [], h => by cases h
  | w :: vs, h => by
    unfold L2.wipe
    by_cases hv : i ∈ vs
    · rw [wipe_set hv]
    · have e : i = w := by simpa [hv] using h
      subst e
      have key : ∀ us : List Nat, i ∉ us → L2.wipe (σ.set i v) us = (L2.wipe σ us).set i v := fun us => by
        induction us with
        | nil => intro _; rfl
        | cons u us ih =>
          intro hu
          simp only [List.mem_cons, not_or] at hu
          unfold L2.wipe
          rw [ih hu.2, List.set_comm _ _ hu.1]
      rw [key vs hv, List.set_set]
theorem wipe_wipe {σ : L2.St} {vs : List Nat} : ∀ us : List Nat, (∀ i ∈ us, i ∈ vs) → L2.wipe (L2.wipe σ us) vs = L2.wipe σ vs
  | [], _ => rfl
  | u :: us, h => by
    show L2.wipe ((L2.wipe σ us).set u none) vs = _
    rw [wipe_set (h u (by simp)), wipe_wipe us fun i hi => h i (by simp [hi])]
theorem stN_ok {K : PySem.W.Frag} {W : WW K} {ρ : List Addr} {S : Sto} {H : Hp} {E E2 : Evn} {σ : L2.St} {one : Bool} {is vs : List Nat} {x : D} {v : V} {Q : L2.St → Hp → Prop} (hw : W.fix = none) (er : ER K W ρ H E σ) (dv : DV K ρ H x v) (hv : ∀ i ∈ is, i ∈ vs)
    (h : stN one is x E = some E2) (q : ∀ σ2, ER K W ρ H E2 σ2 → L2.wipe σ2 vs = L2.wipe σ vs → Q σ2 H) : gN1 K one is v σ H Q := by
  unfold stN at h
  split at h
  · cases h
    exact q _ (er.set hw _ dv) (wipe_set (hv _ (by simp)))
  · rename_i i j a b
    cases h
    obtain ⟨p, us, rfl, h1, h2⟩ := tup_ok dv
    obtain ⟨u1, u2, rfl, d1, d2⟩ := dvs2 h2
    refine ⟨p, _, rfl, h1, rfl, u1, [u2], rfl, u2, [], rfl, rfl, ?_⟩
    exact q _ ((er.set hw _ d1).set hw _ d2) (by rw [wipe_set (hv j (by simp)), wipe_set (hv i (by simp))])
  · rename_i i j k a b c
    cases h
    obtain ⟨p, us, rfl, h1, h2⟩ := tup_ok dv
    simp only [DVs] at h2
    obtain ⟨u1, r1, rfl, d1, u2, r2, rfl, d2, u3, r3, rfl, d3, rfl⟩ := h2
    refine ⟨p, _, rfl, h1, rfl, u1, _, rfl, u2, _, rfl, u3, [], rfl, rfl, ?_⟩
    exact q _ (((er.set hw _ d1).set hw _ d2).set hw _ d3) (by rw [wipe_set (hv k (by simp)), wipe_set (hv j (by simp)), wipe_set (hv i (by simp))])
  · rename_i i j k l a b c
    cases h
    obtain ⟨p, us, rfl, h1, h2⟩ := tup_ok dv
    obtain ⟨u1, u2, rfl, d1, d2⟩ := dvs2 h2
    obtain ⟨p2, us2, rfl, h3, h4⟩ := tup_ok d2
    obtain ⟨u3, u4, rfl, d3, d4⟩ := dvs2 h4
    refine ⟨p, _, rfl, h1, rfl, u1, _, rfl, .ref p2, [], rfl, p2, _, rfl, h3, rfl, u3, _, rfl, u4, [], rfl, rfl, rfl, ?_⟩
    exact q _ (((er.set hw _ d1).set hw _ d3).set hw _ d4) (by rw [wipe_set (hv k (by simp)), wipe_set (hv j (by simp)), wipe_set (hv i (by simp))])
  · cases h
open Classical in
/-- the turns of a comprehension: S0 the store, E0 the names ahead of a turn, acc what there is -/
noncomputable def compD (c : Option (Nat × List D)) (one : Bool) (is : List Nat) (t : MT) (e : ME) (E0 : Evn) (S0 : Sto) : List D → List D → Out (List D)
  | [], acc => if chkOk c (S0 ++ [.lst acc]) then .ok acc S0 else .bad
  | x :: r, acc => if chkOk c (S0 ++ [.lst acc]) then (match stN one is x E0 with
      | some E1 => (match t E1 (S0 ++ [.lst acc]) with
        | .ok b S1 => if S1 = S0 ++ [.lst acc] then (if b = true then (match e E1 (S0 ++ [.lst acc]) with
            | .ok y S2 => if S2 = S0 ++ [.lst acc] ∧ lb S0.length y = true ∧ sizeOk (acc.length + 1) then compD c one is t e E0 S0 r (acc ++ [y]) else .bad
            | _ => .bad) else compD c one is t e E0 S0 r acc) else .bad
        | _ => .bad)
      | none => .bad) else .bad
noncomputable def mComp (it : MI) (one : Bool) (is vs : List Nat) (t : MT) (e : ME) : ME := fun E S => (it E S).bind fun i S1 => (compD i.chk one is t e (wipeE E vs) S1 i.items []).bind fun xs S2 => .ok (.lst xs) S2
def mYes : MT := fun _ S => .ok true S
abbrev W0 (K : PySem.W.Frag) : WW K := WW.of (K := K) fun _ _ _ _ => False
def PD' (X : Cx) (ifs : List Expr) (m : MT) : Prop := PTs X ifs (tT X.K (W0 X.K) m)
theorem PTs.imp {ifs : List Expr} {t t' : TT} (h : PTs X ifs t) (i : ∀ σ H Q, t' σ H Q → t σ H Q) : PTs X ifs t' := ⟨fun pins s σ H Q I q => h.run pins s σ H Q I (i _ _ _ q)⟩
theorem pd_nil : PD' X [] mYes := PTs.imp pts_nil fun σ H Q ⟨ρ, S, E, r, er, p⟩ => p ρ H true r Ext.refl rfl
theorem pd_one {c : Expr} {m : MT} (h : TD X (W0 X.K) c m) : PD' X [c] m := pts_one h
theorem comp_read {mi : MI} {own : List (Str × Nat)} {one : Bool} {is : List Nat} {mt : MT} {me : ME} (hw : W.fix = none) (hv : ∀ i ∈ is, i ∈ own.map (·.2)) : ∀ σ H Q ρ S E, Rel X.K ρ S H → ER X.K W ρ H E σ → Post X.K (DV X.K) ρ H Q (fun c dx H' => W.w c dx σ H') (mComp mi one is (own.map (·.2)) mt me E S) →
    tLc (tI X.K W mi) (gN1 X.K one is) (tT X.K (W0 X.K) mt) (tE X.K (W0 X.K) me) (own.map (·.2)) σ H Q := by
  intro σ H Q ρ S E r er p
  refine ⟨ρ, S, E, r, er, (Post.bind (R := Walks X.K) p).imp fun J H1 ⟨ρ1, S1, i, r1, e1, w1, p1⟩ => ?_⟩
  intro D hD
  have er1 := (er.mono e1).wipe hw (own.map (·.2))
  have er0 : ER X.K (W0 X.K) ρ1 H1 (wipeE E (own.map (·.2))) (L2.wipe σ (own.map (·.2))) := er1.wish trivial fun i a z => by cases z
  generalize wipeE E (own.map (·.2)) = E0 at p1 er0
  have hn : D ∉ ρ1 := r1.notin hD
  refine ⟨fun n m H2 => m = i.items.length - n ∧ n ≤ i.items.length ∧ ∃ acc us, Rel X.K (ρ1 ++ [D]) (S1 ++ [.lst acc]) H2 ∧ Ext X.K ρ1 H1 (ρ1 ++ [D]) H2 ∧ H2 D = some (.lst us) ∧ DVs X.K (ρ1 ++ [D]) H2 acc us ∧ lbs S1.length acc = true ∧
    Post X.K (DV X.K) ρ1 H1 Q (fun c dx H' => W.w c dx σ H') ((compD i.chk one is mt me E0 S1 (i.items.drop n) acc).bind fun xs S2 => .ok (.lst xs) S2),
    ⟨_, rfl, Nat.zero_le _, [], [], r1.alloc (u := .lst []) hD ⟨[], upd_same, by simp [DVs]⟩, Ext.alloc hD, upd_same, by simp [DVs], rfl, by simpa using p1⟩, ?_⟩
  rintro n m H2 ⟨rfl, hnl, acc, us, r2, e2, hHD, dacc, bacc, p2⟩
  have hck : chkOk i.chk (S1 ++ [.lst acc]) := Classical.byContradiction fun z => by
    cases q : i.items.drop n with
    | nil => rw [q, compD, if_neg z] at p2; exact p2
    | cons x rr => rw [q, compD, if_neg z] at p2; exact p2
  obtain ⟨w2, w3⟩ := w1 (ρ1 ++ [D]) (S1 ++ [.lst acc]) H2 r2 e2 hck
  have hDat : (ρ1 ++ [D])[S1.length]? = some D := by rw [← r1.len, List.getElem?_append_right (Nat.le_refl _), Nat.sub_self]; rfl
  have hSat : (S1 ++ [Ob.lst acc])[S1.length]? = some (.lst acc) := by rw [List.getElem?_append_right (Nat.le_refl _), Nat.sub_self]; rfl
  have same : ∀ {ρ' : List Addr} {H' : Hp}, Rel X.K ρ' (S1 ++ [.lst acc]) H' → (∃ t, ρ' = (ρ1 ++ [D]) ++ t) → ρ' = ρ1 ++ [D] := fun r' ⟨t, ht⟩ => by
    have h1 := r'.len
    have h2 := r2.len
    rw [ht, List.length_append, h2] at h1
    have : t = [] := List.length_eq_zero_iff.mp (by omega)
    rw [ht, this, List.append_nil]
  by_cases hlt : n < i.items.length
  · right
    have hd : i.items[n]? = some i.items[n] := List.getElem?_eq_getElem hlt
    obtain ⟨go, yl⟩ := w2 n _ hd
    refine ⟨go, fun H' => n + 1 ≤ i.items.length ∧ ∃ acc us, Rel X.K (ρ1 ++ [D]) (S1 ++ [.lst acc]) H' ∧ Ext X.K ρ1 H1 (ρ1 ++ [D]) H' ∧ H' D = some (.lst us) ∧ DVs X.K (ρ1 ++ [D]) H' acc us ∧ lbs S1.length acc = true ∧
      Post X.K (DV X.K) ρ1 H1 Q (fun c dx H' => W.w c dx σ H') ((compD i.chk one is mt me E0 S1 (i.items.drop (n + 1)) acc).bind fun xs S2 => .ok (.lst xs) S2),
      fun H' ⟨h1, h2⟩ => ⟨i.items.length - (n + 1), by omega, rfl, h1, h2⟩, fun x H3 hy => ?_⟩
    obtain ⟨r3, e3, d3⟩ := yl x H3 hy
    rw [drop_cons_of hd, compD, if_pos hck] at p2
    cases q : stN one is i.items[n] E0 with
    | none => rw [q] at p2; exact p2.elim
    | some E1 =>
      rw [q] at p2
      simp only at p2
      have er3 : ER X.K (W0 X.K) (ρ1 ++ [D]) H3 E0 (L2.wipe σ (own.map (·.2))) := er0.mono (e2.trans e3)
      refine stN_ok (S := S1) rfl er3 d3 hv q fun σ2 er4 hw2 => ⟨hw2.trans (wipe_wipe _ fun _ h => h), ?_⟩
      refine ⟨ρ1 ++ [D], S1 ++ [.lst acc], E1, r3, er4, ?_⟩
      cases q1 : mt E1 (S1 ++ [.lst acc]) with
      | bad => rw [q1] at p2; exact p2.elim
      | ex e S5 => rw [q1] at p2; exact p2.elim
      | ok b S5 =>
        rw [q1] at p2
        simp only at p2
        by_cases hS5 : S5 = S1 ++ [.lst acc]
        · rw [if_pos hS5] at p2
          subst hS5
          intro ρ5 H5 v r5 e5 hv5
          subst hv5
          have hρ5 := same r5 e5.pre
          subst hρ5
          cases b with
          | false =>
            rw [if_neg (by simp)] at p2 ⊢
            have hh : ∃ us, H5 D = some (.lst us) ∧ DVs X.K (ρ1 ++ [D]) H5 acc us := r5.lst hSat hDat
            obtain ⟨us5, h51, h52⟩ := hh
            exact ⟨hlt, acc, us5, r5, (e2.trans e3).trans e5, h51, h52, bacc, p2⟩
          | true =>
            rw [if_pos rfl] at p2 ⊢
            refine ⟨ρ1 ++ [D], S1 ++ [.lst acc], E1, r5, er4.mono e5, ?_⟩
            cases q2 : me E1 (S1 ++ [.lst acc]) with
            | bad => rw [q2] at p2; exact p2.elim
            | ex e S6 => rw [q2] at p2; exact p2.elim
            | ok y S6 =>
              rw [q2] at p2
              simp only at p2
              by_cases hS6 : S6 = S1 ++ [.lst acc] ∧ lb S1.length y = true ∧ sizeOk (acc.length + 1)
              · rw [if_pos hS6] at p2
                obtain ⟨h6, h7, h8⟩ := hS6
                subst h6
                intro ρ6 H6 w r6 e6 d6
                have hρ6 := same r6 e6.pre
                subst hρ6
                obtain ⟨us6, h61, h62⟩ := r6.lst hSat hDat
                refine ⟨us6, h61, by rw [← h62.length]; exact h8, hlt, acc ++ [y], us6 ++ [w], ?_, ?_, upd_same, ?_, ?_, p2⟩
                · have := r6.write hDat hSat h61 (h62.append (DVs.one d6))
                  rw [List.set_append_right _ _ (Nat.le_refl _), Nat.sub_self] at this
                  exact this
                · exact (((e2.trans e3).trans e5).trans e6).trans (Ext.write (by simp) h61)
                · exact DVs.mono (Ext.write (by simp) h61) _ _ (h62.append (DVs.one d6))
                · have key : ∀ l : List PD.D, lbs S1.length l = true → lbs S1.length (l ++ [y]) = true := fun l => by
                    induction l with
                    | nil => intro _; simp [lbs, h7]
                    | cons a l ih => intro h; simp only [List.cons_append, lbs, Bool.and_eq_true] at h ⊢; exact ⟨h.1, ih h.2⟩
                  exact key acc bacc
              · rw [if_neg hS6] at p2; exact p2.elim
        · rw [if_neg hS5] at p2; exact p2.elim
  · left
    have hn2 : n = i.items.length := by omega
    subst hn2
    rw [List.drop_length, compD, if_pos hck, bind_ok] at p2
    refine ⟨w3, p2 ρ1 H2 (.ref D) (r1.shrink r2) e2.shrink ?_⟩
    simp only [DV]
    exact ⟨D, us, rfl, ⟨hn, hHD⟩, DVs.shrink _ _ dacc (by rw [r1.len]; exact bacc)⟩
theorem ed_comp {elt tg iter : Expr} {ifs : List Expr} {scope : Scope} {own : List (Str × Nat)} {mi : MI} {one : Bool} {is : List Nat} {mt : MT} {me : ME} (hc : X.calm = true) (hN : X.N.Nodup) (hi : ID X W tg iter mi) (ok : BlkOk X.N X.env.scope scope own) (hw : W.fix = none)
    (hv : ∀ i ∈ is, i ∈ own.map (·.2))
    (hg : ∀ (s : Shared) (H : Hp) (C : Addr) (cl : List (Str × Addr)) (fp : List Addr), PG (X.blk s H scope (compEnvC scope cl C X.env) fp) tg (gN1 X.K one is))
    (ht : ∀ (s : Shared) (H : Hp) (C : Addr) (cl : List (Str × Addr)) (fp : List Addr), PD' (X.blk s H scope (compEnvC scope cl C X.env) fp) ifs mt)
    (he : ∀ (s : Shared) (H : Hp) (C : Addr) (cl : List (Str × Addr)) (fp : List Addr), ED (X.blk s H scope (compEnvC scope cl C X.env) fp) (W0 X.K) elt me) (hs : ∀ x, foldedSetIterable iter X.env x = pure x := by intro _; rfl) :
    ED X W (.ListComp elt [⟨tg, iter, ifs, 0⟩] scope pos) (mComp mi one is (own.map (·.2)) mt me) := by
  exact ed_of (pe_lc (tt := tT X.K (W0 X.K) mt) (te := tE X.K (W0 X.K) me) hc hN hi ok hg ht he hs) (comp_read hw hv)
/-- name = [..] on one line -/
theorem sd_setLc {i : Nat} {y : Str} {py spos : Pos} {elt tg iter : Expr} {ifs : List Expr} {scope : Scope} {own : List (Str × Nat)} {mi : MI} {one : Bool} {is : List Nat} {mt : MT} {me : ME} (hc : X.calm = true) (hN : X.N.Nodup) (hy : X.N[i]? = some y) (hyl : X.env.scope.names.lookup y = some .local)
    (hi : ID X W tg iter mi) (ok : BlkOk X.N X.env.scope scope own) (hw : W.fix = none) (hv : ∀ i ∈ is, i ∈ own.map (·.2))
    (hg : ∀ (s : Shared) (H : Hp) (C : Addr) (cl : List (Str × Addr)) (fp : List Addr), PG (X.blk s H scope (compEnvC scope cl C X.env) fp) tg (gN1 X.K one is))
    (ht : ∀ (s : Shared) (H : Hp) (C : Addr) (cl : List (Str × Addr)) (fp : List Addr), PD' (X.blk s H scope (compEnvC scope cl C X.env) fp) ifs mt)
    (he : ∀ (s : Shared) (H : Hp) (C : Addr) (cl : List (Str × Addr)) (fp : List Addr), ED (X.blk s H scope (compEnvC scope cl C X.env) fp) (W0 X.K) elt me)
    (hsw : swapsWith (.ListComp elt [⟨tg, iter, ifs, 0⟩] scope pos) (some (.Name y py)) spos.line X.env = pure true := by rfl) (hs : ∀ x, foldedSetIterable iter X.env x = pure x := by intro _; rfl) :
    SD X W (.Assign [.Name y py] (.ListComp elt [⟨tg, iter, ifs, 0⟩] scope pos) spos) (mSet i (mComp mi one is (own.map (·.2)) mt me)) := by
  refine sd_of (ps_setLc (tt := tT X.K (W0 X.K) mt) (te := tE X.K (W0 X.K) me) hc hN hy hyl hsw hi ok hg ht he hs) fun D σ H ρ S E r er p => ?_
  exact comp_read hw hv σ H _ ρ S E r er ((SPost.bind (R := DV X.K) er p).imp fun x H1 ⟨ρ1, S1, d, r1, e1, d1, p1⟩ => p1 ρ1 H1 _ r1 Ext.refl ((er.mono e1).set hw i d1))
end
end PD

/-! PyE1: to reckon with the meanings of PyD8, PyD9, PyE0. -/
namespace PD
open PySem PySem.Spec PyProof PyProof.Rows L2
section
variable {E : Evn} {S : Sto}
theorem a_sm {g : Sto → Tx → List D → Option D} {o : ME} {a : MA} : mSM g o a E S = (o E S).bind fun x S1 => (match x with
  | .str z => (a E S1).bind fun xs S2 => (match g S2 z xs with
    | some d => .ok d S2
    | none => .bad)
  | _ => .bad) := rfl
theorem a_lm {g : GL} {o : ME} {a : MA} : mLM g o a E S = (o E S).bind fun x S1 => (match x with
  | .loc n => (match S1[n]? with
    | some (.lst _) => (a E S1).bind fun xs S2 => (match S2[n]? with
      | some (.lst l) => (match g S2 l xs with
        | some (d, l2) => .ok d (S2.set n (.lst l2))
        | none => .bad)
      | _ => .bad)
    | _ => .bad)
  | _ => .bad) := rfl
theorem a_iany {a : ME} : iAny a E S = (a E S).bind fun d S1 => (match d with
  | .str z => .ok ⟨z.map fun c => .str [c], none⟩ S1
  | d => iSeq (mC d) E S1) := rfl
theorem a_comp {it : MI} {one : Bool} {is vs : List Nat} {t : MT} {e : ME} : mComp it one is vs t e E S = (it E S).bind fun i S1 => (compD i.chk one is t e (wipeE E vs) S1 i.items []).bind fun xs S2 => .ok (.lst xs) S2 := rfl
theorem a_yes : mYes E S = .ok true S := rfl
theorem g_mulAI {i j : Int} : gMulA S (.int i) (.int j) = gMul S (.int i) (.int j) := rfl
theorem g_mulAS {z : Tx} {k : Int} (h : repOk z.length k) : gMulA S (.str z) (.int k) = some (.str (List.replicate k.toNat z).flatten) := by
  simp only [gMulA, if_pos h]
theorem g_slS {z : Tx} {lo hi : Option Int} (h : sizeOk z.length) : gSl S (.str z) lo hi = some (.str (cutL z lo hi)) := by simp only [gSl, if_pos h]
theorem g_slT {z : List D} {lo hi : Option Int} : gSl S (.tup z) lo hi = some (.tup (cutL z lo hi)) := rfl
theorem g_slL {z : List D} {lo hi : Option Int} : gSl S (.lst z) lo hi = some (.lst (cutL z lo hi)) := rfl
theorem g_slF {z : List D} {lo hi : Option Int} : gSl S (.fz z) lo hi = some (.lst (cutL z lo hi)) := rfl
theorem g_revL {z : List D} : gRev S (.lst z) = some (.lst z.reverse) := rfl
theorem g_revF {z : List D} : gRev S (.fz z) = some (.lst z.reverse) := rfl
theorem g_starts {z p : Tx} : gStarts S z [.str p] = some (.bl (decide (z.take p.length = p))) := rfl
theorem g_ends {z p : Tx} : gEnds S z [.str p] = some (.bl (decide (p.length ≤ z.length ∧ z.drop (z.length - p.length) = p))) := rfl
theorem g_split {z p : Tx} (h1 : p ≠ [] ∧ p.all (· < 256) = true ∧ sizeOk (z.length + 2)) : gSplit S z [.str p] = some (.lst ((TL.spl p 0 [] z).map D.str)) := by simp only [gSplit, if_pos h1]
theorem g_joinM {z : Tx} {ys : List Tx} (h : joinOk z ys) : gJoin S z [.lst (ys.map D.str)] = some (.str (TL.joinL z ys)) := by
  unfold gJoin
  simp only [rowF, seqF, Option.bind_some, strs_map, if_pos h]
theorem g_join {z : Tx} {xs : List D} {ys : List Tx} (e : strL xs = some ys) (h : joinOk z ys) : gJoin S z [.lst xs] = some (.str (TL.joinL z ys)) := by
  unfold gJoin
  simp only [rowF, seqF, Option.bind_some, e, if_pos h]
theorem g_zfill {z : Tx} {i : Int} (h : padOk i) : gZfill S z [.int i] = some (.str (zfillD z i)) := by simp only [gZfill, if_pos h]
theorem g_str {i : Int} (h : strOkI i) : gStr S [.int i] = some (.str (numT i)) := by simp only [gStr, if_pos h]
theorem g_intAI {i : Int} : gIntA S [.int i] = some (.int i) := rfl
theorem g_intAB {i : Bool} : gIntA S [.bl i] = some (.int (if i then 1 else 0)) := rfl
theorem g_intAS {z : Tx} (h : digT z) : gIntA S [.str z] = some (.int (NumText.digitsVal z : Nat)) := by simp only [gIntA, if_pos h]
theorem g_ord {c : Nat} : gOrd S [.str [c]] = some (.int c) := rfl
theorem g_chr {i : Int} (h : 0 ≤ i ∧ i ≤ 1114111) : gChr S [.int i] = some (.str [i.toNat]) := by simp only [gChr, if_pos h]
theorem g_inC {c : Nat} {z : Tx} : gIn S (.str [c]) (.str z) = some (.bl (decide (c ∈ z))) := rfl
theorem g_notInC {c : Nat} {z : Tx} : gNotIn S (.str [c]) (.str z) = some (.bl (!decide (c ∈ z))) := rfl
theorem g_inT {x : D} {ys : List D} (h : flD x = true) (h2 : ys.all flD = true) : gIn S x (.tup ys) = some (.bl (ys.any fun y => teq y x)) := by
  unfold gIn inB2
  split
  · rename_i e; cases e
  · rename_i ys e; cases e; rw [if_pos ⟨h, h2⟩]; rfl
  · rename_i e _; exact absurd rfl (e _)
theorem g_notInT {x : D} {ys : List D} (h : flD x = true) (h2 : ys.all flD = true) : gNotIn S x (.tup ys) = some (.bl (!ys.any fun y => teq y x)) := by
  unfold gNotIn inB2
  split
  · rename_i e; cases e
  · rename_i ys e; cases e; rw [if_pos ⟨h, h2⟩]; rfl
  · rename_i e _; exact absurd rfl (e _)
theorem in_seq {x y : D} {ys : List D} (hy : seqF S y = some ys) (h : flD x = true) (h2 : ys.all flD = true) : inB2 S x y = some (ys.any fun y => teq y x) := by
  unfold inB2
  split
  · cases hy
  · cases hy
  · rw [hy]; simp only; rw [if_pos ⟨h, h2⟩]
theorem in_deep {x y : D} {ys : List D} (hy : seqF S y = some ys) (hx : flD x = false) (h : okd (flat S x) 64 = true) (h2 : okds ys 63 = true) : inB2 S x y = some (ys.any fun y => teq y (flat S x)) := by
  unfold inB2
  split
  · cases hy
  · cases hy
  · rw [hy]; simp only; rw [if_neg (by simp [hx]), if_pos ⟨h, h2⟩]
theorem g_in {x y : D} {b : Bool} (h : inB2 S x y = some b) : gIn S x y = some (.bl b) := by unfold gIn; rw [h]; rfl
theorem g_notIn {x y : D} {b : Bool} (h : inB2 S x y = some b) : gNotIn S x y = some (.bl (!b)) := by unfold gNotIn; rw [h]; rfl
theorem g_allM {bs : List Bool} : gAll S [.lst (bs.map D.bl)] = some (.bl (bs.all id)) := by unfold gAll; simp only [seqF, Option.bind_some, bools_map, Option.map_some]
theorem g_anyM {bs : List Bool} : gAny S [.lst (bs.map D.bl)] = some (.bl (bs.any id)) := by unfold gAny; simp only [seqF, Option.bind_some, bools_map, Option.map_some]
theorem g_append {l : List D} {d : D} (h : sizeOk (l.length + 1)) : gAppend S l [d] = some (.non, l ++ [d]) := by simp only [gAppend, if_pos h]
theorem g_pop {l : List D} {d : D} : gPop S (l ++ [d]) [] = some (d, l) := by unfold gPop; simp
/-- a comprehension whose turns leave the store alone: each gives f x where the test says so -/
theorem compD_map {one : Bool} {is : List Nat} {t : MT} {e : ME} {E0 : Evn} {S0 : Sto} (p : D → Bool) (f : D → D) : ∀ (l : List D) (acc : List D), sizeOk (acc.length + l.length) →
    (∀ x ∈ l, ∀ acc, ∃ E1, stN one is x E0 = some E1 ∧ t E1 (S0 ++ [.lst acc]) = .ok (p x) (S0 ++ [.lst acc]) ∧ (p x = true → e E1 (S0 ++ [.lst acc]) = .ok (f x) (S0 ++ [.lst acc]) ∧ lb S0.length (f x) = true)) →
    compD none one is t e E0 S0 l acc = .ok (acc ++ (l.filter p).map f) S0
  | [], acc, _, _ => by rw [compD, if_pos (show chkOk none _ from trivial)]; simp
  | x :: l, acc, hz, h => by
    obtain ⟨E1, h1, h2, h3⟩ := h x List.mem_cons_self acc
    rw [compD, if_pos (show chkOk none _ from trivial), h1]
    simp only
    rw [h2]
    simp only
    rw [if_pos trivial]
    cases hp : p x with
    | false =>
      rw [if_neg (by simp), compD_map p f l acc (by unfold sizeOk at *; simp only [List.length_cons] at hz; omega) fun y hy => h y (List.mem_cons_of_mem _ hy)]
      simp [List.filter_cons, hp]
    | true =>
      obtain ⟨h4, h5⟩ := h3 hp
      rw [if_pos rfl, h4]
      simp only
      rw [if_pos ⟨rfl, h5, by unfold sizeOk at *; simp only [List.length_cons] at hz; omega⟩, compD_map p f l _ (by unfold sizeOk at *; simp only [List.length_cons, List.length_append, List.length_nil] at hz ⊢; omega) fun y hy => h y (List.mem_cons_of_mem _ hy)]
      simp [List.filter_cons, hp]
/-- without a test -/
theorem compD_all {one : Bool} {is : List Nat} {e : ME} {E0 : Evn} {S0 : Sto} (f : D → D) (l : List D) (hz : sizeOk l.length)
    (h : ∀ x ∈ l, ∀ acc, ∃ E1, stN one is x E0 = some E1 ∧ e E1 (S0 ++ [.lst acc]) = .ok (f x) (S0 ++ [.lst acc]) ∧ lb S0.length (f x) = true) :
    compD none one is mYes e E0 S0 l [] = .ok (l.map f) S0 := by
  have := compD_map (one := one) (is := is) (t := mYes) (e := e) (E0 := E0) (S0 := S0) (fun _ => true) f l [] (by simpa using hz) fun x hx acc => by
    obtain ⟨E1, h1, h2, h3⟩ := h x hx acc
    exact ⟨E1, h1, rfl, fun _ => ⟨h2, h3⟩⟩
  rw [List.filter_eq_self.mpr (fun _ _ => rfl), List.nil_append] at this
  exact this
/-- a def that drops what it has laid -/
theorem trim_ok {d : D} {T : Sto} (h : lb S.length d = true) : trim S (.ok d (S ++ T)) = .ok d S := by
  unfold trim
  simp only
  rw [if_pos ⟨by simp, h⟩]
theorem trim_same {d : D} : trim S (.ok d S) = .ok d S := by
  unfold trim
  simp only
  split <;> rfl
theorem trim_exN {c : Cl} {T : Sto} : trim S (.ex ⟨c, none⟩ (S ++ T)) = .ex ⟨c, none⟩ S := by
  unfold trim
  simp only
  rw [if_pos ⟨by simp, trivial⟩]
theorem a_runT {n : Nat} {b : MS} {ds : List D} : runT n b ds S = trim S (runB n b ds S) := rfl
/-- the new list at the end of the store -/
theorem sto_last {x : Ob} : (S ++ [x])[S.length]? = some x := by rw [List.getElem?_append_right (Nat.le_refl _), Nat.sub_self]; rfl
theorem sto_set {x y : Ob} : (S ++ [x]).set S.length y = S ++ [y] := by rw [List.set_append_right _ _ (Nat.le_refl _), Nat.sub_self]; rfl
theorem g_joinLoc {z : Tx} {n : Nat} {xs : List D} {ys : List Tx} (hs : S[n]? = some (.lst xs)) (e : strL xs = some ys) (h : joinOk z ys) : gJoin S z [.loc n] = some (.str (TL.joinL z ys)) := by
  unfold gJoin
  simp only [rowF, seqF, hs, Option.bind_some, e, if_pos h]
theorem g_revLoc {n : Nat} {xs : List D} (hs : S[n]? = some (.lst xs)) : gRev S (.loc n) = some (.lst xs.reverse) := by
  unfold gRev
  simp only [seqF, hs, Option.map_some]
theorem g_lenLoc {n : Nat} {xs : List D} (hs : S[n]? = some (.lst xs)) : gLen S [.loc n] = some (.int xs.length) := by
  unfold gLen
  simp only [seqF, hs, Option.map_some]
end
end PD

/-! PyE2: calls without arguments; list, tuple of a row; o[i] = .. -/
namespace PD
open PySem PySem.Spec PyProof PyProof.Rows L2
section
variable {X : Cx} {W : WW X.K} {pos : Pos}
theorem room65 {k : Nat} {A : Around} (r : Room k A) : A.units + 65 < cLine := by have := r.un; omega
theorem pe_callSD0 {CX : CXT} {k : Nat} {f : Addr} {fd : FuncData} {ps : List Str} {sp : Sp} {dvs : List V} {ds : List Value} {E : L2.St → XK} {x : Str} {p : Pos} (F : FnOk X.prog X.w X.K X.mg X.base CX k f fd ps sp) (hr : Room k X.A) (hg : Gl X x) (hm : X.mg x = some (.ref f)) (hk : PySem.W.keepIn X.K (.ref f) = true) (hb : Binds X.K fd ps ds) (hd : Vals dvs ds) (hx : ∀ σ, PassesAt CX X σ (E σ))
    (hdb : (x == ("__debug__" : Str)) = false := by decide) : PE X (.Call (.Name x p) [] [] pos) (tCallSD sp dvs E tNil) := by
  refine ⟨fun pins s σ H Q I h => ?_⟩
  refine wpAny_Call_Name_kw (ld_glob I hg hm ?_ hdb)
  exact PySem.W.callWith_K0 I.kIn hk (run_fnSD (us := []) F hr hb hd (hx σ) I .nil h)
theorem ed_call0 {x : Str} {k : Nat} {m : MF} {p : Pos} (c : CallF X.prog X.w X.K X.mg X.base k x 0 m) (hr : Room k X.A) (tk : Takes X W.w) (hg : Gl X x) (hdb : (x == ("__debug__" : Str)) = false := by decide) :
    ED X W (.Call (.Name x p) [] [] pos) (mCall m mNil) := by
  obtain ⟨f, fd, ps, F, hm, hk, hb⟩ := c.ex
  refine ed_of (pe_callSD0 (E := fun σ c dx H => W.w c dx σ H) F hr hg hm hk hb .nil (fun σ => passAt tk σ) hdb) fun σ H Q ρ S E r er p => ?_
  exact ⟨ρ, S, [], r, by simp [DVs], rfl, p⟩
/-- list of a row, tuple of a row -/
def gList (S : Sto) (ds : List D) : Option D := match ds with
  | [d] => (rowF S d).map D.lst
  | _ => none
theorem rp_list : ∀ vs H Q, rPB X.K gList vs H Q → (∃ p ys, vs = [V.ref p] ∧ (SqL X.K H p ys ∨ SqT X.K H p ys) ∧ ∀ l, H l = none → Q (.ref l) (upd H l (.lst ys))) := by
  rintro vs H Q ⟨ρ, S, ds, d, r, dv, hg, q⟩
  unfold gList at hg
  split at hg
  · rename_i x
    rw [Option.map_eq_some_iff] at hg
    obtain ⟨xs, e, rfl⟩ := hg
    obtain ⟨u, rfl, h1⟩ := dvs1 dv
    obtain ⟨a, us, rfl, h2, h3⟩ := rowF_ok r h1 e
    exact ⟨a, us, rfl, h2, fun l hl => post_lst r hl h3 q⟩
  · cases hg
def gTuple (S : Sto) (ds : List D) : Option D := match ds with
  | [d] => (rowF S d).map D.tup
  | _ => none
theorem rp_tuple : ∀ vs H Q, rPB X.K gTuple vs H Q → (∃ p ys, vs = [V.ref p] ∧ ((SqL X.K H p ys ∧ ∀ l, H l = none → Q (.ref l) (upd H l (.tup ys))) ∨ (SqT X.K H p ys ∧ Q (.ref p) H))) := by
  rintro vs H Q ⟨ρ, S, ds, d, r, dv, hg, q⟩
  unfold gTuple at hg
  split at hg
  · rename_i x
    rw [Option.map_eq_some_iff] at hg
    obtain ⟨xs, e, rfl⟩ := hg
    obtain ⟨u, rfl, h1⟩ := dvs1 dv
    unfold rowF at e
    split at e
    · cases e
      obtain ⟨a, us, rfl, h2, h3⟩ := tup_ok h1
      exact ⟨a, us, rfl, .inr ⟨h2, q ρ H _ r Ext.refl h1⟩⟩
    · obtain ⟨a, us, rfl, h2, h3⟩ := seqF_ok r h1 e
      exact ⟨a, us, rfl, .inl ⟨h2, fun l hl => post_tup r hl h3 q⟩⟩
  · cases hg
/-- the place of an item -/
def ixD (n : Nat) (i : Int) : Option Nat := if 0 ≤ i then (if i.toNat < n then some i.toNat else none) else if -(n : Int) ≤ i then some (i + n).toNat else none
theorem ixD_ixN {n : Nat} {i : Int} {j : Nat} (h : ixD n i = some j) : ixN n i = some j := by
  unfold ixD at h
  unfold ixN
  by_cases h0 : 0 ≤ i
  · rw [if_pos h0] at h ⊢
    by_cases h1 : i.toNat < n
    · rw [if_pos h1] at h; rw [if_pos (by omega)]; exact h
    · rw [if_neg h1] at h; cases h
  · rw [if_neg h0] at h ⊢; exact h
/-- o[i] = d, o a list of the store -/
def gI (o i : ME) : MG := fun d E S => (o E S).bind fun x S1 => (i E S1).bind fun k S2 => match x, k with
  | .loc n, .int k => (match S2[n]? with
    | some (.lst l) => (match ixD l.length k with
      | some j => .ok E (S2.set n (.lst (l.set j d)))
      | none => .bad)
    | _ => .bad)
  | _, _ => .bad
theorem gd_sub {o i : Expr} {mo mi : ME} (ho : ED X W o mo) (hi : ED X W i mi)
    (ha : ∀ v, assign (.Subscript o i pos) X.env v = (do
      let ov ← holding [v] (eval o X.env)
      let iv ← holding [v, ov] (eval i X.env)
      standAt pos
      holding [v, ov, iv] (setItem ov iv v)
      release [v, ov, iv] []) := by intro _; rfl) : GD X W (.Subscript o i pos) (gI mo mi) := by
  refine PG.imp (pg_sub ho hi set_list ha) fun v σ H Q ⟨ρ, S, E, d, r, er, dv, p⟩ => ?_
  refine ⟨ρ, S, E, r, er, (Post.bind (R := DV X.K) p).imp fun x H1 ⟨ρ1, S1, dx, r1, e1, d1, p1⟩ => ?_⟩
  refine ⟨ρ1, S1, E, r1, er.mono e1, (Post.bind (R := DV X.K) p1).imp fun k H2 ⟨ρ2, S2, dk, r2, e2, d2, p2⟩ => ?_⟩
  have d1' := DV.mono e2 _ _ d1
  have dv' := DV.mono (e1.trans e2) _ _ dv
  cases dx with
  | loc n =>
    cases dk with
    | int k =>
      rw [dv_int] at d2; subst d2
      simp only at p2
      cases hs : S2[n]? with
      | none => rw [hs] at p2; exact p2.elim
      | some ob =>
        cases ob with
        | lst l =>
          rw [hs] at p2
          simp only at p2
          cases hj : ixD l.length k with
          | none => rw [hj] at p2; exact p2.elim
          | some j =>
            rw [hj] at p2
            simp only [DV] at d1'
            obtain ⟨a, rfl, ha⟩ := d1'
            obtain ⟨us, h1, h2⟩ := r2.lst hs ha
            have w := Ext.write (K := X.K) (us := us.set j v) (List.mem_of_getElem? ha) h1
            exact ⟨a, us, k, j, rfl, rfl, h1, by rw [← h2.length]; exact ixD_ixN hj, p2 ρ2 _ _ (r2.write ha hs h1 (DVs.set dv' j h2)) w ((er.mono (e1.trans e2)).mono w)⟩
        | _ => rw [hs] at p2; exact p2.elim
    | _ => exact p2.elim
  | _ => exact p2.elim
theorem a_gI {o i : ME} {d : D} {E : Evn} {S : Sto} : gI o i d E S = (o E S).bind fun x S1 => (i E S1).bind fun k S2 => (match x, k with
  | .loc n, .int k => (match S2[n]? with
    | some (.lst l) => (match ixD l.length k with
      | some j => .ok E (S2.set n (.lst (l.set j d)))
      | none => .bad)
    | _ => .bad)
  | _, _ => .bad) := rfl
theorem g_listL {S : Sto} {xs : List D} : gList S [.lst xs] = some (.lst xs) := rfl
theorem g_listF {S : Sto} {xs : List D} : gList S [.fz xs] = some (.lst xs) := rfl
theorem g_listT {S : Sto} {xs : List D} : gList S [.tup xs] = some (.lst xs) := rfl
theorem g_tupL {S : Sto} {xs : List D} : gTuple S [.lst xs] = some (.tup xs) := rfl
theorem g_tupF {S : Sto} {xs : List D} : gTuple S [.fz xs] = some (.tup xs) := rfl
theorem g_tupT {S : Sto} {xs : List D} : gTuple S [.tup xs] = some (.tup xs) := rfl
end
end PD

/-! PyE3: constants of any form in the written part; range with a pace. -/
namespace PD
open PySem PySem.Spec PyProof PyProof.Rows L2
mutual
def datC (K : PySem.W.Frag) : D → Value → Bool
  | .non, v => match v with | .none => true | _ => false
  | .bl b, v => match v with | .bool c => c == b | _ => false
  | .int i, v => match v with | .int j _ => decide (j = i) | _ => false
  | .str x, v => match v with | .str y _ => decide (y = ⟨x.toArray⟩) | _ => false
  | .tup xs, v => match v with
    | .ref a => (match K.lookup a with
      | some o => decide (o.cls = .type "tuple") && (match o.data with | .seq its n => decide (its.size ≤ sizeLine) && datCs K xs its.toList | _ => false)
      | none => false)
    | _ => false
  | .fz xs, v => match v with
    | .ref a => (match K.lookup a with
      | some o => decide (o.cls = .type "list") && (o.dict.isNone && (match o.data with | .seq its n => decide (its.size ≤ sizeLine) && datCs K xs its.toList | _ => false))
      | none => false)
    | _ => false
  | .lst _, _ => false
  | .loc _, _ => false
  | .ty _, _ => false
  | .glo _, _ => false
  | .exo, _ => false
def datCs (K : PySem.W.Frag) : List D → List Value → Bool
  | [], vs => vs.isEmpty
  | x :: xs, vs => match vs with
    | [] => false
    | v :: vs => datC K x v && datCs K xs vs
end
mutual
theorem datC_ok {K : PySem.W.Frag} : ∀ (d : D) (v : Value), datC K d v = true → ∃ w, RelV w v ∧ ∀ ρ H, DV K ρ H d w
  | .non, v, h => by
    simp only [datC] at h
    split at h
    · exact ⟨.non, rfl, fun _ _ => by simp [DV]⟩
    · cases h
  | .bl b, v, h => by
    simp only [datC] at h
    split at h
    · rw [beq_iff_eq] at h; subst h; exact ⟨.bl _, rfl, fun _ _ => by simp [DV]⟩
    · cases h
  | .int i, v, h => by
    simp only [datC] at h
    split at h
    · rw [decide_eq_true_eq] at h; subst h; exact ⟨.int _, ⟨_, rfl⟩, fun _ _ => by simp [DV]⟩
    · cases h
  | .str x, v, h => by
    simp only [datC] at h
    split at h
    · rw [decide_eq_true_eq] at h; subst h; exact ⟨.str _, ⟨_, rfl⟩, fun _ _ => by simp [DV, sv]⟩
    · cases h
  | .tup xs, v, h => by
    simp only [datC] at h
    split at h
    · rename_i a
      split at h
      · rename_i o ho
        simp only [Bool.and_eq_true, decide_eq_true_eq] at h
        obtain ⟨h1, h2⟩ := h
        split at h2
        · rename_i its n hd
          simp only [Bool.and_eq_true, decide_eq_true_eq] at h2
          obtain ⟨ws, r, q⟩ := datCs_ok xs _ h2.2
          exact ⟨.ref a, rfl, fun ρ H => by simp only [DV]; exact ⟨a, ws, rfl, .inr ⟨o, its, n, ho, h1, hd, h2.1, r⟩, q ρ H⟩⟩
        · cases h2
      · cases h
    · cases h
  | .fz xs, v, h => by
    simp only [datC] at h
    split at h
    · rename_i a
      split at h
      · rename_i o ho
        simp only [Bool.and_eq_true, decide_eq_true_eq] at h
        obtain ⟨h1, h3, h2⟩ := h
        split at h2
        · rename_i its n hd
          simp only [Bool.and_eq_true, decide_eq_true_eq] at h2
          obtain ⟨ws, r, q⟩ := datCs_ok xs _ h2.2
          exact ⟨.ref a, rfl, fun ρ H => by simp only [DV]; exact ⟨a, ws, rfl, .inr ⟨o, its, n, ho, h1, by simpa using h3, hd, h2.1, r⟩, q ρ H⟩⟩
        · cases h2
      · cases h
    · cases h
  | .lst _, v, h => by simp [datC] at h
  | .loc _, v, h => by simp [datC] at h
  | .ty _, v, h => by simp [datC] at h
  | .glo _, v, h => by simp [datC] at h
  | .exo, v, h => by simp [datC] at h
theorem datCs_ok {K : PySem.W.Frag} : ∀ (ds : List D) (vs : List Value), datCs K ds vs = true → ∃ ws, Vals ws vs ∧ ∀ ρ H, DVs K ρ H ds ws
  | [], vs, h => by
    simp only [datCs, List.isEmpty_iff] at h
    subst h
    exact ⟨[], .nil, fun _ _ => by simp [DVs]⟩
  | x :: xs, vs, h => by
    cases vs with
    | nil => simp [datCs] at h
    | cons v vs =>
      simp only [datCs, Bool.and_eq_true] at h
      obtain ⟨w, r, q⟩ := datC_ok x v h.1
      obtain ⟨ws, r2, q2⟩ := datCs_ok xs vs h.2
      exact ⟨w :: ws, .cons r r2, fun ρ H => by simp only [DVs]; exact ⟨w, ws, rfl, q ρ H, q2 ρ H⟩⟩
end
/-- a constant under its name -/
def conC (K : PySem.W.Frag) (x : Str) (d : D) : Bool := match PySem.W.nsIn K mainGlobals x with
  | some (some v) => datC K d v
  | _ => false
theorem conC_ok {K : PySem.W.Frag} {h : Heap} {mg : Str → Option Value} (X : K.In h) (G : h.Ns mainGlobals mg) {x : Str} {d : D} (c : conC K x d = true) : GC K mg x d := by
  unfold conC at c
  split at c
  · rename_i v e
    obtain ⟨w, r, q⟩ := datC_ok d v c
    exact ⟨v, w, PySem.W.mg_of X G e, r, q⟩
  · cases c
section
variable {X : Cx} {W : WW X.K} {pos : Pos}
def rngC (lo c : Int) (n : Nat) : List D := (List.range n).map fun (i : Nat) => D.int (lo + (i : Int) * c)
def rgN (i j c : Int) : Nat := (Builtin.Range.rangeSize i j c).toNat
def rgOk (i j c : Int) : Prop := RgC i j c (rgN i j c)
def int3 : List D → Option (Int × Int × Int)
  | [.int i, .int j, .int k] => some (i, j, k)
  | _ => none
open Classical in
noncomputable def iRange3 (a : MA) : MI := fun E S => (a E S).bind fun ds S1 => match int3 ds with
  | some (i, j, c) => if rgOk i j c then .ok ⟨rngC i c (rgN i j c), none⟩ S1 else .bad
  | none => .bad
theorem walks_rangeC {K : PySem.W.Frag} {ρ : List Addr} {H : Hp} {lo c : Int} {n : Nat} : Walks K ρ H ⟨rngC lo c n, none⟩ (Itc lo c n) := by
  intro ρ1 S H1 r e _
  refine ⟨fun i d hd => ?_, by simp [rngC, Itc]⟩
  unfold rngC at hd
  rw [List.getElem?_map] at hd
  by_cases hi : i < n
  · rw [List.getElem?_eq_getElem (by simpa using hi)] at hd
    simp at hd
    subst hd
    refine ⟨hi, fun x H' hy => ?_⟩
    obtain ⟨rfl, rfl⟩ := hy
    exact ⟨r, Ext.refl, by simp [DV]⟩
  · rw [List.getElem?_eq_none (by simpa using hi)] at hd
    cases hd
theorem id_range3 {tg a b c : Expr} {ma : MA} {p : Pos} (hg : Gl X "range") (hm : X.mg "range" = none) (ha : AD X W [a, b, c] ma)
    (hs : starEach [a, b, c] X.env = (false, eval a X.env) :: starEach [b, c] X.env := by rfl) (hpl : (backTo pos (starEach [b, c] X.env)).any (·.1) = false := by rfl) : ID X W tg (.Call (.Name "range" p) [a, b, c] [] pos) (iRange3 ma) := by
  refine PI.impI (pi_range3 hg hm ha hs hpl) fun σ H R ρ S E r er p => ?_
  refine ⟨ρ, S, E, r, er, (Post.bind (R := DVs X.K) p).imp fun vs H1 ⟨ρ1, S1, ds, r1, e1, d1, p1⟩ => ?_⟩
  unfold int3 at p1
  split at p1
  · rename_i i j c q
    split at q
    · cases q
      have e : vs = [.int i, .int j, .int c] := by
        simp only [DVs, DV] at d1
        obtain ⟨v, r, rfl, rfl, w, q, rfl, rfl, u, t, rfl, rfl, rfl⟩ := d1
        rfl
      subst e
      by_cases hj : rgOk i j c
      · rw [if_pos hj] at p1
        exact ⟨i, j, c, _, rfl, hj, p1 ρ1 H1 _ r1 Ext.refl walks_rangeC⟩
      · rw [if_neg hj] at p1; exact p1.elim
    · cases q
  · exact p1.elim
open Classical in
theorem a_range3 {a : MA} {E : Evn} {S : Sto} : iRange3 a E S = (a E S).bind fun ds S1 => (match int3 ds with
  | some (i, j, c) => if rgOk i j c then .ok ⟨rngC i c (rgN i j c), none⟩ S1 else .bad
  | none => .bad) := rfl
theorem a_int3 {i j k : Int} : int3 [.int i, .int j, .int k] = some (i, j, k) := rfl
end
end PD
namespace PD
open PySem PySem.Spec PyProof PyProof.Rows L2
section
variable {S : Sto}
theorem g_ixLoc {n : Nat} {i : Int} : gIx S (.loc n) (.int i) = (match S[n]? with
  | some (.lst xs) => atD xs i
  | _ => none) := by
  simp only [gIx, seqF]
  cases S[n]? with
  | none => rfl
  | some o => cases o <;> rfl
theorem g_lenLoc' {n : Nat} : gLen S [.loc n] = (match S[n]? with
  | some (.lst xs) => some (.int xs.length)
  | _ => none) := by
  simp only [gLen, seqF]
  cases S[n]? with
  | none => rfl
  | some o => cases o <;> rfl
theorem ixD_0 {n : Nat} : ixD (n + 1) 0 = some 0 := rfl
theorem ixD_1 {n : Nat} : ixD (n + 2) 1 = some 1 := by unfold ixD; simp
theorem ixD_2 {n : Nat} : ixD (n + 3) 2 = some 2 := by unfold ixD; simp
theorem ixD_3 {n : Nat} : ixD (n + 4) 3 = some 3 := by unfold ixD; simp
theorem ixD_l1 {a b c d : D} {x : D} : ixD [a, b, c, d].length 1 = some 1 := rfl
end
end PD

/-! PyE4: str.replace, where a token is out. -/
namespace PD
open PySem PySem.Spec PyProof PyProof.Rows L2
section
variable {X : Cx} {W : WW X.K} {pos : Pos}
/-- the same judgements where a token is out -/
def EDT (X : Cx) (W : WW X.K) (e : Expr) (m : ME) : Prop := PET X e (tE X.K W m)
def ADT (X : Cx) (W : WW X.K) (es : List Expr) (m : MA) : Prop := PAT X es (tA X.K W m)
def PTT (X : Cx) (e : Expr) (t : TT) : Prop :=
  ∀ (pins : List (Addr × Obj)) (s : Shared) (σ : L2.St) (H : Hp) (Q : Bool → Hp → Prop), 1 ≤ s.toks → Inv X pins σ H s → t σ H Q → wpAny (model X.prog X.w) X.A (isTrue e X.env (eval e X.env)) (TP X pins σ Q) X.xe s
def PWT (X : Cx) (e : Expr) (t : TT) : Prop :=
  ∀ (whole : Sem Value) (pins : List (Addr × Obj)) (s : Shared) (σ : L2.St) (H : Hp) (Q : Bool → Hp → Prop), 1 ≤ s.toks → Inv X pins σ H s → t σ H Q → wpAny (model X.prog X.w) X.A (isTrue e X.env whole) (TP X pins σ Q) X.xe s
def TDT (X : Cx) (W : WW X.K) (e : Expr) (m : MT) : Prop := PTT X e (tT X.K W m)
def WDT (X : Cx) (W : WW X.K) (e : Expr) (m : MT) : Prop := PWT X e (tT X.K W m)
def SDT (X : Cx) (W : WW X.K) (st : Stmt) (m : MS) : Prop := PST X st (tS X.K W m)
def BDT (X : Cx) (W : WW X.K) (st : List Stmt) (m : MS) : Prop := PSsT X st (tS X.K W m)
theorem PET.imp {e : Expr} {t t' : TE} (h : PET X e t) (i : ∀ σ H Q, t' σ H Q → t σ H Q) : PET X e t' := fun pins s σ H Q h0 I q => h pins s σ H Q h0 I (i _ _ _ q)
theorem PAT.imp {e : List Expr} {t t' : TA} (h : PAT X e t) (i : ∀ σ H Q, t' σ H Q → t σ H Q) : PAT X e t' := fun pos pins s σ H Q h0 I q => h pos pins s σ H Q h0 I (i _ _ _ q)
theorem PTT.imp {e : Expr} {t t' : TT} (h : PTT X e t) (i : ∀ σ H Q, t' σ H Q → t σ H Q) : PTT X e t' := fun pins s σ H Q h0 I q => h pins s σ H Q h0 I (i _ _ _ q)
theorem PWT.imp {e : Expr} {t t' : TT} (h : PWT X e t) (i : ∀ σ H Q, t' σ H Q → t σ H Q) : PWT X e t' := fun wh pins s σ H Q h0 I q => h wh pins s σ H Q h0 I (i _ _ _ q)
theorem PST.imp {e : Stmt} {t t' : TS} (h : PST X e t) (i : ∀ D σ H, t' D σ H → t D σ H) : PST X e t' := fun pins s σ H D h0 I q => h pins s σ H D h0 I (i _ _ _ q)
theorem PSsT.imp {e : List Stmt} {t t' : TS} (h : PSsT X e t) (i : ∀ D σ H, t' D σ H → t D σ H) : PSsT X e t' := fun pins s σ H D h0 I q => h pins s σ H D h0 I (i _ _ _ q)
theorem edt {e : Expr} {m : ME} (h : ED X W e m) : EDT X W e m := fun pins s σ H Q _ I q => PE.run h pins s σ H Q I q
theorem sdt {e : Stmt} {m : MS} (h : SD X W e m) : SDT X W e m := fun pins s σ H Q _ I q => PS.run h pins s σ H Q I q
theorem bdt {e : List Stmt} {m : MS} (h : BD X W e m) : BDT X W e m := fun pins s σ H Q _ I q => PSs.run h pins s σ H Q I q
/-! replace of written texts -/
def replOk (a z : Tx) : Prop := a.length + (a.length + 1) * z.length ≤ 16777216
open Classical in
noncomputable def mRepl (y z : Tx) (o : ME) : ME := fun E S => (o E S).bind fun x S1 => match x with
  | .str a => if replOk a z then .ok (.str (StrLaws.replL y z a)) S1 else .bad
  | _ => .bad
theorem repl_read {to : TE} {y z : Tx} {mo : ME} (hy : y ≠ []) : ∀ σ H Q, tE X.K W (mRepl y z mo) σ H Q → CwR.tReplC (tE X.K W mo) ⟨y.toArray⟩ ⟨z.toArray⟩ σ H Q := by
  rintro σ H Q ⟨ρ, S, E, r, er, p⟩
  refine ⟨ρ, S, E, r, er, (Post.bind (R := DV X.K) p).imp fun x H1 ⟨ρ1, S1, d, r1, e1, d1, p1⟩ => ?_⟩
  cases d with
  | str a =>
    simp only at p1
    by_cases h : replOk a z
    · rw [if_pos h] at p1
      rw [dv_str] at d1; subst d1
      refine ⟨_, rfl, by rw [sv_len, sv_len]; exact h, ?_⟩
      have e : Txt.replace ⟨a.toArray⟩ ⟨y.toArray⟩ ⟨z.toArray⟩ = ⟨(StrLaws.replL y z a).toArray⟩ := by
        refine TL.ext_tl ?_
        exact StrLaws.replace_list (x := ⟨a.toArray⟩) (y := ⟨y.toArray⟩) (z := ⟨z.toArray⟩) (by rw [sv_len]; cases y with | nil => exact absurd rfl hy | cons c r => simp)
      rw [e]
      exact post_str r1 p1
    · rw [if_neg h] at p1; exact p1.elim
  | _ => exact p1.elim
variable {o e : Expr} {es : List Expr} {mo m : ME} {ms : MA} {apos c0 c1 : Pos} {j k : Nat} {ys zs : Str} {y z : Tx}
theorem edt_repl (ho : ED X W o mo) (ey : ys = ⟨y.toArray⟩) (ez : zs = ⟨z.toArray⟩) (hy : y ≠ []) (hyz : (ys == zs) = false := by decide)
    (hst : starEach [.Constant (.str ys) j c0, .Constant (.str zs) k c1] X.env = [(false, eval (.Constant (.str ys) j c0) X.env), (false, eval (.Constant (.str zs) k c1) X.env)] := by rfl)
    (hbase : attributeBase o "replace" X.env (eval o X.env) = eval o X.env := by rfl) (hline : (apos.endLine == pos.line) = true := by rfl) :
    EDT X W (.Call (.Attribute o "replace" apos) [.Constant (.str ys) j c0, .Constant (.str zs) k c1] [] pos) (mRepl y z mo) := by
  subst ey ez
  exact PET.imp (CwR.pet_replC ho hyz hst hbase hline) (repl_read (to := tE X.K W mo) hy)
theorem edt_replT (ho : EDT X W o mo) (ey : ys = ⟨y.toArray⟩) (ez : zs = ⟨z.toArray⟩) (hy : y ≠ []) (hyz : (ys == zs) = false := by decide)
    (hst : starEach [.Constant (.str ys) j c0, .Constant (.str zs) k c1] X.env = [(false, eval (.Constant (.str ys) j c0) X.env), (false, eval (.Constant (.str zs) k c1) X.env)] := by rfl)
    (hbase : attributeBase o "replace" X.env (eval o X.env) = eval o X.env := by rfl) (hline : (apos.endLine == pos.line) = true := by rfl) :
    EDT X W (.Call (.Attribute o "replace" apos) [.Constant (.str ys) j c0, .Constant (.str zs) k c1] [] pos) (mRepl y z mo) := by
  subst ey ez
  exact PET.imp (CwR.pet_replT ho hyz hst hbase hline) (repl_read (to := tE X.K W mo) hy)
/-! rows, built-ins, comparisons, tests -/
theorem adt_nil : ADT X W [] mNil := fun pos pins s σ H Q _ I q => PA.run ad_nil pos pins s σ H Q I q
theorem adt_cons (h : EDT X W e m) (hr : ADT X W es ms) (hs : starEach (e :: es) X.env = (false, eval e X.env) :: starEach es X.env := by rfl) : ADT X W (e :: es) (mCons m ms) := by
  refine PAT.imp (pat_cons h hr hs) fun σ H Q ⟨ρ, S, E, r, er, p⟩ => ?_
  refine ⟨ρ, S, E, r, er, (Post.bind (R := DV X.K) p).imp fun x H1 ⟨ρ1, S1, d, r1, e1, d1, p1⟩ => ?_⟩
  refine ⟨ρ1, S1, E, r1, er.mono e1, (Post.bind (R := DVs X.K) p1).imp fun xs H2 ⟨ρ2, S2, ds, r2, e2, d2, p2⟩ => ?_⟩
  exact p2 ρ2 H2 (x :: xs) r2 Ext.refl (by simp only [DVs]; exact ⟨x, xs, rfl, DV.mono e2 _ _ d1, d2⟩)
theorem edt_callB {x : Str} {id : String} {r : List V → Hp → VK → Prop} {g : Sto → List D → Option D} {p : Pos} (hc : CallR X (.builtin id) r) (hr : ∀ vs H Q, rPB X.K g vs H Q → r vs H Q) (hg : Gl X x) (hm : X.mg x = none) (hv : bootBuiltins x = some (.builtin id)) (ha : ADT X W (e :: es) ms)
    (hn : x ≠ "__name__" := by decide) (hdb : (x == ("__debug__" : Str)) = false := by decide) (he : starEach (e :: es) X.env = (false, eval e X.env) :: starEach es X.env := by rfl) (hpl : (backTo pos (starEach es X.env)).any (·.1) = false := by rfl) :
    EDT X W (.Call (.Name x p) (e :: es) [] pos) (mB g ms) := by
  intro pins s σ H Q h0 I h
  obtain ⟨ρ, S, E, re, er, p⟩ := h
  have h := b_read (W := W) (ms := ms) hr σ H Q ρ S E re er p
  refine wpAny_Call_Name_kw (ld_blt I hg hm hv ?_ hn hdb)
  exact PyProof.Rows.callWith_builtin1 (thn (ha pos pins s σ H _ h0 I h) fun us s1 ⟨vs, H1, I1, r1, q1⟩ => hc pins s1 σ H1 vs us Q I1 r1 q1) he hpl
variable {a b : Expr} {ma mb : ME} {g : Sto → D → D → Option D} {rest : List Expr} {ta tb : MT}
theorem tdt_cmp {op : CmpOp} {r : R2} (ho : OpR X (compareOp op) r) (hr : ∀ x y H Q, rP X.K g x y H Q → r x y H Q) (ha : EDT X W a ma) (hb : ED X W b mb) (hm : behindInMarks op b = false) : TDT X W (.Compare a [op] [b] pos) (asB (mBin g ma mb)) := by
  intro pins s σ H Q h0 I h
  obtain ⟨ρ, S, E, re, er, p⟩ := h
  have h := asB_read (W := W) (m := mBin g ma mb) (t := tOp r (tE X.K W ma) (tE X.K W mb)) (fun σ H Q ⟨ρ, S, E, r, er, p⟩ => bin_read hr σ H Q ρ S E r er p) σ H Q ρ S E re er p
  refine wpAny_isTrue_Compare1 (thn (ha pins s σ H _ h0 I h) fun v s1 ⟨x, H1, I1, r1, q1⟩ => thn (PE.run hb pins s1 σ H1 _ I1 q1) fun u s2 ⟨y, H2, I2, r2, q2⟩ =>
    thn (ho pins s2 σ H2 x y v u _ I2 r1 r2 q2) fun c s3 ⟨z, H3, I3, r3, k, e, q3⟩ => ?_) hm
  subst e
  cases r3
  exact wpAny_truthy_bool ⟨H3, I3, q3⟩
theorem wdt_and (ha : TDT X W a ta) (hb : WD X W (.BoolOp .And (b :: rest) pos) tb) : WDT X W (.BoolOp .And (a :: b :: rest) pos) (mAnd ta tb) := by
  intro wh pins s σ H Q h0 I h
  obtain ⟨ρ, S, E, re, er, p⟩ := h
  have h := and_read (W := W) (ta := ta) (tb := tb) σ H Q ρ S E re er p
  refine isTrue_and (thn (ha pins s σ H _ h0 I h) fun c s1 ⟨H1, I1, q1⟩ => ?_)
  cases c with
  | true => exact PW.run hb wh pins s1 σ H1 Q I1 q1
  | false => exact ⟨H1, I1, q1⟩
theorem tdt_w (h : WDT X W a ta) : TDT X W a ta := h _
theorem sdt_if {c : Expr} {a b : List Stmt} {mc : MT} {ma mb : MS} (hc : TDT X W c mc) (ha : BD X W a ma) (hb : BD X W b mb) : SDT X W (.If c a b pos) (mIf mc ma mb) := by
  intro pins s σ H D h0 I h
  obtain ⟨ρ, S, E, r, er, p⟩ := h
  have h : tIfS (tT X.K W mc) (tS X.K W ma) (tS X.K W mb) D σ H := by
    refine ⟨ρ, S, E, r, er, (SPost.bind (R := fun _ _ (b c : Bool) => b = c) er p).imp fun x H1 ⟨ρ1, S1, d, r1, e1, d1, p1⟩ => ?_⟩
    subst d1
    cases d with
    | true => rw [if_pos rfl] at p1 ⊢; exact ⟨ρ1, S1, E, r1, er.mono e1, p1⟩
    | false => rw [if_neg (by simp)] at p1 ⊢; exact ⟨ρ1, S1, E, r1, er.mono e1, p1⟩
  refine wpAny_If (thn (hc pins s σ H _ h0 I h) fun d s1 ⟨H1, I1, q1⟩ => ?_)
  cases d with
  | true => exact PSs.run ha pins s1 σ H1 D I1 q1
  | false => exact PSs.run hb pins s1 σ H1 D I1 q1
theorem seq_read {a b : MS} : ∀ D σ H, tS X.K W (mSeq a b) D σ H → tSeq (tS X.K W a) (tS X.K W b) D σ H := by
  rintro D σ H ⟨ρ, S, E, r, er, p⟩
  refine ⟨ρ, S, E, r, er, ?_⟩
  unfold mSeq at p
  cases q : a E S with
  | nx E' S' =>
    rw [q] at p
    exact fun ρ' H' σ' r' e' er' => ⟨ρ', S', E', r', er', p.start e'⟩
  | rt d S' => rw [q] at p; exact p
  | bk E' S' => rw [q] at p; exact p
  | ct E' S' => rw [q] at p; exact p
  | ex e E' S' => rw [q] at p; exact p
  | bad => rw [q] at p; exact p
theorem bdt_cons {st : Stmt} {rest : List Stmt} {a b : MS} (h1 : SDT X W st a) (h2 : BDT X W rest b) : BDT X W (st :: rest) (mSeq a b) := PSsT.imp (psst_cons h1 h2) seq_read
theorem bdt_one {st : Stmt} {a : MS} (h1 : SDT X W st a) : BDT X W [st] a := by
  refine PSsT.imp (CwR.psst_one h1) fun D σ H ⟨ρ, S, E, r, er, p⟩ => ⟨ρ, S, E, r, er, ?_⟩
  cases q : a E S with
  | nx E' S' => rw [q] at p; exact fun ρ' H' σ' r' e' er' => p ρ' H' σ' r' e' er'
  | rt d S' => rw [q] at p; exact p
  | bk E' S' => rw [q] at p; exact p
  | ct E' S' => rw [q] at p; exact p
  | ex e E' S' => rw [q] at p; exact p
  | bad => rw [q] at p; exact p
theorem for_read {mi : MI} {g : MG} {mb : MS} : ∀ D σ H, tS X.K W (mFor mi g mb) D σ H → tFor (tI X.K W mi) (tG X.K W g) (tS X.K W mb) D σ H := by
  rintro D σ H ⟨ρ, S, E, r, er, p⟩
  refine ⟨ρ, S, E, r, er, (SPost.bind (R := Walks X.K) er p).imp fun J H1 ⟨ρ1, S1, i, r1, e1, w1, p1⟩ => ?_⟩
  refine ⟨fun n m σ2 H2 => m = i.items.length - n ∧ n ≤ i.items.length ∧ ∃ ρ2 S2 E2, Rel X.K ρ2 S2 H2 ∧ Ext X.K ρ1 H1 ρ2 H2 ∧ ER X.K W ρ2 H2 E2 σ2 ∧ SPost X.K W ρ2 H2 D (forD i.chk g mb (i.items.drop n) E2 S2),
    ⟨_, rfl, Nat.zero_le _, ρ1, S1, E, r1, Ext.refl, er.mono e1, by simpa using p1⟩, ?_⟩
  rintro n m σ2 H2 ⟨rfl, hn, ρ2, S2, E2, r2, e2, er2, p2⟩
  have hck : chkOk i.chk S2 := Classical.byContradiction fun z => by
    cases q : i.items.drop n with
    | nil => rw [q, forD, if_neg z] at p2; exact p2
    | cons x rr => rw [q, forD, if_neg z] at p2; exact p2
  obtain ⟨w2, w3⟩ := w1 ρ2 S2 H2 r2 e2 hck
  by_cases hlt : n < i.items.length
  · right
    have hd : i.items[n]? = some i.items[n] := List.getElem?_eq_getElem hlt
    obtain ⟨go, yl⟩ := w2 n _ hd
    refine ⟨go, fun σ' H' => n + 1 ≤ i.items.length ∧ ∃ ρ3 S3 E3, Rel X.K ρ3 S3 H' ∧ Ext X.K ρ1 H1 ρ3 H' ∧ ER X.K W ρ3 H' E3 σ' ∧ SPost X.K W ρ3 H' D (forD i.chk g mb (i.items.drop (n + 1)) E3 S3), fun σ' H' ⟨h1, h2⟩ => ⟨i.items.length - (n + 1), by omega, rfl, h1, h2⟩, fun x H3 hy => ?_⟩
    obtain ⟨r3, e3, d3⟩ := yl x H3 hy
    rw [drop_cons_of hd, forD, if_pos hck] at p2
    refine ⟨ρ2, S2, E2, _, r3, er2.mono e3, d3, (SPost.bind (R := ER X.K W) (er2.mono e3) (p2.start e3)).imp fun σ4 H4 ⟨ρ4, S4, E4, r4, e4, er4, p4⟩ => ?_⟩
    refine ⟨ρ4, S4, E4, r4, er4, ?_⟩
    have ee := (e2.trans e3).trans e4
    cases q : mb E4 S4 with
    | nx E5 S5 => rw [q] at p4; exact fun ρ' H' σ' r' e' er' => ⟨hlt, ρ', S5, E5, r', ee.trans e', er', p4.start e'⟩
    | ct E5 S5 => rw [q] at p4; exact fun ρ' H' σ' r' e' er' => ⟨hlt, ρ', S5, E5, r', ee.trans e', er', p4.start e'⟩
    | bk E5 S5 => rw [q] at p4; exact p4
    | rt d S5 => rw [q] at p4; exact p4
    | ex e E5 S5 => rw [q] at p4; exact p4
    | bad => rw [q] at p4; exact p4
  · left
    have hn2 : n = i.items.length := by omega
    subst hn2
    rw [List.drop_length, forD, if_pos hck] at p2
    exact ⟨w3, p2 ρ2 H2 σ2 r2 Ext.refl er2⟩
theorem pst_for {tg iter : Expr} {body : List Stmt} {wi : TI} {g : TG} {tb : TS} (hp : PassesOwn (model X.prog X.w) X.A X.env X.xe) (hc : X.calm = true) (hi : PI X tg iter wi) (hg : PG X tg g) (hb : PSsT X body tb)
    (hs : ∀ x, foldedSetIterable iter X.env x = pure x := by intro _; rfl) : PST X (.For tg iter body [] pos) (tFor wi g tb) := by
  intro pins s σ H D h0 I h
  refine wpAny_For (wpAny_mono (PySem.wpAny_toks_of h0 (hi.run pins s σ H _ I h)) (fun v s1 ⟨k1, h1⟩ => wpAny_mono (PySem.wpAny_toks_of k1 h1) (fun itv s2 ⟨k2, h2⟩ => ?_) fun _ _ z => z.2) fun _ _ z => z.2) hs
  obtain ⟨it, fp, tn, J, H2, e, I2, T, st2, f2, W, ⟨m0, w0⟩, turn⟩ := h2
  subst e
  have stat : ∀ {H' : Hp}, (∀ b ∈ fp, H' b = none) → ∀ b ∈ fp, FpOk X pins H' b := fun hn b hb => ⟨hn b hb, (f2 b hb).2⟩
  refine codeAny_forLoop_any (fun n s' => 1 ≤ s'.toks ∧ ∃ i σ' H', Inv X pins σ' H' s' ∧ tn i s'.heap ∧ (∀ b ∈ fp, H' b = none) ∧ W i n σ' H') ?_ m0 ⟨k2, 0, σ, H2, I2, st2, fun b hb => (f2 b hb).1, w0⟩
  rintro n s3 ⟨k3, i, σ3, H3, I3, st3, fr3, w3⟩
  rcases turn i n σ3 H3 w3 with ⟨stop, qn⟩ | ⟨go, N, hN, step⟩
  · refine wpAny_passesOwn hp (thn (T.done X rfl rfl rfl hc i pins s3 σ3 H3 X.xe I3 (stat fr3) st3 stop) fun r s4 ⟨hr, I4⟩ => ?_)
    subst hr
    exact wpAny_execs_nil ⟨σ3, H3, I4, qn⟩
  · refine wpAny_passesOwn hp (wpAny_mono (PySem.wpAny_toks_of k3 (T.item X rfl rfl rfl hc i pins s3 σ3 H3 X.xe I3 (stat fr3) st3 go)) (fun r s4 ⟨k4, u, hr, h4⟩ => ?_) fun _ _ z => z.2)
    subst hr
    refine wpAny_passesOwn hp (wpAny_mono (PySem.wpAny_toks_of k4 h4) (fun _ s5 ⟨k5, x, H5, I5, r5, y5, st5, fr5⟩ => ?_) fun _ _ z => z.2)
    have I5' := I5.pinned (stat fr5) (T.obj _ _ st5)
    refine wpAny_passesOwn hp (wpAny_mono (PySem.wpAny_toks_of k5 (hg.run _ s5 σ3 H5 x u _ I5' r5 (step x H5 y5))) (fun _ s6 ⟨k6, σ6, H6, I6, q6⟩ => ?_) fun _ _ z => z.2)
    refine wpAny_passesOwn hp (wpAny_mono (PySem.wpAny_toks_of k6 (hb _ s6 σ6 H6 _ k6 I6 q6)) (fun f s7 ⟨k7, q7⟩ => ?_) fun _ _ z => z.2)
    have again : ∀ {σ7 : L2.St} {H7 : Hp}, Inv X (pins ++ pinsAt fp s5.heap) σ7 H7 s7 → N σ7 H7 → ∃ m, m < n ∧ 1 ≤ s7.toks ∧ ∃ i σ' H', Inv X pins σ' H' s7 ∧ tn i s7.heap ∧ (∀ b ∈ fp, H' b = none) ∧ W i m σ' H' := fun {σ7 H7} I7 n7 => by
      obtain ⟨m', hm, w7⟩ := hN σ7 H7 n7
      refine ⟨m', hm, k7, i + 1, σ7, H7, I7.unpinned, T.keep _ _ _ st5 fun b hb o e => (I7.pin (b, o) (List.mem_append_right _ (List.mem_append_right _ (mem_pinsAt hb e)))).1, fun b hb => ?_, w7⟩
      obtain ⟨o, e, d⟩ := T.obj _ _ st5 b hb
      exact (I7.pin (b, o) (List.mem_append_right _ (List.mem_append_right _ (mem_pinsAt hb e)))).2.1
    cases f with
    | next => obtain ⟨σ7, H7, I7, n7⟩ := q7; exact again I7 n7
    | cont => obtain ⟨σ7, H7, I7, n7⟩ := q7; exact again I7 n7
    | brk => obtain ⟨σ7, H7, I7, q7⟩ := q7; exact ⟨σ7, H7, I7.unpinned, q7⟩
    | ret v => obtain ⟨x7, σ7, H7, I7, r7, q7⟩ := q7; exact ⟨x7, σ7, H7, I7.unpinned, r7, q7⟩
theorem sdt_for {tg it : Expr} {body : List Stmt} {mi : MI} {g : MG} {mb : MS} (hp : PassesOwn (model X.prog X.w) X.A X.env X.xe) (hc : X.calm = true) (hi : ID X W tg it mi) (hg : GD X W tg g) (hb : BDT X W body mb)
    (hs : ∀ x, foldedSetIterable it X.env x = pure x := by intro _; rfl) : SDT X W (.For tg it body [] pos) (mFor mi g mb) := PST.imp (pst_for hp hc hi hg hb hs) for_read
/-! what gives out a token -/
def EK (X : Cx) (e : Expr) (t : TE) : Prop :=
  ∀ (pins : List (Addr × Obj)) (s : Shared) (σ : L2.St) (H : Hp) (Q : VK), Inv X pins σ H s → t σ H Q → wpAny (model X.prog X.w) X.A (eval e X.env) (fun v s1 => 1 ≤ s1.toks ∧ EP X pins σ Q v s1) X.xe s
structure EKD (X : Cx) (W : WW X.K) (e : Expr) (m : ME) : Prop where
  run : EK X e (tE X.K W m)
theorem ekd_str {x : Str} {j : Nat} {c : Tx} (hc : x = ⟨c.toArray⟩) : EKD X W (.Constant (.str x) j pos) (mC (.str c)) := by
  refine ⟨?_⟩
  rintro pins s σ H Q I ⟨ρ, S, E, r, er, p⟩
  refine Calls.Constant_str ⟨by show 1 ≤ s.toks + 1; omega, .str x, H, I.tok _, ⟨_, rfl⟩, p ρ H _ r Ext.refl (by simp [DV, sv, hc])⟩
/-- a statement whose value gives out a token -/
theorem bd_tok {i : Nat} {x : Str} {e : Expr} {m : ME} {rest : List Stmt} {b : MS} {pos' : Pos} (hN : X.N.Nodup) (hi : X.N[i]? = some x) (hx : Loc X.env.scope x) (he : EKD X W e m) (h2 : BDT X W rest b) (hw : W.fix = none)
    (hs : swapsWith e (some (.Name x pos')) pos.line X.env = pure false := by rfl) (hf : X.fn x = true ∨ X.env.scope.names.lookup x = some .local := by first | exact .inl rfl | exact .inr rfl | assumption) :
    BD X W (.Assign [.Name x pos'] e pos :: rest) (mSeq (mSet i m) b) := by
  refine ⟨fun pins s σ H D I h => ?_⟩
  have h := seq_read D σ H h
  have h : tAsg (tE X.K W m) (gName i) { D with nx := tS X.K W b D } σ H := by
    obtain ⟨ρ, S, E, r, er, p⟩ := h
    refine ⟨ρ, S, E, r, er, (SPost.bind (R := DV X.K) er p).imp fun x H1 ⟨ρ1, S1, d, r1, e1, d1, p1⟩ => ?_⟩
    exact p1 ρ1 H1 _ r1 Ext.refl ((er.mono e1).set hw i d1)
  refine wpAny_execs_cons (wpAny_Assign_Name (thn (he.run pins s σ H _ I h) fun v s1 ⟨k1, y, H1, I1, r1, q1⟩ => ?_) hs)
  refine wpAny_mono (PySem.wpAny_toks_of k1 (store_ok (v := y) (u := v) (Q := fun _ s2 => Inv X pins (σ.set i (some y)) H1 s2) I1 hN hi hx r1 (fun _ I2 => I2) hf)) (fun _ s2 q => ?_) fun _ _ z => z.2
  exact h2 pins s2 _ H1 D q.1 q.2 q1
/-- a row whose first gives out a token -/
theorem ekd_lst {e : Expr} {es : List Expr} {m : ME} {ms : MA} (h : EKD X W e m) (hr : AD X W es ms) (hs : starEach (e :: es) X.env = (false, eval e X.env) :: starEach es X.env := by rfl) : EKD X W (.List (e :: es) pos) (mLst (mCons m ms)) := by
  refine ⟨?_⟩
  rintro pins s σ H Q I ⟨ρ, S, E, r0, er, p⟩
  have hq : tE X.K W m σ H fun x H1 => tA X.K W ms σ H1 fun xs H2 => (x :: xs).length ≤ sizeLine ∧ ∀ q, H2 q = none → Q (.ref q) (upd H2 q (.lst (x :: xs))) := by
    have p2 := Post.bind (R := DVs X.K) p
    refine ⟨ρ, S, E, r0, er, (Post.bind (R := DV X.K) p2).imp fun x H1 ⟨ρ1, S1, d, r1, e1, d1, p3⟩ => ?_⟩
    refine ⟨ρ1, S1, E, r1, er.mono e1, (Post.bind (R := DVs X.K) p3).imp fun xs H2 ⟨ρ2, S2, ds, r2, e2, d2, p4⟩ => ?_⟩
    obtain ⟨ρ3, S3, dd, r3, e3, d3, p5⟩ := p4 ρ2 H2 (x :: xs) r2 Ext.refl (by simp only [DVs]; exact ⟨x, xs, rfl, DV.mono e2 _ _ d1, d2⟩)
    by_cases hl : PD.sizeOk dd.length
    · rw [if_pos hl] at p5
      exact ⟨by rw [← d3.length]; exact hl, fun q hq => p5 ρ3 _ _ (r3.new hq) (Ext.new hq) (dv_lst hq (r3.notin hq) d3)⟩
    · rw [if_neg hl] at p5; exact p5.elim
  refine wpAny_List_spliced ?_
  rw [hs]
  show wpAny _ _ (spliced ((false, eval e X.env) :: backTo pos (starEach es X.env))) _ _ s
  refine Calls.spliced_cons (thn (h.run pins s σ H _ I hq) fun v s1 ⟨k1, x, H1, I1, r1, q1⟩ => ?_)
  refine wpAny_mono (PySem.wpAny_toks_of k1 (PA.run hr pos pins s1 σ H1 _ I1 q1)) (fun us s2 ⟨k2, xs, H2, I2, r2, z, q2⟩ => ?_) fun _ _ z => z.2
  have hl : (v :: us).length = (x :: xs).length := by simp [r2.length]
  refine ⟨by rw [hl]; exact z, k2, ?_⟩
  have hf : H2 s2.heap.objs.size = none := I2.hok.fresh (Nat.le_refl _)
  refine ⟨.ref s2.heap.objs.size, upd H2 s2.heap.objs.size (.lst (x :: xs)), I2.laid (t' := s2.toks) (fun b u e => Heap.get?_push_of_some _ e) (Nat.le_refl _) ?_, rfl, q2 _ hf⟩
  exact ⟨z, v :: us, 0, .cons r1 r2, Heap.get?_push_size _ rfl⟩
end
end PD

/-! PyF0: weakest preconditions of the meanings, by rewriting; what is left are conditions, loops, calls. -/
namespace PD
open PySem PySem.Spec PyProof PyProof.Rows L2
abbrev EC := Evn → Sto → Prop
/-- a mark: what it names is left alone by simp -/
inductive Tg {α : Type} {β : Type} (Q : α) (X : β) : Type where
  | mk
def OkO {α : Type} (o : Out α) (Q : α → Sto → Prop) (X : Exn → Sto → Prop) (_u : Tg Q X := .mk) : Prop := match o with
  | .ok a S => Q a S
  | .ex e S => X e S
  | .bad => False
def OkP {α : Type} (o : Option α) (Q : α → Prop) (_u : Tg Q Q := .mk) : Prop := match o with
  | some d => Q d
  | none => False
def OkV (o : Option (Option D)) (Q : D → Prop) (_u : Tg Q Q := .mk) : Prop := match o with
  | some (some d) => Q d
  | _ => False
def OkI (b : Bool) (P P' : Prop) : Prop := (b = true → P) ∧ (b = false → P')
def OkB (d : D) (Q : Bool → Prop) (_u : Tg Q Q := .mk) : Prop := match d with
  | .bl b => Q b
  | _ => False
def OkT (o : Option Ob) (Q : List D → Prop) (_u : Tg Q Q := .mk) : Prop := match o with
  | some (.lst l) => Q l
  | _ => False
def OkLoc (d : D) (Q : Nat → Prop) (_u : Tg Q Q := .mk) : Prop := match d with
  | .loc n => Q n
  | _ => False
def OkStr (d : D) (Q : Tx → Prop) (_u : Tg Q Q := .mk) : Prop := match d with
  | .str n => Q n
  | _ => False
def OkInt (d : D) (Q : Int → Prop) (_u : Tg Q Q := .mk) : Prop := match d with
  | .int n => Q n
  | _ => False
def OkTup (d : D) (Q : List D → Prop) (_u : Tg Q Q := .mk) : Prop := match d with
  | .tup n => Q n
  | _ => False
/-- a thing that simp leaves alone -/
def Hid (P : Prop) (_u : Tg P P := .mk) : Prop := P
theorem hid {P : Prop} (h : P) : Hid P := h
def OkN {β : Type} (x : β) (f : β → Prop) (_u : Tg f f := .mk) : Prop := f x
def OkS (o : SO) (N : EC) (R : D → Sto → Prop) (X : Exn → EC) (B C : EC) (_u : Tg N R := .mk) (_v : Tg X B := .mk) (_w : Tg C C := .mk) : Prop := match o with
  | .nx E S => N E S
  | .rt d S => R d S
  | .bk E S => B E S
  | .ct E S => C E S
  | .ex e E S => X e E S
  | .bad => False
section
variable {α : Type} {Q : α → Sto → Prop} {P P' : Prop} {N B C : EC} {R : D → Sto → Prop} {X : Exn → Sto → Prop} {XE : Exn → EC} {E : Evn} {S : Sto}
theorem w_n {β : Type} {x : β} {f : β → Prop} : OkN x f = f x := rfl
theorem w_ok {a : α} : OkO (.ok a S) Q X = Q a S := rfl
theorem w_ex {e : Exn} : OkO (.ex e S : Out α) Q X = X e S := rfl
theorem w_bad : OkO (.bad : Out α) Q X = False := rfl
theorem w_ite {c : Prop} {inst : Decidable c} {a b : Out α} : OkO (if c then a else b) Q X = ((c → OkO a Q X) ∧ (¬ c → OkO b Q X)) := by
  by_cases h : c <;> simp [h]
theorem w_iteoe {c : Prop} {inst : Decidable c} {a : α} {e : Exn} {S' : Sto} : OkO (if c then (.ok a S) else .ex e S') Q X = ((c → Q a S) ∧ (¬ c → X e S')) := w_ite
theorem w_iteoo {c : Prop} {inst : Decidable c} {a b : α} {S' : Sto} : OkO (if c then (.ok a S) else .ok b S') Q X = ((c → Q a S) ∧ (¬ c → Q b S')) := w_ite
theorem w_itebad {c : Prop} {inst : Decidable c} {a : Out α} : OkO (if c then a else .bad) Q X = (c ∧ OkO a Q X) := by
  by_cases h : c <;> simp [h, OkO]
theorem w_some {d : α} {Q : α → Prop} : OkP (some d) Q = Q d := rfl
theorem w_none {Q : α → Prop} : OkP none Q = False := rfl
theorem w_pite {c : Prop} {inst : Decidable c} {a b : Option α} {Q : α → Prop} : OkP (if c then a else b) Q = ((c → OkP a Q) ∧ (¬ c → OkP b Q)) := by
  by_cases h : c <;> simp [h]
theorem w_pitess {c : Prop} {inst : Decidable c} {a b : α} {Q : α → Prop} : OkP (if c then some a else some b) Q = ((c → Q a) ∧ (¬ c → Q b)) := w_pite
theorem w_pitebad {c : Prop} {inst : Decidable c} {a : Option α} {Q : α → Prop} : OkP (if c then a else none) Q = (c ∧ OkP a Q) := by
  by_cases h : c <;> simp [h, OkP]
theorem w_vsome {d : D} {Q : D → Prop} : OkV (some (some d)) Q = Q d := rfl
theorem w_itrue : OkI true P P' = P := by simp [OkI]
theorem w_ifalse : OkI false P P' = P' := by simp [OkI]
theorem dec_true {inst : Decidable True} : @decide True inst = true := by cases inst with
  | isTrue _ => rfl
  | isFalse h => exact absurd trivial h
theorem dec_false {inst : Decidable False} : @decide False inst = false := by cases inst with
  | isTrue h => exact h.elim
  | isFalse _ => rfl
theorem w_inot {b : Bool} : OkI (!b) P P' = OkI b P' P := by cases b <;> simp [OkI]
theorem w_idec {p : Prop} {inst : Decidable p} : OkI (@decide p inst) P P' = ((p → P) ∧ (¬ p → P')) := by simp [OkI]
theorem w_iall {b : Bool} : OkI b P P' = ((b = true → P) ∧ (b = false → P')) := rfl
theorem w_b {b : Bool} {Q : Bool → Prop} : OkB (.bl b) Q = Q b := rfl
theorem w_t {l : List D} {Q : List D → Prop} : OkT (some (.lst l)) Q = Q l := rfl
theorem w_loc {n : Nat} {Q : Nat → Prop} : OkLoc (.loc n) Q = Q n := rfl
theorem w_istr {n : Tx} {Q : Tx → Prop} : OkStr (.str n) Q = Q n := rfl
theorem w_iint {n : Int} {Q : Int → Prop} : OkInt (.int n) Q = Q n := rfl
theorem w_itup {n : List D} {Q : List D → Prop} : OkTup (.tup n) Q = Q n := rfl
theorem w_nx : OkS (.nx E S) N R XE B C = N E S := rfl
theorem w_rt {d : D} : OkS (.rt d S) N R XE B C = R d S := rfl
theorem w_bk : OkS (.bk E S) N R XE B C = B E S := rfl
theorem w_ct : OkS (.ct E S) N R XE B C = C E S := rfl
theorem w_sex {e : Exn} : OkS (.ex e E S) N R XE B C = XE e E S := rfl
theorem w_bind {β : Type} {o : Out α} {f : α → Sto → Out β} {Q : β → Sto → Prop} : OkO (o.bind f) Q X = OkO o (fun a S1 => OkO (f a S1) Q X) X := by
  cases o <;> rfl
theorem w_toS {o : Out α} {f : α → Sto → SO} : OkS (o.toS E f) N R XE B C = OkO o (fun a S1 => OkS (f a S1) N R XE B C) (fun e S1 => XE e E S1) := by
  cases o <;> rfl
end
section
variable {Q : D → Sto → Prop} {QB : Bool → Sto → Prop} {QL : List D → Sto → Prop} {QO : Option Int → Sto → Prop} {QE : Evn → Sto → Prop} {QI : ItD → Sto → Prop} {P P' : Prop} {N B C : EC} {R : D → Sto → Prop} {X : Exn → Sto → Prop} {XE : Exn → EC} {E : Evn} {S : Sto}
variable {a b : ME} {ma : MA} {ta tb : MT} {sa sb : MS}
theorem w_var {i : Nat} : OkO (mVar i E S) Q X = OkV E[i]? fun d => Q d S := by
  unfold mVar OkV OkO
  cases E[i]? with
  | none => rfl
  | some o => cases o <;> rfl
theorem w_c {d : D} : OkO (mC d E S) Q X = Q d S := rfl
theorem opt_ok {o : Option D} {S2 : Sto} : OkO (match o with | some d => Out.ok d S2 | none => Out.bad) Q X = OkP o fun d => Q d S2 := by cases o <;> rfl
theorem OkO_fun {α : Type} {o : Out α} {Q Q' : α → Sto → Prop} (h : ∀ a S, Q a S = Q' a S) : OkO o Q X = OkO o Q' X := by
  cases o <;> first | rfl | exact h _ _
theorem w_bin {g : Sto → D → D → Option D} : OkO (mBin g a b E S) Q X = OkO (a E S) (fun x S1 => OkO (b E S1) (fun y S2 => OkP (g S2 x y) fun d => Q d S2) X) X := by
  unfold mBin; exact w_bind.trans (OkO_fun fun _ _ => w_bind.trans (OkO_fun fun _ _ => opt_ok))
theorem w_un {g : Sto → D → Option D} : OkO (mUn g a E S) Q X = OkO (a E S) (fun x S1 => OkP (g S1 x) fun d => Q d S1) X := by
  unfold mUn; simp only [w_bind]; exact OkO_fun fun _ _ => opt_ok
theorem w_bi {g : Sto → List D → Option D} : OkO (mB g ma E S) Q X = OkO (ma E S) (fun x S1 => OkP (g S1 x) fun d => Q d S1) X := by
  unfold mB; simp only [w_bind]; exact OkO_fun fun _ _ => opt_ok
theorem w_nil : OkO (mNil E S) QL X = QL [] S := rfl
theorem w_cons : OkO (mCons a ma E S) QL X = OkO (a E S) (fun x S1 => OkO (ma E S1) (fun xs S2 => QL (x :: xs) S2) X) X := by
  unfold mCons; exact w_bind.trans (OkO_fun fun _ _ => w_bind.trans rfl)
theorem w_tup : OkO (mTup ma E S) Q X = OkO (ma E S) (fun xs S1 => sizeOk xs.length ∧ OkN (.tup xs) fun d => Q d S1) X := by
  unfold mTup; exact w_bind.trans (OkO_fun fun _ _ => w_itebad (inst := Classical.propDecidable _))
theorem w_lst : OkO (mLst ma E S) Q X = OkO (ma E S) (fun xs S1 => sizeOk xs.length ∧ OkN (.lst xs) fun d => Q d S1) X := by
  unfold mLst; exact w_bind.trans (OkO_fun fun _ _ => w_itebad (inst := Classical.propDecidable _))
theorem w_lloc : OkO (mLoc ma E S) Q X = OkO (ma E S) (fun xs S1 => sizeOk xs.length ∧ OkN (S1 ++ [.lst xs]) fun S2 => Q (.loc S1.length) S2) X := by
  unfold mLoc; exact w_bind.trans (OkO_fun fun _ _ => w_itebad (inst := Classical.propDecidable _))
theorem w_call {f : MF} : OkO (mCall f ma E S) Q X = OkO (ma E S) (fun ds S1 => OkO (f ds S1) Q X) X := by
  unfold mCall; exact w_bind
theorem w_asB : OkO (asB a E S) QB X = OkO (a E S) (fun d S1 => OkB d fun b => QB b S1) X := by
  unfold asB; simp only [w_bind]; refine OkO_fun fun d S1 => ?_; cases d <;> rfl
theorem w_and : OkO (mAnd ta tb E S) QB X = OkO (ta E S) (fun x S1 => OkI x (OkO (tb E S1) QB X) (QB false S1)) X := by
  unfold mAnd; simp only [w_bind]; refine OkO_fun fun x S1 => ?_; cases x <;> simp [OkI, w_ok]
theorem w_or : OkO (mOr ta tb E S) QB X = OkO (ta E S) (fun x S1 => OkI x (QB true S1) (OkO (tb E S1) QB X)) X := by
  unfold mOr; simp only [w_bind]; refine OkO_fun fun x S1 => ?_; cases x <;> simp [OkI, w_ok]
theorem w_not : OkO (mNot ta E S) QB X = OkO (ta E S) (fun x S1 => QB (!x) S1) X := by
  unfold mNot; exact w_bind
theorem w_andV : OkO (mAndV a b E S) Q X = OkO (a E S) (fun x S1 => OkB x fun k => OkI k (OkO (b E S1) Q X) (Q (.bl false) S1)) X := by
  unfold mAndV; simp only [w_bind]; refine OkO_fun fun x S1 => ?_
  cases x with
  | bl k => cases k <;> simp [OkB, OkI, w_ok]
  | _ => rfl
theorem w_orV : OkO (mOrV a b E S) Q X = OkO (a E S) (fun x S1 => OkB x fun k => OkI k (Q (.bl true) S1) (OkO (b E S1) Q X)) X := by
  unfold mOrV; simp only [w_bind]; refine OkO_fun fun x S1 => ?_
  cases x with
  | bl k => cases k <;> simp [OkB, OkI, w_ok]
  | _ => rfl
theorem w_notV : OkO (mNotV a E S) Q X = OkO (a E S) (fun x S1 => OkB x fun k => Q (.bl (!k)) S1) X := by
  unfold mNotV; simp only [w_bind]; refine OkO_fun fun x S1 => ?_
  cases x with
  | bl k => rfl
  | _ => rfl
theorem w_ifE : OkO (mIfE ta a b E S) Q X = OkO (ta E S) (fun x S1 => OkI x (OkO (a E S1) Q X) (OkO (b E S1) Q X)) X := by
  unfold mIfE; simp only [w_bind]; refine OkO_fun fun x S1 => ?_; cases x <;> simp [OkI]
theorem w_sl {g : Sto → D → Option Int → Option Int → Option D} {lo hi : MO} : OkO (mSl g a lo hi E S) Q X = OkO (a E S) (fun x S1 => OkO (lo E S1) (fun l S2 => OkO (hi E S2) (fun u S3 => OkP (g S3 x l u) fun d => Q d S3) X) X) X := by
  unfold mSl; exact w_bind.trans (OkO_fun fun _ _ => w_bind.trans (OkO_fun fun _ _ => w_bind.trans (OkO_fun fun _ _ => opt_ok)))
theorem w_nopart : OkO (mNoPart E S) QO X = QO none S := rfl
theorem w_part : OkO (mPart a E S) QO X = OkO (a E S) (fun d S1 => OkInt d fun i => QO (some i) S1) X := by
  unfold mPart; simp only [w_bind]; refine OkO_fun fun x S1 => ?_; cases x <;> rfl
theorem w_gN {i : Nat} {d : D} : OkO (gN i d E S) QE X = OkN (E.set i (some d)) fun E' => QE E' S := rfl
theorem w_gT {n : Nat} {g : MGs} {d : D} : OkO (gT n g d E S) QE X = OkTup d fun xs => xs.length = n ∧ OkO (g xs E S) QE X := by
  cases d <;> first | rfl | (unfold gT OkTup; simp only [w_itebad])
theorem w_gsNil : OkO (gsNil [] E S) QE X = QE E S := rfl
theorem noex_imp {β : Type} {o : Out β} {Q : β → Sto → Prop} : OkO o.noex Q X = OkO o Q (fun _ _ => False) := by cases o <;> rfl
theorem w_gsCons {g : MG} {r : MGs} {d : D} {ds : List D} : OkO (gsCons g r (d :: ds) E S) QE X = OkO (g d E S) (fun E' S' => OkO (r ds E' S') QE fun _ _ => False) X := by
  show OkO ((g d E S).bind fun E' S' => (r ds E' S').noex) QE X = _
  exact w_bind.trans (OkO_fun fun _ _ => noex_imp)
theorem w_gI {o i : ME} {d : D} : OkO (gI o i d E S) QE X = OkO (o E S) (fun x S1 => OkO (i E S1) (fun k S2 => OkLoc x fun n => OkInt k fun k => OkT S2[n]? fun l => OkP (ixD l.length k) fun j => OkN (S2.set n (.lst (l.set j d))) fun S3 => QE E S3) X) X := by
  unfold gI; simp only [w_bind]; refine OkO_fun fun x S1 => ?_; refine w_bind.trans (OkO_fun fun k S2 => ?_)
  cases x <;> first | rfl | skip
  cases k <;> first | rfl | skip
  simp only [OkLoc, OkInt]
  rename_i n k
  cases S2[n]? with
  | none => rfl
  | some o =>
    cases o <;> first | rfl | skip
    simp only [OkT]
    rename_i l
    cases ixD l.length k <;> rfl
theorem w_sm {g : Sto → Tx → List D → Option D} {o : ME} : OkO (mSM g o ma E S) Q X = OkO (o E S) (fun x S1 => OkStr x fun z => OkO (ma E S1) (fun xs S2 => OkP (g S2 z xs) fun d => Q d S2) X) X := by
  rw [a_sm]; simp only [w_bind]; refine OkO_fun fun x S1 => ?_
  cases x <;> first | rfl | (simp only [w_bind]; exact OkO_fun fun _ _ => opt_ok)
theorem w_lm {g : GL} {o : ME} : OkO (mLM g o ma E S) Q X = OkO (o E S) (fun x S1 => OkLoc x fun n => OkT S1[n]? fun _ => OkO (ma E S1) (fun xs S2 => OkT S2[n]? fun l => OkP (g S2 l xs) fun p => OkN (S2.set n (.lst p.2)) fun S3 => Q p.1 S3) X) X := by
  rw [a_lm]; simp only [w_bind]; refine OkO_fun fun x S1 => ?_
  cases x <;> first | rfl | skip
  simp only [OkLoc]
  rename_i n
  cases S1[n]? with
  | none => rfl
  | some o =>
    cases o <;> first | rfl | skip
    simp only [OkT, w_bind]
    refine OkO_fun fun xs S2 => ?_
    cases S2[n]? with
    | none => rfl
    | some o =>
      cases o <;> first | rfl | skip
      simp only
      rename_i l
      cases g S2 l xs with
      | none => rfl
      | some p => rfl
theorem w_yes : OkO (mYes E S) QB X = QB true S := rfl
/-! statements -/
theorem w_seq : OkS (mSeq sa sb E S) N R XE B C = OkS (sa E S) (fun E' S' => OkS (sb E' S') N R XE B C) R XE B C := by
  unfold mSeq; cases sa E S <;> rfl
theorem w_skip : OkS (mSkip E S) N R XE B C = N E S := rfl
theorem w_break : OkS (mBreak E S) N R XE B C = B E S := rfl
theorem w_cont : OkS (mCont E S) N R XE B C = C E S := rfl
theorem w_if : OkS (mIf ta sa sb E S) N R XE B C = OkO (ta E S) (fun x S1 => OkI x (OkS (sa E S1) N R XE B C) (OkS (sb E S1) N R XE B C)) (fun e S1 => XE e E S1) := by
  unfold mIf; simp only [w_toS]; refine OkO_fun fun x S1 => ?_; cases x <;> simp [OkI]
theorem w_ret : OkS (mRet a E S) N R XE B C = OkO (a E S) (fun d S1 => R d S1) (fun e S1 => XE e E S1) := by
  unfold mRet; exact w_toS.trans rfl
theorem w_retN : OkS (mRetN E S) N R XE B C = R .non S := rfl
theorem w_drop : OkS (mDrop a E S) N R XE B C = OkO (a E S) (fun d S1 => N E S1) (fun e S1 => XE e E S1) := by
  unfold mDrop; exact w_toS.trans rfl
theorem w_set {i : Nat} : OkS (mSet i a E S) N R XE B C = OkO (a E S) (fun d S1 => OkN (E.set i (some d)) fun E' => N E' S1) (fun e S1 => XE e E S1) := by
  unfold mSet; exact w_toS.trans rfl
theorem w_asg {g : MG} : OkS (mAsg a g E S) N R XE B C = OkO (a E S) (fun d S1 => OkO (g d E S1) (fun E' S2 => N E' S2) (fun e S1 => XE e E S1)) (fun e S1 => XE e E S1) := by
  unfold mAsg; exact w_toS.trans (OkO_fun fun _ _ => w_toS.trans rfl)
theorem w_aug {i : Nat} {g : Sto → D → D → Option D} : OkS (mAug i g a E S) N R XE B C = OkV E[i]? fun x => OkO (a E S) (fun y S1 => OkP (g S1 x y) fun d => OkN (E.set i (some d)) fun E' => N E' S1) (fun e S1 => XE e E S1) := by
  rw [a_aug]
  cases E[i]? with
  | none => rfl
  | some o =>
    cases o with
    | none => rfl
    | some x =>
      simp only [OkV, w_toS]
      refine OkO_fun fun y S1 => ?_
      cases g S1 x y <;> rfl
theorem w_raise {e : Exn} : OkS (mRaise e E S) N R XE B C = XE e E S := rfl
theorem w_for {it : MI} {g : MG} : OkS (mFor it g sa E S) N R XE B C = OkO (it E S) (fun i S1 => OkS (forD i.chk g sa i.items E S1) N R XE B C) (fun e S1 => XE e E S1) := by
  unfold mFor; exact w_toS
/-! iterables -/
open Classical in
theorem w_range1 : OkO (iRange1 ma E S) QI X = OkO (ma E S) (fun ds S1 => OkP (int1 ds) fun j => small62 j ∧ QI ⟨rngD 0 j.toNat, none⟩ S1) X := by
  rw [a_range1]; simp only [w_bind]; refine OkO_fun fun ds S1 => ?_
  cases int1 ds with
  | none => rfl
  | some j => simp only [w_itebad, w_ok, w_some]
open Classical in
theorem w_range2 : OkO (iRange2 ma E S) QI X = OkO (ma E S) (fun ds S1 => OkP (int2 ds) fun p => (small62 p.1 ∧ small62 p.2) ∧ QI ⟨rngD p.1 (p.2 - p.1).toNat, none⟩ S1) X := by
  rw [a_range2]; simp only [w_bind]; refine OkO_fun fun ds S1 => ?_
  cases int2 ds with
  | none => rfl
  | some j => simp only [w_itebad, w_ok, w_some]
open Classical in
theorem w_range3 : OkO (iRange3 ma E S) QI X = OkO (ma E S) (fun ds S1 => OkP (int3 ds) fun p => rgOk p.1 p.2.1 p.2.2 ∧ QI ⟨rngC p.1 p.2.2 (rgN p.1 p.2.1 p.2.2), none⟩ S1) X := by
  rw [a_range3]; simp only [w_bind]; refine OkO_fun fun ds S1 => ?_
  cases int3 ds with
  | none => rfl
  | some j => simp only [w_itebad, w_ok, w_some]
/-- what a loop walks -/
def itS (S : Sto) : D → Option ItD
  | .str z => some ⟨z.map fun c => .str [c], none⟩
  | .tup xs => some ⟨xs, none⟩
  | .lst xs => some ⟨xs, none⟩
  | .fz xs => some ⟨xs, none⟩
  | .loc n => match S[n]? with
    | some (.lst xs) => some ⟨xs, some (n, xs)⟩
    | _ => none
  | _ => none
theorem w_iany : OkO (iAny a E S) QI X = OkO (a E S) (fun d S1 => OkP (itS S1 d) fun i => QI i S1) X := by
  rw [a_iany]; simp only [w_bind]; refine OkO_fun fun d S1 => ?_
  cases d <;> first | rfl | skip
  simp only [a_iseq, a_c, bind_ok, itS]
  rename_i n
  cases S1[n]? with
  | none => rfl
  | some o => cases o <;> rfl
theorem w_itstr {z : Tx} : itS S (.str z) = some ⟨z.map fun c => .str [c], none⟩ := rfl
theorem w_ittup {z : List D} : itS S (.tup z) = some ⟨z, none⟩ := rfl
theorem w_itlst {z : List D} : itS S (.lst z) = some ⟨z, none⟩ := rfl
theorem w_itfz {z : List D} : itS S (.fz z) = some ⟨z, none⟩ := rfl
theorem w_itloc {n : Nat} {z : List D} (h : S[n]? = some (.lst z)) : itS S (.loc n) = some ⟨z, some (n, z)⟩ := by simp only [itS, h]
theorem w_comp {it : MI} {one : Bool} {is vs : List Nat} : OkO (mComp it one is vs ta a E S) Q X = OkO (it E S) (fun i S1 => OkO (compD i.chk one is ta a (wipeE E vs) S1 i.items []) (fun xs S2 => Q (.lst xs) S2) X) X := by
  rw [a_comp]; exact w_bind.trans (OkO_fun fun _ _ => w_bind.trans rfl)
theorem w_repl {y z : Tx} : OkO (mRepl y z a E S) Q X = OkO (a E S) (fun x S1 => OkStr x fun t => replOk t z ∧ OkN (.str (StrLaws.replL y z t)) fun d => Q d S1) X := by
  unfold mRepl; simp only [w_bind]; refine OkO_fun fun x S1 => ?_
  cases x <;> first | rfl | (simp only [w_itebad, w_ok, w_istr, w_n])
theorem w_tryAs {tbl : List (String × Bool)} {i : Nat} {su : Exn → MS} : OkS (mTryAs sa tbl i su E S) N R XE B C =
    OkS (sa E S) N R (fun e E1 S1 => OkP (takesE tbl e) fun k => OkI k (i < E1.length ∧ OkN (E1.set i (some .exo)) fun E3 => OkS (su e E3 S1) (fun E2 S2 => OkN (E2.set i none) fun E4 => N E4 S2) R (fun _ _ _ => False) (fun E2 S2 => B (E2.set i none) S2) (fun E2 S2 => C (E2.set i none) S2)) (XE e E1 S1)) B C := by
  unfold mTryAs
  cases sa E S with
  | ex e E1 S1 =>
    simp only [OkS]
    cases takesE tbl e with
    | none => rfl
    | some k =>
      cases k with
      | false => simp [OkP, OkI]
      | true =>
        simp only [w_some, w_itrue]
        by_cases hi : i < E1.length
        · simp only [if_pos hi, hi, true_and, w_n, if_true]
          cases su e (E1.set i (some .exo)) S1 <;> rfl
        · simp only [hi, false_and, if_false]
  | _ => rfl
theorem w_tryOnly {tbl : List (String × Bool)} {su : Exn → MS} : OkS (mTryOnly sa tbl su E S) N R XE B C =
    OkS (sa E S) N R (fun e E1 S1 => OkP (takesE tbl e) fun k => OkI k (OkS (su e E1 S1) N R (fun _ _ _ => False) B C) (XE e E1 S1)) B C := by
  unfold mTryOnly
  cases sa E S with
  | ex e E1 S1 =>
    simp only [OkS]
    cases takesE tbl e with
    | none => rfl
    | some k =>
      cases k with
      | false => simp [OkP, OkI]
      | true =>
        simp only [w_some, w_itrue]
        cases su e E1 S1 <;> rfl
  | _ => rfl
theorem w_exis {e : Exn} {tbl : List (String × Bool)} : OkO (mExIs e tbl E S) Q X = (e.fs = none ∧ OkP (takesE tbl e) fun b => Q (.bl b) S) := by
  unfold mExIs
  cases e.fs with
  | some fs => simp [OkO]
  | none =>
    simp only [true_and]
    cases takesE tbl e <;> rfl
/-! a def -/
theorem w_run {n : Nat} {ds : List D} : OkO (runB n sa ds S) Q X = OkN (ds.map some ++ List.replicate (n - ds.length) none) fun E => OkS (sa E S) (fun _ S' => Q .non S') (fun d S' => Q d S') (fun e _ S' => X e S') (fun _ _ => False) (fun _ _ => False) := by
  rw [a_run, w_n]
  cases sa (ds.map some ++ List.replicate (n - ds.length) none) S <;> rfl
theorem w_trim {o : Out D} (h : OkO o (fun d S' => ∃ T, S' = S ++ T ∧ lb S.length d = true ∧ Q d S) (fun e S' => e.fs = none ∧ ∃ T, S' = S ++ T ∧ X e S)) : OkO (trim S o) Q X := by
  cases o with
  | ok d S' =>
    obtain ⟨T, rfl, h1, h2⟩ := h
    rw [trim_ok h1]
    exact h2
  | ex e S' =>
    obtain ⟨h0, T, rfl, h2⟩ := h
    obtain ⟨c, fs⟩ := e
    simp only at h0
    subst h0
    rw [trim_exN]
    exact h2
  | bad => exact h
theorem ok_imp {α : Type} {o : Out α} {Q Q' : α → Sto → Prop} {X X' : Exn → Sto → Prop} (h : OkO o Q X) (q : ∀ a S, Q a S → Q' a S) (x : ∀ e S, X e S → X' e S) : OkO o Q' X' := by
  cases o with
  | ok a S => exact q _ _ h
  | ex e S => exact x _ _ h
  | bad => exact h
theorem oks_imp {o : SO} {N' B' C' : EC} {R' : D → Sto → Prop} {XE' : Exn → EC} (h : OkS o N R XE B C) (hn : ∀ E S, N E S → N' E S) (hr : ∀ d S, R d S → R' d S) (hx : ∀ e E S, XE e E S → XE' e E S) (hb : ∀ E S, B E S → B' E S) (hc : ∀ E S, C E S → C' E S) : OkS o N' R' XE' B' C' := by
  cases o with
  | nx E S => exact hn _ _ h
  | rt d S => exact hr _ _ h
  | bk E S => exact hb _ _ h
  | ct E S => exact hc _ _ h
  | ex e E S => exact hx _ _ _ h
  | bad => exact h
/-- from what is wanted to the outcome itself -/
theorem ok_out {α : Type} {o r : Out α} (h : OkO o (fun d S' => Out.ok d S' = r) (fun e S' => Out.ex e S' = r)) : o = r := by
  cases o with
  | ok a S => exact h
  | ex e S => exact h
  | bad => exact h.elim
theorem ok_of {α : Type} {o : Out α} {d : α} {S' : Sto} {Q : α → Sto → Prop} (h : o = .ok d S') (q : Q d S') : OkO o Q X := by rw [h]; exact q
theorem ok_get {α : Type} {o : Out α} {Q : α → Sto → Prop} (h : OkO o Q (fun _ _ => False)) : ∃ d S', o = .ok d S' ∧ Q d S' := by
  cases o with
  | ok a S => exact ⟨a, S, rfl, h⟩
  | ex e S => exact h.elim
  | bad => exact h.elim
/-! loops -/
theorem ok_forC {c : Option (Nat × List D)} {g : MG} {b : MS} : ∀ (l : List D) (P : Nat → EC) (n : Nat) (E : Evn) (S : Sto) (_ : P n E S)
    (_ : ∀ i E S, P i E S → chkOk c S)
    (_ : ∀ i x E S, l[i]? = some x → P (n + i) E S → OkO (g x E S) (fun E1 S1 => OkS (b E1 S1) (P (n + i + 1)) R XE N (P (n + i + 1))) (fun e S' => XE e E S'))
    (_ : ∀ E S, P (n + l.length) E S → N E S), OkS (forD c g b l E S) N R XE B C
  | [], P, n, E, S, h0, hc, hs, he => by
    rw [forD, if_pos (hc _ _ _ h0)]
    exact he E S h0
  | x :: l, P, n, E, S, h0, hc, hs, he => by
    rw [forD, if_pos (hc _ _ _ h0), w_toS]
    refine ok_imp (hs 0 x E S rfl h0) (fun E1 S1 h1 => ?_) (fun e S' h => h)
    have ih := fun E2 S2 (p : P (n + 1) E2 S2) => ok_forC (c := c) (g := g) (b := b) l P (n + 1) E2 S2 p hc (fun i y E S e p => by
      have := hs (i + 1) y E S (by simpa using e) (by rw [show n + (i + 1) = n + 1 + i by omega]; exact p)
      rw [show n + (i + 1) + 1 = n + 1 + i + 1 by omega] at this
      exact this) (fun E S p => he E S (by rw [List.length_cons, show n + (l.length + 1) = n + 1 + l.length by omega]; exact p))
    cases hb : b E1 S1 with
    | nx E2 S2 => rw [hb] at h1; exact ih E2 S2 h1
    | ct E2 S2 => rw [hb] at h1; exact ih E2 S2 h1
    | bk E2 S2 => rw [hb] at h1; exact h1
    | rt d S2 => rw [hb] at h1; exact h1
    | ex e E2 S2 => rw [hb] at h1; exact h1
    | bad => rw [hb] at h1; exact h1
theorem ok_for {g : MG} {b : MS} {l : List D} (P : Nat → EC) (h0 : P 0 E S)
    (hs : ∀ i x E S, l[i]? = some x → P i E S → OkO (g x E S) (fun E1 S1 => OkS (b E1 S1) (P (i + 1)) R XE N (P (i + 1))) (fun e S' => XE e E S'))
    (he : ∀ E S, P l.length E S → N E S) : OkS (forD none g b l E S) N R XE B C :=
  ok_forC l P 0 E S h0 (fun _ _ _ _ => trivial) (fun i x E S e p => by rw [Nat.zero_add] at p ⊢; exact hs i x E S e p) (fun E S p => he E S (by simpa using p))
theorem ok_forL {g : MG} {b : MS} {l : List D} {m : Nat} {xs : List D} (P : Nat → EC) (h0 : P 0 E S) (hc : ∀ i E S, P i E S → S[m]? = some (.lst xs))
    (hs : ∀ i x E S, l[i]? = some x → P i E S → OkO (g x E S) (fun E1 S1 => OkS (b E1 S1) (P (i + 1)) R XE N (P (i + 1))) (fun e S' => XE e E S'))
    (he : ∀ E S, P l.length E S → N E S) : OkS (forD (some (m, xs)) g b l E S) N R XE B C :=
  ok_forC l P 0 E S h0 (fun i E S p => hc i E S p) (fun i x E S e p => by rw [Nat.zero_add] at p ⊢; exact hs i x E S e p) (fun E S p => he E S (by simpa using p))
theorem ok_forR {g : MG} {b : MS} {lo : Int} {n : Nat} (P : Nat → EC) (h0 : P 0 E S)
    (hs : ∀ i E S, i < n → P i E S → OkO (g (.int (lo + (i : Int))) E S) (fun E1 S1 => OkS (b E1 S1) (P (i + 1)) R XE N (P (i + 1))) (fun e S' => XE e E S'))
    (he : ∀ E S, P n E S → N E S) : OkS (forD none g b (rngD lo n) E S) N R XE B C :=
  ok_for P h0 (fun i x E S e p => by
    obtain ⟨h1, rfl⟩ := rng_get e
    exact hs i E S h1 p) (fun E S p => he E S (by rwa [rng_len] at p))
/-- over the signs of a text -/
theorem ok_forT {g : MG} {b : MS} {z : Tx} (P : Nat → EC) (h0 : P 0 E S)
    (hs : ∀ i c E S, z[i]? = some c → P i E S → OkO (g (.str [c]) E S) (fun E1 S1 => OkS (b E1 S1) (P (i + 1)) R XE N (P (i + 1))) (fun e S' => XE e E S'))
    (he : ∀ E S, P z.length E S → N E S) : OkS (forD none g b (z.map fun c => .str [c]) E S) N R XE B C :=
  ok_for P h0 (fun i x E S e p => by
    rw [List.getElem?_map, Option.map_eq_some_iff] at e
    obtain ⟨c, h1, rfl⟩ := e
    exact hs i c E S h1 p) (fun E S p => he E S (by simpa using p))
/-- a row of anything, told by a function -/
theorem ok_forM {α : Type} {g : MG} {b : MS} {f : α → D} {l : List α} (P : Nat → EC) (h0 : P 0 E S)
    (hs : ∀ i x E S, l[i]? = some x → P i E S → OkO (g (f x) E S) (fun E1 S1 => OkS (b E1 S1) (P (i + 1)) R XE N (P (i + 1))) (fun e S' => XE e E S'))
    (he : ∀ E S, P l.length E S → N E S) : OkS (forD none g b (l.map f) E S) N R XE B C :=
  ok_for P h0 (fun i x E S e p => by
    rw [List.getElem?_map, Option.map_eq_some_iff] at e
    obtain ⟨c, h1, rfl⟩ := e
    exact hs i c E S h1 p) (fun E S p => he E S (by simpa using p))
theorem ok_while {c : MT} {b : MS} (P : Nat → EC)
    (hs : ∀ n E S, P n E S → OkO (c E S) (fun x S1 => OkI x (OkS (b E S1) (fun E2 S2 => ∃ m, m < n ∧ P m E2 S2) R XE N (fun E2 S2 => ∃ m, m < n ∧ P m E2 S2)) (N E S1)) (fun _ _ => False)) :
    ∀ (n : Nat) (E : Evn) (S : Sto), P n E S → OkS (mWhile c b E S) N R XE B C := by
  intro n
  induction n using Nat.strongRecOn with
  | ind n ih =>
    intro E S p
    have h := hs n E S p
    cases hc : c E S with
    | bad => rw [hc] at h; exact h.elim
    | ex e S1 => rw [hc] at h; exact h.elim
    | ok x S1 =>
      rw [hc, w_ok] at h
      cases x with
      | false =>
        rw [w_ifalse] at h
        rw [mWhile_done hc]
        exact h
      | true =>
        rw [w_itrue] at h
        cases hb : b E S1 with
        | bad => rw [hb] at h; exact h.elim
        | nx E2 S2 =>
          rw [hb] at h
          obtain ⟨m, hm, p2⟩ := h
          rw [mWhile_step hc hb]
          exact ih m hm E2 S2 p2
        | ct E2 S2 =>
          rw [hb] at h
          obtain ⟨m, hm, p2⟩ := h
          rw [mWhile_stepC hc hb]
          exact ih m hm E2 S2 p2
        | bk E2 S2 => rw [hb] at h; rw [mWhile_brk hc hb]; exact h
        | rt d S2 => rw [hb] at h; rw [mWhile_ret hc hb]; exact h
        | ex e E2 S2 => rw [hb] at h; rw [mWhile_exc hc hb]; exact h
/-- a comprehension whose turns leave the store as it is -/
theorem ok_compC {α : Type} {one : Bool} {is : List Nat} {t : MT} {e : ME} {E0 : Evn} {S0 : Sto} (g : α → D) (p : α → Bool) (f : α → D) : ∀ (xs : List α) (acc : List D) (_ : sizeOk (acc.length + xs.length))
    (_ : ∀ x ∈ xs, ∀ acc, OkP (stN one is (g x) E0) fun E1 => OkO (t E1 (S0 ++ [.lst acc])) (fun b S' => S' = S0 ++ [.lst acc] ∧ b = p x ∧ (b = true → OkO (e E1 (S0 ++ [.lst acc])) (fun y S' => S' = S0 ++ [.lst acc] ∧ lb S0.length y = true ∧ y = f x) (fun _ _ => False))) (fun _ _ => False)),
    compD none one is t e E0 S0 (xs.map g) acc = .ok (acc ++ (xs.filter p).map f) S0
  | [], acc, _, _ => by rw [List.map_nil, compD, if_pos (show chkOk none _ from trivial)]; simp
  | x :: l, acc, hz, h => by
    have h0 := h x List.mem_cons_self acc
    have hz1 : sizeOk (acc.length + l.length) := by unfold sizeOk at *; simp only [List.length_cons] at hz; omega
    rw [List.map_cons, compD, if_pos (show chkOk none _ from trivial)]
    cases h1 : stN one is (g x) E0 with
    | none => rw [h1] at h0; exact h0.elim
    | some E1 =>
      rw [h1, w_some] at h0
      simp only
      cases h2 : t E1 (S0 ++ [.lst acc]) with
      | bad => rw [h2] at h0; exact h0.elim
      | ex _ _ => rw [h2] at h0; exact h0.elim
      | ok b S1 =>
        rw [h2, w_ok] at h0
        obtain ⟨rfl, rfl, h3⟩ := h0
        simp only
        rw [if_pos trivial]
        cases hp : p x with
        | false =>
          rw [if_neg (by simp), ok_compC g p f l acc hz1 fun y hy => h y (List.mem_cons_of_mem _ hy)]
          simp [List.filter_cons, hp]
        | true =>
          have h4 := h3 hp
          rw [if_pos rfl]
          cases h5 : e E1 (S0 ++ [.lst acc]) with
          | bad => rw [h5] at h4; exact h4.elim
          | ex _ _ => rw [h5] at h4; exact h4.elim
          | ok y S2 =>
            rw [h5, w_ok] at h4
            obtain ⟨rfl, h6, rfl⟩ := h4
            simp only
            rw [if_pos ⟨rfl, h6, by unfold sizeOk at *; simp only [List.length_cons] at hz; omega⟩, ok_compC g p f l _ (by unfold sizeOk at *; simp only [List.length_cons, List.length_append, List.length_nil] at hz ⊢; omega) fun y hy => h y (List.mem_cons_of_mem _ hy)]
            simp [List.filter_cons, hp]
theorem ok_comp {α : Type} {one : Bool} {is : List Nat} {t : MT} {e : ME} {E0 : Evn} {S0 : Sto} {QL : List D → Sto → Prop} {xs : List α} {g : α → D} (p : α → Bool) (f : α → D) (hz : xs.length ≤ 16777216)
    (h : ∀ x ∈ xs, ∀ acc, OkP (stN one is (g x) E0) fun E1 => OkO (t E1 (S0 ++ [.lst acc])) (fun b S' => S' = S0 ++ [.lst acc] ∧ b = p x ∧ (b = true → OkO (e E1 (S0 ++ [.lst acc])) (fun y S' => S' = S0 ++ [.lst acc] ∧ lb S0.length y = true ∧ y = f x) (fun _ _ => False))) (fun _ _ => False))
    (q : QL ((xs.filter p).map f) S0) : OkO (compD none one is t e E0 S0 (xs.map g) []) QL X := by
  rw [ok_compC g p f xs [] (sizeOk_of (by simpa using hz)) h]
  exact q
theorem w_stN1 {i : Nat} {x : D} {E : Evn} : stN true [i] x E = some (E.set i (some x)) := rfl
theorem w_stN2 {i j : Nat} {a b : D} {E : Evn} : stN false [i, j] (.tup [a, b]) E = some ((E.set i (some a)).set j (some b)) := rfl
theorem w_stN3 {i j k : Nat} {a b c : D} {E : Evn} : stN false [i, j, k] (.tup [a, b, c]) E = some (((E.set i (some a)).set j (some b)).set k (some c)) := rfl
theorem w_wipe0 {E : Evn} : wipeE E [] = E := rfl
theorem w_wipe1 {E : Evn} {v : Nat} {vs : List Nat} : wipeE E (v :: vs) = (wipeE E vs).set v none := rfl
/-- a cut between two statements -/
theorem ok_cut (M : EC) (h1 : OkS (sa E S) M R XE B C) (h2 : ∀ E' S', M E' S' → OkS (sb E' S') N R XE B C) : OkS (mSeq sa sb E S) N R XE B C := by
  rw [w_seq]
  exact oks_imp h1 (fun E S p => h2 E S p) (fun _ _ h => h) (fun _ _ _ h => h) (fun _ _ h => h) (fun _ _ h => h)
/-- the store's new things -/
theorem sto_at {T : Sto} {i : Nat} : (S ++ T)[S.length + i]? = T[i]? := by
  rw [List.getElem?_append_right (by omega)]
  congr 1; omega
theorem sto_at0 {T : Sto} : (S ++ T)[S.length]? = T[0]? := by
  rw [List.getElem?_append_right (by omega), Nat.sub_self]
theorem sto_put {T : Sto} {i : Nat} {x : Ob} : (S ++ T).set (S.length + i) x = S ++ T.set i x := by
  rw [List.set_append_right _ _ (by omega)]
  congr 2; omega
theorem sto_put0 {T : Sto} {x : Ob} : (S ++ T).set S.length x = S ++ T.set 0 x := by
  rw [List.set_append_right _ _ (by omega), Nat.sub_self]
end
end PD
namespace PD
open PySem PySem.Spec PyProof PyProof.Rows L2
/-! operators under OkP -/
theorem sIx_lo {n : Nat} {d : Nat} {i : Int} (h : 0 ≤ i) : HT.sIx n d (some i) = min i.toNat n := by
  show (if i < 0 then (i + (n : Int)).toNat else min i.toNat n) = _
  rw [if_neg (by omega)]
theorem sIx_neg {n : Nat} {d : Nat} {i : Int} (h : i < 0) : HT.sIx n d (some i) = (i + (n : Int)).toNat := by
  show (if i < 0 then (i + (n : Int)).toNat else min i.toNat n) = _
  rw [if_pos h]
theorem cut_to {α : Type} {z : List α} {i : Int} (h0 : 0 ≤ i) : cutL z none (some i) = z.take i.toNat := by
  unfold cutL
  rw [HT.sIx_none, List.drop_zero, sIx_lo h0, Nat.sub_zero]
  by_cases h : i.toNat ≤ z.length
  · rw [Nat.min_eq_left h]
  · rw [Nat.min_eq_right (by omega), List.take_of_length_le (by omega), List.take_of_length_le (by omega)]
theorem cut_from {α : Type} {z : List α} {i : Int} (h0 : 0 ≤ i) : cutL z (some i) none = z.drop i.toNat := by
  unfold cutL
  rw [sIx_lo h0, HT.sIx_none]
  by_cases h : i.toNat ≤ z.length
  · rw [Nat.min_eq_left h]
    exact List.take_of_length_le (by rw [List.length_drop]; exact Nat.le_refl _)
  · rw [Nat.min_eq_right (by omega), List.drop_eq_nil_of_le (show z.length ≤ i.toNat by omega), Nat.sub_self, List.take_zero]
theorem cut_mid {α : Type} {z : List α} {i j : Int} (h0 : 0 ≤ i) (h1 : 0 ≤ j) : cutL z (some i) (some j) = (z.drop i.toNat).take (j.toNat - i.toNat) := by
  unfold cutL
  rw [sIx_lo h0, sIx_lo h1]
  by_cases h : i.toNat ≤ z.length
  · rw [Nat.min_eq_left h]
    by_cases g : j.toNat ≤ z.length
    · rw [Nat.min_eq_left g]
    · rw [Nat.min_eq_right (by omega), List.take_of_length_le (by rw [List.length_drop]; exact Nat.le_refl _), List.take_of_length_le (by rw [List.length_drop]; omega)]
  · rw [Nat.min_eq_right (by omega : z.length ≤ i.toNat), List.drop_eq_nil_of_le (show z.length ≤ i.toNat by omega), List.drop_eq_nil_of_le (Nat.le_refl _)]
    simp
theorem cut_toN {α : Type} {z : List α} {i : Int} (h0 : i < 0) : cutL z none (some i) = z.take (z.length - (-i).toNat) := by
  unfold cutL
  rw [HT.sIx_none, List.drop_zero, sIx_neg h0, Nat.sub_zero]
  congr 1; omega
theorem cut_fromN {α : Type} {z : List α} {i : Int} (h0 : i < 0) : cutL z (some i) none = z.drop (z.length - (-i).toNat) := by
  unfold cutL
  rw [sIx_neg h0, HT.sIx_none, show (i + (z.length : Int)).toNat = z.length - (-i).toNat by omega]
  exact List.take_of_length_le (by rw [List.length_drop]; omega)
theorem cut_midN {α : Type} {z : List α} {i j : Int} (h0 : 0 ≤ i) (h1 : j < 0) : cutL z (some i) (some j) = (z.drop i.toNat).take (z.length - (-j).toNat - i.toNat) := by
  unfold cutL
  rw [sIx_lo h0, sIx_neg h1, show (j + (z.length : Int)).toNat = z.length - (-j).toNat by omega]
  by_cases h : i.toNat ≤ z.length
  · rw [Nat.min_eq_left h]
  · rw [Nat.min_eq_right (by omega : z.length ≤ i.toNat), List.drop_eq_nil_of_le (show z.length ≤ i.toNat by omega), List.drop_eq_nil_of_le (Nat.le_refl _)]
    simp
theorem cut_all {α : Type} {z : List α} : cutL z none none = z := by
  unfold cutL
  rw [HT.sIx_none, HT.sIx_none, List.drop_zero, Nat.sub_zero, List.take_length]
def ixT (z : Tx) (i : Int) : Option Nat := if 0 ≤ i then z[i.toNat]? else if -(z.length : Int) ≤ i then z[(i + z.length).toNat]? else none
theorem ixT_nat {z : Tx} {n : Nat} : ixT z (n : Int) = z[n]? := by unfold ixT; rw [if_pos (Int.natCast_nonneg n), Int.toNat_natCast]
theorem ixT_nn {z : Tx} {i : Int} (h : 0 ≤ i) : ixT z i = z[i.toNat]? := by unfold ixT; rw [if_pos h]
theorem ixT_ng {z : Tx} {i : Int} (h : i < 0) (h2 : i.natAbs ≤ z.length) : ixT z i = z[z.length - (-i).toNat]? := by
  unfold ixT
  rw [if_neg (by omega), if_pos (by omega)]
  congr 1; omega
theorem atD_nn {z : List D} {i : Int} (h : 0 ≤ i) : atD z i = z[i.toNat]? := by unfold atD; rw [if_pos h]
theorem atD_ng {z : List D} {i : Int} (h : i < 0) (h2 : i.natAbs ≤ z.length) : atD z i = z[z.length - (-i).toNat]? := by
  unfold atD
  rw [if_neg (by omega), if_pos (by omega)]
  congr 1; omega
theorem cN0 : ((0 : Nat) : Int) = 0 := rfl
theorem cN1 : ((1 : Nat) : Int) = 1 := rfl
theorem cN2 : ((2 : Nat) : Int) = 2 := rfl
theorem cN3 : ((3 : Nat) : Int) = 3 := rfl
theorem cN4 : ((4 : Nat) : Int) = 4 := rfl
theorem cN5 : ((5 : Nat) : Int) = 5 := rfl
theorem len_rep1 {α : Type} (n : Nat) (m : α) : ((List.replicate n [m]).flatten).length = n := by
  induction n with
  | zero => rfl
  | succ n ih => rw [List.replicate_succ, List.flatten_cons, List.length_append, ih]; simp; omega
theorem dwrap {p : Prop} (h : p) : p := h
/-- the texts of a row -/
def allStr : List D → Bool
  | [] => true
  | .str _ :: r => allStr r
  | _ :: _ => false
def strsOf : List D → List Tx
  | [] => []
  | .str x :: r => x :: strsOf r
  | _ :: r => strsOf r
theorem allStr_map (ys : List Tx) : allStr (ys.map D.str) = true := by induction ys with
  | nil => rfl
  | cons y r ih => exact ih
theorem strsOf_map (ys : List Tx) : strsOf (ys.map D.str) = ys := by induction ys with
  | nil => rfl
  | cons y r ih => rw [List.map_cons, strsOf, ih]
theorem allStr_nil : allStr [] = true := rfl
theorem allStr_cons {x : Tx} {r : List D} : allStr (.str x :: r) = allStr r := rfl
theorem strsOf_nil : strsOf [] = [] := rfl
theorem strsOf_cons {x : Tx} {r : List D} : strsOf (.str x :: r) = x :: strsOf r := rfl
theorem strL_of {xs : List D} (h : allStr xs = true) : strL xs = some (strsOf xs) := by
  induction xs with
  | nil => rfl
  | cons x r ih =>
    cases x with
    | str x => rw [strL, ih h, strsOf]; rfl
    | _ => exact absurd h (by simp [allStr])
/-- is a text among texts -/
def memB (x : Tx) (ys : List Tx) : Bool := decide (x ∈ ys)
theorem memB_iff {x : Tx} {ys : List Tx} : memB x ys = true ↔ x ∈ ys := by unfold memB; simp
theorem w_imem {x : Tx} {ys : List Tx} {P P' : Prop} : OkI (memB x ys) P P' = ((x ∈ ys → P) ∧ (¬ x ∈ ys → P')) := w_idec
theorem flD_all {xs : List D} (h : allStr xs = true) : xs.all flD = true := by
  induction xs with
  | nil => rfl
  | cons x r ih =>
    cases x with
    | str x => rw [List.all_cons, ih h]; rfl
    | _ => exact absurd h (by simp [allStr])
theorem teq_any {xs : List D} (h : allStr xs = true) (x : Tx) : (xs.any fun y => teq y (.str x)) = decide (x ∈ strsOf xs) := by
  induction xs with
  | nil => rfl
  | cons y r ih =>
    cases y with
    | str y =>
      rw [List.any_cons, ih h, strsOf, Bool.eq_iff_iff]
      simp only [teq, Bool.or_eq_true, decide_eq_true_eq, List.mem_cons]
      exact ⟨fun h => h.imp (fun h => h.symm) id, fun h => h.imp (fun h => h.symm) id⟩
    | _ => exact absurd h (by simp [allStr])
section
variable {Q : D → Prop} {S : Sto}
theorem p_ixS {z : Tx} {i : Int} : OkP (gIx S (.str z) (.int i)) Q = (sizeOk z.length ∧ OkP (ixT z i) fun c => Q (.str [c])) := by
  simp only [gIx, w_pitebad]
  unfold ixT
  congr 1
  generalize (if 0 ≤ i then z[i.toNat]? else if -(z.length : Int) ≤ i then z[(i + z.length).toNat]? else none) = o
  cases o <;> rfl
theorem p_slS {z : Tx} {lo hi : Option Int} : OkP (gSl S (.str z) lo hi) Q = (sizeOk z.length ∧ OkN (.str (cutL z lo hi)) Q) := by
  simp only [gSl, w_pitebad, w_some, w_n]
theorem p_split {z p : Tx} : OkP (gSplit S z [.str p]) Q = ((p ≠ [] ∧ p.all (· < 256) = true ∧ sizeOk (z.length + 2)) ∧ OkN (.lst ((TL.spl p 0 [] z).map D.str)) Q) := by
  simp only [gSplit, w_pitebad, w_some, w_n]
theorem p_joinL {z : Tx} {xs : List D} (h : allStr xs = true) : OkP (gJoin S z [.lst xs]) Q = (joinOk z (strsOf xs) ∧ OkN (.str (TL.joinL z (strsOf xs))) Q) := by
  simp only [gJoin, rowF, seqF, Option.bind_some, strL_of h, w_pitebad, w_some, w_n]
theorem p_joinT {z : Tx} {xs : List D} (h : allStr xs = true) : OkP (gJoin S z [.tup xs]) Q = (joinOk z (strsOf xs) ∧ OkN (.str (TL.joinL z (strsOf xs))) Q) := by
  simp only [gJoin, rowF, seqF, Option.bind_some, strL_of h, w_pitebad, w_some, w_n]
theorem p_joinC {z : Tx} {xs : List D} {n : Nat} (hs : S[n]? = some (.lst xs)) (h : allStr xs = true) : OkP (gJoin S z [.loc n]) Q = (joinOk z (strsOf xs) ∧ OkN (.str (TL.joinL z (strsOf xs))) Q) := by
  simp only [gJoin, rowF, seqF, hs, Option.bind_some, strL_of h, w_pitebad, w_some, w_n]
theorem p_zfill {z : Tx} {i : Int} : OkP (gZfill S z [.int i]) Q = (padOk i ∧ OkN (.str (zfillD z i)) Q) := by
  simp only [gZfill, w_pitebad, w_some, w_n]
theorem p_str {i : Int} : OkP (gStr S [.int i]) Q = (strOkI i ∧ OkN (.str (numT i)) Q) := by
  simp only [gStr, w_pitebad, w_some, w_n]
theorem p_intS {z : Tx} : OkP (gIntA S [.str z]) Q = (digT z ∧ OkN (.int (NumText.digitsVal z : Nat)) Q) := by
  simp only [gIntA, w_pitebad, w_some, w_n]
theorem p_mulS {z : Tx} {k : Int} : OkP (gMulA S (.str z) (.int k)) Q = (repOk z.length k ∧ OkN (.str (List.replicate k.toNat z).flatten) Q) := by
  simp only [gMulA, w_pitebad, w_some, w_n]
theorem p_mulL {z : List D} {k : Int} : OkP (gMulA S (.lst z) (.int k)) Q = (repOk z.length k ∧ OkN (.lst (List.replicate k.toNat z).flatten) Q) := by
  simp only [gMulA, seqL, w_pitebad, w_some, w_n]
theorem p_chr {i : Int} : OkP (gChr S [.int i]) Q = ((0 ≤ i ∧ i ≤ 1114111) ∧ OkN (.str [i.toNat]) Q) := by
  simp only [gChr, w_pitebad, w_some, w_n]
theorem p_append {l : List D} {d : D} {Q : D × List D → Prop} : OkP (gAppend S l [d]) Q = (sizeOk (l.length + 1) ∧ OkN (.non, l ++ [d]) Q) := by
  simp only [gAppend, w_pitebad, w_some, w_n]
theorem g_inL {x : Tx} {xs : List D} (h : allStr xs = true) : gIn S (.str x) (.lst xs) = some (.bl (memB x (strsOf xs))) := by
  rw [g_in (in_seq (ys := xs) rfl rfl (flD_all h)), teq_any h]; rfl
theorem g_inTs {x : Tx} {xs : List D} (h : allStr xs = true) : gIn S (.str x) (.tup xs) = some (.bl (memB x (strsOf xs))) := by
  rw [g_inT rfl (flD_all h), teq_any h]; rfl
theorem g_inF {x : Tx} {xs : List D} (h : allStr xs = true) : gIn S (.str x) (.fz xs) = some (.bl (memB x (strsOf xs))) := by
  rw [g_in (in_seq (ys := xs) rfl rfl (flD_all h)), teq_any h]; rfl
theorem g_ninL {x : Tx} {xs : List D} (h : allStr xs = true) : gNotIn S (.str x) (.lst xs) = some (.bl (!memB x (strsOf xs))) := by
  rw [g_notIn (in_seq (ys := xs) rfl rfl (flD_all h)), teq_any h]; rfl
theorem g_ninTs {x : Tx} {xs : List D} (h : allStr xs = true) : gNotIn S (.str x) (.tup xs) = some (.bl (!memB x (strsOf xs))) := by
  rw [g_notInT rfl (flD_all h), teq_any h]; rfl
theorem g_ninF {x : Tx} {xs : List D} (h : allStr xs = true) : gNotIn S (.str x) (.fz xs) = some (.bl (!memB x (strsOf xs))) := by
  rw [g_notIn (in_seq (ys := xs) rfl rfl (flD_all h)), teq_any h]; rfl
theorem w_iand {a b : Bool} {P P' : Prop} : OkI (a && b) P P' = OkI a (OkI b P P') P' := by cases a <;> simp [OkI]
theorem w_ior {a b : Bool} {P P' : Prop} : OkI (a || b) P P' = OkI a P (OkI b P P') := by cases a <;> simp [OkI]
theorem gStarts' {z p : Tx} : gStarts S z [.str p] = some (.bl (decide (z.take p.length = p))) := rfl
theorem g_startsT1 {z p : Tx} {xs : List D} (h : allStr xs = true) : True := trivial
end
theorem so_le {n : Nat} (h : n ≤ 16777216) : sizeOk n := sizeOk_of h
theorem divOk_small {j : Int} (h : 0 < j) (h2 : j < 18446744073709551616) : divOk j := divOk_of h h2
theorem modOk_pos {j : Int} (h : 0 < j) : modOk j := h
theorem small62_of {i : Int} (h : -(4611686018427387904 : Int) ≤ i ∧ i < 4611686018427387904) : small62 i := by unfold small62; omega
theorem mulOk_R {i j : Int} (h : -(18446744073709551616 : Int) < j ∧ j < 18446744073709551616) : mulOk i j := mulOk_small (by omega)
theorem mulOk_L {i j : Int} (h : -(18446744073709551616 : Int) < i ∧ i < 18446744073709551616) : mulOk i j := mulOk_smallL (by omega)
theorem powOk_of {i j : Int} (h : 0 ≤ j ∧ j ≤ 1000000 ∧ (-(18446744073709551616 : Int) < i ∧ i < 18446744073709551616)) : powOk i j := by
  refine ⟨h.1, h.2.1, ?_⟩
  omega
theorem repOk_of {n : Nat} {k : Int} (h1 : -(4611686018427387904 : Int) ≤ k ∧ k < 4611686018427387904) (h : n * k.toNat ≤ 16777216) : repOk n k := by
  refine ⟨by omega, by omega, h⟩
/-- sizes: the closers -/
theorem joinOk_le {z : Tx} {ys : List Tx} (h : (ys.map (·.length)).sum + ys.length * z.length ≤ 16777216) : joinOk z ys := h
end PD

/-! PyF1: more methods of texts: find from a place, lstrip of signs, upper, ljust; f-strings. -/
namespace PD
open PySem PySem.Spec PyProof PyProof.Rows L2
/-- the first place of a sign, from i on -/
def findT (z : Tx) (c i : Nat) : Option Nat := ((z.drop i).findIdx? fun d => decide (d = c)).map (· + i)
def findI (z : Tx) (c i : Nat) : Int := match findT z c i with
  | some k => (k : Int)
  | none => -1
theorem findT_none {z : Tx} {c i : Nat} (h : findT z c i = none) : ∀ k, i ≤ k → z[k]? ≠ some c := by
  intro k hk e
  unfold findT at h
  rw [Option.map_eq_none_iff, List.findIdx?_eq_none_iff] at h
  have : z[k]? = (z.drop i)[k - i]? := by rw [List.getElem?_drop]; congr 1; omega
  rw [this] at e
  have := h c (List.mem_of_getElem? e)
  simp at this
theorem findT_some {z : Tx} {c i k : Nat} (h : findT z c i = some k) : i ≤ k ∧ z[k]? = some c ∧ ∀ j, i ≤ j → j < k → z[j]? ≠ some c := by
  unfold findT at h
  rw [Option.map_eq_some_iff] at h
  obtain ⟨m, h1, rfl⟩ := h
  rw [List.findIdx?_eq_some_iff_getElem] at h1
  obtain ⟨hm, h2, h3⟩ := h1
  rw [List.length_drop] at hm
  refine ⟨by omega, ?_, fun j h4 h5 e => ?_⟩
  · rw [List.getElem_drop] at h2
    rw [List.getElem?_eq_getElem (by omega)]
    have h2 := of_decide_eq_true h2
    have e3 : z[m + i]? = z[i + m]? := by congr 1; omega
    rw [← List.getElem?_eq_getElem (by omega), e3, List.getElem?_eq_getElem (by omega), h2]
  · have h6 := h3 (j - i) (by omega)
    rw [List.getElem_drop] at h6
    have hj : j < z.length := by omega
    rw [List.getElem?_eq_getElem hj] at e
    cases e
    simp [show i + (j - i) = j by omega] at h6
theorem find_D (z : Tx) (c i : Nat) : Txt.find3 ⟨z.toArray⟩ ⟨#[c]⟩ (i : Int) = findI z c i := by
  have hl : (⟨z.toArray⟩ : Str).length = z.length := by simp [Str.length]
  have gd : ∀ v, v < z.length → ((⟨z.toArray⟩ : Str).cps.getD v 0 = c ↔ z[v]? = some c) := fun v hv => by
    simp [hv, List.getElem?_eq_getElem hv, Array.getD]
  have hf : ∀ v : Nat, v < z.length → (fromIndex z.length (i : Int) ≤ v ↔ i ≤ v) := fun v hv => by
    unfold fromIndex
    simp
    omega
  unfold findI
  rcases StrLaws.find3_spec ⟨z.toArray⟩ c (i : Int) with ⟨h, hn⟩ | ⟨k, h, h1, h2, h3, h4⟩
  · rw [h]
    cases e : findT z c i with
    | none => rfl
    | some k =>
      obtain ⟨a1, a2, a3⟩ := findT_some e
      have hk : k < z.length := (List.getElem?_eq_some_iff.mp a2).1
      rw [hl] at hn
      exact absurd ((gd k hk).mpr a2) (hn k ((hf k hk).mpr a1) hk)
  · rw [h]
    rw [hl] at h1 h2 h4
    have h5 := (gd k h2).mp h3
    have h6 := (hf k h2).mp h1
    cases e : findT z c i with
    | none => exact absurd h5 (findT_none e k h6)
    | some m =>
      obtain ⟨a1, a2, a3⟩ := findT_some e
      have hm : m < z.length := (List.getElem?_eq_some_iff.mp a2).1
      simp only
      have : k = m := by
        rcases Nat.lt_trichotomy k m with q | q | q
        · exact absurd h5 (a3 k h6 q)
        · exact q
        · exact absurd ((gd m hm).mpr a2) (h4 m ((hf m hm).mpr a1) q)
      rw [this]
def gFind (_ : Sto) (z : Tx) (ds : List D) : Option D := match ds with
  | [.str [c], .int i] => if 0 ≤ i then some (.int (findI z c i.toNat)) else none
  | _ => none
section
variable {X : Cx} {W : WW X.K} {pos apos : Pos}
theorem rp_find : ∀ x vs H Q, rPM X.K gFind x vs H Q → (∃ (a b : Str) (i : Int), x = .str a ∧ vs = [.str b, .int i] ∧ Q (.int (Txt.find3 a b i)) H) := by
  rintro v vs H Q ⟨ρ, S, z, ds, d, rfl, r, dv, hg, q⟩
  unfold gFind at hg
  split at hg
  · rename_i c i
    split at hg
    · rename_i hi
      cases hg
      simp only [DVs] at dv
      obtain ⟨u1, r1, rfl, h1, u2, r2, rfl, h2, rfl⟩ := dv
      rw [dv_str] at h1; subst h1
      rw [dv_int] at h2; subst h2
      have e := find_D z c i.toNat
      rw [show ((i.toNat : Nat) : Int) = i by omega] at e
      exact ⟨_, _, _, rfl, rfl, by rw [e]; exact q ρ H _ r Ext.refl (by simp [DV])⟩
    · cases hg
  · cases hg
/-! lstrip of signs -/
theorem lstrip_D (z p : Tx) : Txt.lstripChars ⟨z.toArray⟩ ⟨p.toArray⟩ = ⟨(z.dropWhile fun c => decide (c ∈ p)).toArray⟩ := by
  have hp : (fun c => (⟨p.toArray⟩ : Str).cps.contains c) = fun c => decide (c ∈ p) := by
    funext c
    simp
  have hl : (⟨z.toArray⟩ : Str).length = z.length := by simp [Str.length]
  have hd : ∀ (f : Nat → Bool) (l : Tx), l.drop (l.takeWhile f).length = l.dropWhile f := fun f l => by
    induction l with
    | nil => rfl
    | cons c r ih =>
      by_cases h : f c = true
      · simp [List.takeWhile_cons, List.dropWhile_cons, h, ih]
      · simp [List.takeWhile_cons, List.dropWhile_cons, h]
  unfold Txt.lstripChars Txt.stripBy
  rw [show ((⟨p.toArray⟩ : Str).cps.contains) = fun c => decide (c ∈ p) from hp]
  refine TL.ext_tl ?_
  have e0 : stripLo (fun c => decide (c ∈ p)) true ⟨z.toArray⟩ = (z.takeWhile fun c => decide (c ∈ p)).length := by simp [stripLo]
  have e1 : ∀ lo, stripHi (fun c => decide (c ∈ p)) false ⟨z.toArray⟩ lo = z.length := fun lo => by simp [stripHi, Str.length]
  have e2 : TL.tl (⟨(z.dropWhile fun c => decide (c ∈ p)).toArray⟩ : Str) = z.dropWhile fun c => decide (c ∈ p) := rfl
  rw [e2]
  by_cases h : stripSame (fun c => decide (c ∈ p)) true false ⟨z.toArray⟩ = true
  · rw [if_pos h]
    unfold stripSame at h
    rw [e0, e1] at h
    have h0 : (z.takeWhile fun c => decide (c ∈ p)).length = 0 := by
      simp only [Bool.and_eq_true, beq_iff_eq] at h
      exact h.1
    have := hd (fun c => decide (c ∈ p)) z
    rw [h0] at this
    rw [← this]
    rfl
  · rw [if_neg h]
    unfold stripped
    rw [e0, e1, ← hl, TL.tl_strSub_end]
    exact hd _ z
open Classical in
noncomputable def gLstrip (_ : Sto) (z : Tx) (ds : List D) : Option D := match ds with
  | [.str p] => if sizeOk z.length then some (.str (z.dropWhile fun c => decide (c ∈ p))) else none
  | _ => none
theorem rp_lstrip : ∀ x vs H Q, rPM X.K gLstrip x vs H Q → (∃ a b, x = .str a ∧ vs = [.str b] ∧ a.length ≤ sizeLine ∧ Q (.str (Txt.lstripChars a b)) H) := by
  rintro v vs H Q ⟨ρ, S, z, ds, d, rfl, r, dv, hg, q⟩
  unfold gLstrip at hg
  split at hg
  · rename_i p
    split at hg
    · rename_i hz
      cases hg
      obtain ⟨u, rfl, h1⟩ := dvs1 dv
      rw [dv_str] at h1; subst h1
      exact ⟨_, _, rfl, rfl, by rw [sv_len]; exact hz, by rw [lstrip_D]; exact q ρ H _ r Ext.refl (by simp [DV, sv])⟩
    · cases hg
  · cases hg
/-! upper of ASCII -/
def upT (c : Nat) : Nat := if 97 ≤ c ∧ c ≤ 122 then c - 32 else c
def upOk (z : Tx) : Prop := z.length ≤ 100000 ∧ ∀ c ∈ z, c < 128
open Classical in
noncomputable def gUpper (_ : Sto) (z : Tx) (ds : List D) : Option D := match ds with
  | [] => if upOk z then some (.str (z.map upT)) else none
  | _ => none
theorem upper_D {z : Tx} (h : upOk z) : Txt.upper ⟨z.toArray⟩ = ⟨(z.map upT).toArray⟩ := by
  rw [upper_ascii (by simpa using h.2)]
  congr 1
  simp
  intro a _
  rfl
theorem rp_upper : ∀ x vs H Q, rPM X.K gUpper x vs H Q → (∃ a, x = .str a ∧ vs = [] ∧ a.length ≤ 5592405 ∧ Q (.str (Txt.upper a)) H) := by
  rintro v vs H Q ⟨ρ, S, z, ds, d, rfl, r, dv, hg, q⟩
  unfold gUpper at hg
  split at hg
  · split at hg
    · rename_i hz
      cases hg
      simp only [DVs] at dv
      subst dv
      exact ⟨_, rfl, rfl, by rw [sv_len]; have := hz.1; omega, by rw [upper_D hz]; exact q ρ H _ r Ext.refl (by simp [DV, sv])⟩
    · cases hg
  · cases hg
/-! ljust -/
def ljustT (z : Tx) (n : Int) : Tx := z ++ List.replicate (n.toNat - z.length) 32
theorem ljust_D (z : Tx) (n : Int) : Txt.ljust ⟨z.toArray⟩ n = ⟨(ljustT z n).toArray⟩ := by
  refine TL.ext_tl ?_
  unfold Txt.ljust ljustT
  rw [sv_len]
  by_cases h : n ≤ (z.length : Int)
  · rw [if_pos h, show n.toNat - z.length = 0 by omega]
    simp [TL.tl]
  · rw [if_neg h]
    have := PyProof.Rows.padded_list (⟨z.toArray⟩ : Str) 0 (n.toNat - z.length) 32
    exact this.trans (by simp)
open Classical in
noncomputable def gLjust (_ : Sto) (z : Tx) (ds : List D) : Option D := match ds with
  | [.int i] => if padOk i then some (.str (ljustT z i)) else none
  | _ => none
theorem rp_ljust : ∀ x vs H Q, rPM X.K gLjust x vs H Q → (∃ (a : Str) (i : Int), x = .str a ∧ vs = [.int i] ∧ PadOk i = true ∧ Q (.str (Txt.ljust a i)) H) := by
  rintro v vs H Q ⟨ρ, S, z, ds, d, rfl, r, dv, hg, q⟩
  unfold gLjust at hg
  split at hg
  · rename_i i
    by_cases hl : padOk i
    · rw [if_pos hl] at hg
      cases hg
      obtain ⟨u, rfl, h1⟩ := dvs1 dv
      rw [dv_int] at h1; subst h1
      exact ⟨_, _, rfl, rfl, hl, by rw [ljust_D]; exact q ρ H _ r Ext.refl (by simp [DV, sv])⟩
    · rw [if_neg hl] at hg; cases hg
  · cases hg
/-! f-strings: texts and numbers -/
open Classical in
noncomputable def gFmt (_ : Sto) (d : D) : Option D := match d with
  | .str z => if sizeOk z.length then some (.str z) else none
  | .int i => if strOkI i then some (.str (numT i)) else none
  | _ => none
theorem ed_fmt {e : Expr} {m : ME} (h : ED X W e m) : ED X W (.FormattedValue e (-1) none pos) (mUn gFmt m) := by
  refine ed_of (pe_fmt h) fun σ H Q ρ S E r er p => ?_
  refine ⟨ρ, S, E, r, er, (Post.bind (R := DV X.K) p).imp fun x H1 ⟨ρ1, S1, d, r1, e1, d1, p1⟩ => ?_⟩
  obtain ⟨u, hu, q⟩ := post_opt p1
  unfold gFmt at hu
  split at hu
  · rename_i z
    split at hu
    · rename_i hz
      cases hu
      rw [dv_str] at d1; subst d1
      exact .inl ⟨_, rfl, by rw [sv_len]; exact hz, q ρ1 H1 _ r1 Ext.refl (by simp [DV, sv])⟩
    · cases hu
  · rename_i i
    split at hu
    · rename_i hz
      cases hu
      rw [dv_int] at d1; subst d1
      exact .inr ⟨i, rfl, hz, q ρ1 H1 _ r1 Ext.refl (by simp only [DV, sv]; rw [← num_D i])⟩
    · cases hu
  · cases hu
open Classical in
/-- the parts one behind the other -/
noncomputable def mJs : List ME → Tx → ME
  | [], acc => fun _ S => .ok (.str acc) S
  | m :: r, acc => fun E S => (m E S).bind fun x S1 => match x with
    | .str y => if sizeOk (acc.length + y.length) then mJs r (acc ++ y) E S1 else .bad
    | _ => .bad
inductive JD (X : Cx) (W : WW X.K) : List Expr → List ME → Prop where
  | nil : JD X W [] []
  | cons {e : Expr} {m : ME} {es : List Expr} {ms : List ME} (h : ED X W e m) (r : JD X W es ms) : JD X W (e :: es) (m :: ms)
theorem JD.pj {es : List Expr} {ms : List ME} (h : JD X W es ms) : PJ X es (ms.map (tE X.K W)) := by
  induction h with
  | nil => exact .nil
  | cons h r ih => exact .cons h ih
theorem js_read : ∀ (ms : List ME) (acc : Tx) (σ : L2.St) (H : Hp) (Q : VK) (ρ : List Addr) (S : Sto) (E : Evn), Rel X.K ρ S H → ER X.K W ρ H E σ → Post X.K (DV X.K) ρ H Q (fun c dx H' => W.w c dx σ H') (mJs ms acc E S) →
    tJs (ms.map (tE X.K W)) ⟨acc.toArray⟩ σ H fun out H1 => Q (.str out) H1
  | [], acc, σ, H, Q, ρ, S, E, r, er, p => by
    exact p ρ H _ r Ext.refl (by simp [DV, sv])
  | m :: ms, acc, σ, H, Q, ρ, S, E, r, er, p => by
    refine ⟨ρ, S, E, r, er, (Post.bind (R := DV X.K) p).imp fun x H1 ⟨ρ1, S1, d, r1, e1, d1, p1⟩ => ?_⟩
    cases d with
    | str y =>
      rw [dv_str] at d1; subst d1
      simp only at p1
      by_cases hz : sizeOk (acc.length + y.length)
      · rw [if_pos hz] at p1
        have ea : (⟨acc.toArray⟩ : Str) ++ (⟨y.toArray⟩ : Str) = ⟨(acc ++ y).toArray⟩ := by
          refine TL.ext_tl ?_
          rw [TL.tl_append]
        refine ⟨⟨y.toArray⟩, rfl, ?_, ?_⟩
        · rw [ea, sv_len, List.length_append]; exact hz
        · rw [ea]
          exact js_read ms (acc ++ y) σ H1 Q ρ1 S1 E r1 (er.mono e1) p1
      · rw [if_neg hz] at p1; exact p1.elim
    | _ => exact p1.elim
theorem ed_joined {v1 v2 : Expr} {rest : List Expr} {ms : List ME} (h : JD X W (v1 :: v2 :: rest) ms) : ED X W (.JoinedStr (v1 :: v2 :: rest) pos) (mJs ms []) := by
  refine ed_of (pe_joined h.pj) fun σ H Q ρ S E r er p => ?_
  exact js_read ms [] σ H Q ρ S E r er p
theorem ed_joined1 {e : Expr} {m : ME} (h : ED X W e m) : ED X W (.JoinedStr [e] pos) m := ed_of (pe_joined1 h) fun σ H Q ρ S E r er p => ⟨ρ, S, E, r, er, p⟩
end
/-! to reckon with -/
section
variable {Q : D → Prop} {QD : D → Sto → Prop} {S : Sto} {E : Evn} {X : Exn → Sto → Prop}
theorem p_find {z : Tx} {c : Nat} {i : Int} : OkP (gFind S z [.str [c], .int i]) Q = (0 ≤ i ∧ OkN (.int (findI z c i.toNat)) Q) := by
  simp only [gFind, w_pitebad, w_some, w_n]
theorem p_lstrip {z p : Tx} : OkP (gLstrip S z [.str p]) Q = (sizeOk z.length ∧ OkN (.str (z.dropWhile fun c => decide (c ∈ p))) Q) := by
  simp only [gLstrip, w_pitebad, w_some, w_n]
theorem p_upper {z : Tx} : OkP (gUpper S z []) Q = (upOk z ∧ OkN (.str (z.map upT)) Q) := by
  simp only [gUpper, w_pitebad, w_some, w_n]
theorem p_ljust {z : Tx} {i : Int} : OkP (gLjust S z [.int i]) Q = (padOk i ∧ OkN (.str (ljustT z i)) Q) := by
  simp only [gLjust, w_pitebad, w_some, w_n]
theorem p_fmtS {z : Tx} : OkP (gFmt S (.str z)) Q = (sizeOk z.length ∧ Q (.str z)) := by
  simp only [gFmt, w_pitebad, w_some]
theorem p_fmtI {i : Int} : OkP (gFmt S (.int i)) Q = (strOkI i ∧ OkN (.str (numT i)) Q) := by
  simp only [gFmt, w_pitebad, w_some, w_n]
theorem w_js0 {acc : Tx} : OkO (mJs [] acc E S) QD X = QD (.str acc) S := rfl
theorem w_js1 {m : ME} {r : List ME} {acc : Tx} : OkO (mJs (m :: r) acc E S) QD X = OkO (m E S) (fun x S1 => OkStr x fun y => sizeOk (acc.length + y.length) ∧ OkN (acc ++ y) fun a => OkO (mJs r a E S1) QD X) X := by
  rw [mJs]
  refine w_bind.trans (OkO_fun fun x S1 => ?_)
  cases x <;> first | rfl | skip
  exact w_itebad (inst := Classical.propDecidable _)
end
theorem allStr_sing (l : Tx) : allStr (l.map fun c => D.str [c]) = true := by
  induction l with
  | nil => rfl
  | cons c r ih => exact ih
theorem strsOf_sing (l : Tx) : strsOf (l.map fun c => D.str [c]) = l.map fun c => [c] := by
  induction l with
  | nil => rfl
  | cons c r ih => rw [List.map_cons, strsOf, ih]; rfl
theorem joinL_sing (l : Tx) : TL.joinL [] (l.map fun c => [c]) = l := by
  induction l with
  | nil => rfl
  | cons c r ih =>
    cases r with
    | nil => rfl
    | cons d t =>
      have : TL.joinL [] (([c] : Tx) :: (d :: t).map fun c => [c]) = [c] ++ [] ++ TL.joinL [] ((d :: t).map fun c => [c]) := rfl
      rw [List.map_cons, this, ih]
      rfl
theorem joinOk_sing {l : Tx} (h : l.length ≤ 10000000) : joinOk [] (l.map fun c => [c]) := by
  apply joinOk_le
  have : ((l.map fun c => ([c] : Tx)).map (·.length)).sum = l.length := by
    induction l with
    | nil => rfl
    | cons c r ih =>
      simp only [List.map_cons, List.sum_cons, List.length_cons, List.length_nil]
      have h2 : r.length ≤ 10000000 := by simp at h; omega
      have := ih h2
      simp only [List.map_cons, List.map_map] at this ⊢
      omega
  rw [this]
  simp
  omega
section
variable {S : Sto}
theorem isN_non : gIsN S .non .non = some (.bl true) := rfl
theorem isN_bl {b : Bool} : gIsN S (.bl b) .non = some (.bl false) := rfl
theorem isN_int {b : Int} : gIsN S (.int b) .non = some (.bl false) := rfl
theorem isN_str {b : Tx} : gIsN S (.str b) .non = some (.bl false) := rfl
theorem isN_tup {b : List D} : gIsN S (.tup b) .non = some (.bl false) := rfl
theorem isN_lst {b : List D} : gIsN S (.lst b) .non = some (.bl false) := rfl
theorem notN_non : gNotN S .non .non = some (.bl false) := rfl
theorem notN_bl {b : Bool} : gNotN S (.bl b) .non = some (.bl true) := rfl
theorem notN_int {b : Int} : gNotN S (.int b) .non = some (.bl true) := rfl
theorem notN_str {b : Tx} : gNotN S (.str b) .non = some (.bl true) := rfl
theorem notN_tup {b : List D} : gNotN S (.tup b) .non = some (.bl true) := rfl
theorem notN_lst {b : List D} : gNotN S (.lst b) .non = some (.bl true) := rfl
end
section
variable {S : Sto} {Q : D → Prop}
/-- what is read of a list of the store -/
theorem p_joinLoc {z : Tx} {n : Nat} : OkP (gJoin S z [.loc n]) Q = OkT S[n]? fun xs => OkP (gJoin S z [.lst xs]) Q := by
  unfold gJoin
  simp only [rowF, seqF]
  cases S[n]? with
  | none => rfl
  | some o => cases o <;> rfl
theorem p_revLoc {n : Nat} : OkP (gRev S (.loc n)) Q = OkT S[n]? fun xs => OkN (.lst xs.reverse) Q := by
  unfold gRev
  simp only [seqF]
  cases S[n]? with
  | none => rfl
  | some o => cases o <;> rfl
theorem p_tupLoc {n : Nat} : OkP (gTuple S [.loc n]) Q = OkT S[n]? fun xs => OkN (.tup xs) Q := by
  unfold gTuple
  simp only [rowF, seqF]
  cases S[n]? with
  | none => rfl
  | some o => cases o <;> rfl
theorem p_listLoc {n : Nat} : OkP (gList S [.loc n]) Q = OkT S[n]? fun xs => OkN (.lst xs) Q := by
  unfold gList
  simp only [rowF, seqF]
  cases S[n]? with
  | none => rfl
  | some o => cases o <;> rfl
end
end PD

/-! PyF2: dicts with keys of ints and texts; written dicts of texts. -/
namespace PD
open PySem PySem.Spec PyProof PyProof.Rows L2
def keyD : D → Option Key
  | .int i => some (.inl i)
  | .str x => some (.inr ⟨x.toArray⟩)
  | _ => none
theorem keyD_V {K : PySem.W.Frag} {ρ : List Addr} {H : Hp} {d : D} {v : V} {k : Key} (h : keyD d = some k) (dv : DV K ρ H d v) : v = kV k := by
  cases d with
  | int i => cases h; rw [dv_int] at dv; exact dv
  | str x => cases h; rw [dv_str] at dv; exact dv
  | _ => cases h
def valD (kvs : List (Key × D)) (k : Key) : Option D := (kvs.find? fun p => decide (p.1 = k)).map (·.2)
def hasD (kvs : List (Key × D)) (k : Key) : Bool := kvs.any fun p => decide (p.1 = k)
def putD (kvs : List (Key × D)) (k : Key) (d : D) : List (Key × D) := if hasD kvs k = true then kvs.map (fun p => if p.1 = k then (p.1, d) else p) else kvs ++ [(k, d)]
def mergeD (kvs more : List (Key × D)) : List (Key × D) := more.foldl (fun acc p => putD acc p.1 p.2) kvs
section
variable {K : PySem.W.Frag} {ρ : List Addr} {H : Hp}
theorem KVR.val {k : Key} : ∀ {kvs : List (Key × D)} {us : List (Key × V)}, KVR K ρ H kvs us → (∀ d, valD kvs k = some d → ∃ v, valV us k = some v ∧ DV K ρ H d v) ∧ (valD kvs k = none → valV us k = none)
  | [], us, h => by cases h; exact ⟨fun d e => (by cases e), fun _ => rfl⟩
  | (j, d) :: r, us, ⟨v, t, e, h1, h2⟩ => by
    subst e
    obtain ⟨a, b⟩ := KVR.val (k := k) h2
    by_cases hj : j = k
    · have e1 : valD ((j, d) :: r) k = some d := by simp [valD, List.find?_cons, hj]
      rw [e1, valV_pos (p := (j, v)) hj]
      exact ⟨fun x e => (by cases e; exact ⟨v, rfl, h1⟩), fun e => (by cases e)⟩
    · have e1 : valD ((j, d) :: r) k = valD r k := by simp [valD, List.find?_cons, hj]
      rw [e1, valV_neg (p := (j, v)) hj]
      exact ⟨a, b⟩
theorem KVR.has {k : Key} : ∀ {kvs : List (Key × D)} {us : List (Key × V)}, KVR K ρ H kvs us → (us.any fun p => decide (p.1 = k)) = hasD kvs k
  | [], us, h => by cases h; rfl
  | (j, d) :: r, us, ⟨v, t, e, h1, h2⟩ => by
    subst e
    unfold hasD
    rw [List.any_cons, List.any_cons, KVR.has h2]
    rfl
theorem has_val {kvs : List (Key × D)} {k : Key} : hasD kvs k = (valD kvs k).isSome := by
  unfold hasD valD
  rw [Option.isSome_map, Bool.eq_iff_iff, List.find?_isSome, List.any_eq_true]
theorem KVR.length : ∀ {kvs : List (Key × D)} {us : List (Key × V)}, KVR K ρ H kvs us → kvs.length = us.length
  | [], us, h => by cases h; rfl
  | (j, d) :: r, us, ⟨v, t, e, h1, h2⟩ => by subst e; simp [KVR.length h2]
theorem KVR.app : ∀ {kvs more : List (Key × D)} {us ws : List (Key × V)}, KVR K ρ H kvs us → KVR K ρ H more ws → KVR K ρ H (kvs ++ more) (us ++ ws)
  | [], _, us, _, h, g => by cases h; exact g
  | (j, d) :: r, _, us, _, ⟨v, t, e, h1, h2⟩, g => by subst e; exact ⟨v, _, rfl, h1, KVR.app h2 g⟩
theorem KVR.upd {k : Key} {d : D} {v : V} (q : DV K ρ H d v) : ∀ {kvs : List (Key × D)} {us : List (Key × V)}, KVR K ρ H kvs us → KVR K ρ H (kvs.map fun p => if p.1 = k then (p.1, d) else p) (us.map fun p => if p.1 = k then (p.1, v) else p)
  | [], us, h => by cases h; rfl
  | (j, x) :: r, us, ⟨u, t, e, h1, h2⟩ => by
    subst e
    by_cases hj : j = k
    · simpa [hj, List.map_cons] using (show KVR K ρ H ((j, d) :: r.map fun p => if p.1 = k then (p.1, d) else p) ((j, v) :: t.map fun p => if p.1 = k then (p.1, v) else p) from ⟨v, _, rfl, q, KVR.upd q h2⟩)
    · simpa [hj, List.map_cons] using (show KVR K ρ H ((j, x) :: r.map fun p => if p.1 = k then (p.1, d) else p) ((j, u) :: t.map fun p => if p.1 = k then (p.1, v) else p) from ⟨u, _, rfl, h1, KVR.upd q h2⟩)
theorem KVR.put {kvs : List (Key × D)} {us : List (Key × V)} {k : Key} {d : D} {v : V} (h : KVR K ρ H kvs us) (q : DV K ρ H d v) : KVR K ρ H (putD kvs k d) (putK us k v) := by
  unfold putD putK
  rw [KVR.has h]
  by_cases hk : hasD kvs k = true
  · rw [if_pos hk, if_pos hk]; exact KVR.upd q h
  · rw [if_neg hk, if_neg hk]; exact KVR.app h ⟨v, [], rfl, q, rfl⟩
theorem KVR.merge : ∀ {more kvs : List (Key × D)} {ws us : List (Key × V)}, KVR K ρ H more ws → KVR K ρ H kvs us → KVR K ρ H (mergeD kvs more) (mergeK us ws)
  | [], kvs, ws, us, h, g => by cases h; exact g
  | (j, d) :: r, kvs, ws, us, ⟨v, t, e, h1, h2⟩, g => by
    subst e
    exact KVR.merge (more := r) (ws := t) h2 (g.put h1)
end
section
variable {X : Cx} {W : WW X.K} {pos apos : Pos}
/-! a new dict -/
def mDnew : ME := fun _ S => .ok (.loc S.length) (S ++ [.dic []])
theorem ed_dnew : ED X W (.Dict [] [] pos) mDnew := by
  refine ed_of pe_dnewK fun σ H Q ρ S E r er p => ?_
  intro a ha
  exact p (ρ ++ [a]) _ _ (r.alloc ha ⟨[], upd_same, rfl⟩) (Ext.alloc ha) (dv_loc r)
def mPairs : List (ME × ME) → Evn → Sto → Out (List (D × D))
  | [], _, S => .ok [] S
  | (k, v) :: r, E, S => (k E S).bind fun x S1 => (v E S1).bind fun y S2 => (mPairs r E S2).bind fun ps S3 => .ok ((x, y) :: ps) S3
def keysD : List (D × D) → Option (List (Key × D))
  | [] => some []
  | (x, y) :: r => match keyD x, keysD r with
    | some k, some t => some ((k, y) :: t)
    | _, _ => none
def mDisp (ps : List (ME × ME)) : ME := fun E S => (mPairs ps E S).bind fun xs S1 => match keysD xs with
  | some kvs => .ok (.loc S1.length) (S1 ++ [.dic (mergeD [] kvs)])
  | none => .bad
inductive PDs (X : Cx) (W : WW X.K) : List (Option Expr) → List Expr → List (ME × ME) → Prop where
  | nil : PDs X W [] [] []
  | cons {k v : Expr} {mk mv : ME} {ks : List (Option Expr)} {vs : List Expr} {ms : List (ME × ME)} (hk : ED X W k mk) (hv : ED X W v mv) (r : PDs X W ks vs ms) : PDs X W (some k :: ks) (v :: vs) ((mk, mv) :: ms)
theorem PDs.pps {ks : List (Option Expr)} {vs : List Expr} {ms : List (ME × ME)} (h : PDs X W ks vs ms) : PPs X pos ks vs (ms.map fun p => (tE X.K W p.1, tE X.K W p.2)) := by
  induction h with
  | nil => exact pps_nil
  | cons hk hv r ih => exact pps_cons hk hv ih
/-- pairs as they lie -/
def PR (K : PySem.W.Frag) (ρ : List Addr) (H : Hp) : List (D × D) → List (V × V) → Prop
  | [], vs => vs = []
  | (x, y) :: r, vs => ∃ u v t, vs = (u, v) :: t ∧ DV K ρ H x u ∧ DV K ρ H y v ∧ PR K ρ H r t
theorem pairs_read : ∀ (ms : List (ME × ME)) (σ : L2.St) (H : Hp) (Q : List (V × V) → Hp → Prop) (ρ : List Addr) (S : Sto) (E : Evn), Rel X.K ρ S H → ER X.K W ρ H E σ → Post X.K (PR X.K) ρ H Q (fun c dx H' => W.w c dx σ H') (mPairs ms E S) →
    tPairs (ms.map fun p => (tE X.K W p.1, tE X.K W p.2)) σ H Q
  | [], σ, H, Q, ρ, S, E, r, er, p => p ρ H [] r Ext.refl rfl
  | (k, v) :: ms, σ, H, Q, ρ, S, E, r, er, p => by
    refine ⟨ρ, S, E, r, er, (Post.bind (R := DV X.K) p).imp fun x H1 ⟨ρ1, S1, dx, r1, e1, d1, p1⟩ => ?_⟩
    refine ⟨ρ1, S1, E, r1, er.mono e1, (Post.bind (R := DV X.K) p1).imp fun y H2 ⟨ρ2, S2, dy, r2, e2, d2, p2⟩ => ?_⟩
    refine pairs_read ms σ H2 _ ρ2 S2 E r2 ((er.mono e1).mono e2) ?_
    refine (Post.bind (R := PR X.K) p2).imp fun ps H3 ⟨ρ3, S3, ds, r3, e3, d3, p3⟩ => ?_
    exact p3 ρ3 H3 _ r3 Ext.refl ⟨x, y, ps, rfl, DV.mono e3 _ _ (DV.mono e2 _ _ d1), DV.mono e3 _ _ d2, d3⟩
theorem PR.keys {K : PySem.W.Frag} {ρ : List Addr} {H : Hp} : ∀ {xs : List (D × D)} {vs : List (V × V)} {kvs : List (Key × D)}, PR K ρ H xs vs → keysD xs = some kvs → ∃ us : List (Key × V), vs = us.map (fun p => (kV p.1, p.2)) ∧ KVR K ρ H kvs us ∧ kvs.length = xs.length
  | [], vs, kvs, h, e => by cases e; cases h; exact ⟨[], rfl, rfl, rfl⟩
  | (x, y) :: r, vs, kvs, ⟨u, v, t, h1, h2, h3, h4⟩, e => by
    simp only [keysD] at e
    split at e
    · rename_i k s e1 e2
      cases e
      obtain ⟨us, a, b, c⟩ := PR.keys h4 e2
      subst h1 a
      refine ⟨(k, v) :: us, by rw [keyD_V e1 h2]; rfl, ⟨v, us, rfl, h3, b⟩, by simp [c]⟩
    · cases e
theorem mPairs_len : ∀ {ms : List (ME × ME)} {E : Evn} {S S' : Sto} {xs : List (D × D)}, mPairs ms E S = .ok xs S' → xs.length = ms.length
  | [], E, S, S', xs, h => by cases h; rfl
  | (k, v) :: ms, E, S, S', xs, h => by
    simp only [mPairs] at h
    cases e1 : k E S with
    | bad => rw [e1] at h; cases h
    | ex _ _ => rw [e1] at h; cases h
    | ok x S1 =>
      rw [e1, bind_ok] at h
      cases e2 : v E S1 with
      | bad => rw [e2] at h; cases h
      | ex _ _ => rw [e2] at h; cases h
      | ok y S2 =>
        rw [e2, bind_ok] at h
        cases e3 : mPairs ms E S2 with
        | bad => rw [e3] at h; cases h
        | ex _ _ => rw [e3] at h; cases h
        | ok ps S3 =>
          rw [e3, bind_ok] at h
          cases h
          simp [mPairs_len e3]
/-- a dict that was laid empty is filled -/
theorem Ext.fill {K : PySem.W.Frag} {ρ ρ2 : List Addr} {H H2 : Hp} {p : Addr} {o o' : HO} (hp : H p = none) (e : Ext K ρ (upd H p o) ρ2 H2) (hn : p ∉ ρ2) : Ext K ρ H (ρ2 ++ [p]) (upd H2 p o') := by
  obtain ⟨t, ht⟩ := e.pre
  have e0 : Ext K ρ H ρ (upd H p o) := Ext.new hp
  have et := e0.trans e
  refine ⟨⟨t ++ [p], by rw [ht, List.append_assoc]⟩, fun a vs h => ?_, fun a u h g => ?_, fun a u vs h => ?_, fun a fs h => ?_⟩
  · have h2 := et.tup a vs h
    rcases h with h | h
    · have ha : a ≠ p := rd_none hp h
      exact h2.imp (fun h => Rd.upd ha h) id
    · exact .inr h
  · have ha := ne_of_none g hp
    obtain ⟨h1, h2⟩ := et.oth a u h g
    exact ⟨by simp [h1, ha], by rw [upd_ne ha]; exact h2⟩
  · rw [upd_ne (ne_of_none h hp)]; exact et.fz a u vs h
  · rw [upd_ne (ne_of_none h hp)]; exact et.xd a fs h
/-- what data ask, when a dict is filled -/
theorem Ex0.fill {K : PySem.W.Frag} {ρ : List Addr} {H : Hp} {p : Addr} {kvs : List (Key × V)} {o : HO} (h : H p = some (.dK kvs)) (hn : p ∉ ρ) : Ex0 K ρ H (ρ ++ [p]) (upd H p o) := by
  refine ⟨⟨[p], rfl⟩, fun a vs g => ?_, fun a vs g1 g2 => ?_, fun a o vs g => ?_⟩
  · refine g.imp (fun g => Rd.upd (fun z => ?_) g) id
    subst z
    rcases g with g | ⟨_, g⟩ <;> rw [h] at g <;> cases g
  · have ha : a ≠ p := fun z => by subst z; rw [h] at g2; cases g2
    exact ⟨by simp [g1, ha], by rw [upd_ne ha]; exact g2⟩
  · have ha : a ≠ p := fun z => by subst z; rw [h] at g; cases g
    rw [upd_ne ha]; exact g
theorem OR.mono0 {K : PySem.W.Frag} {ρ ρ' : List Addr} {H H' : Hp} (e : Ex0 K ρ H ρ' H') {a : Addr} {o : Ob} (h : OR K ρ H a o) (k : ∀ u, H a = Option.some u → H' a = Option.some u) : OR K ρ' H' a o := by
  cases o with
  | lst xs => obtain ⟨vs, h1, h2⟩ := h; exact ⟨vs, k _ h1, DVs.mono0 e _ _ h2⟩
  | dic xs => obtain ⟨vs, h1, h2⟩ := h; exact ⟨vs, k _ h1, KVR.mono0 e _ _ h2⟩
  | set S n => exact k _ h
  | ins c N fs => obtain ⟨dx, vs, h1, h2⟩ := h; exact ⟨dx, vs, k _ h1, DVs.mono0 e _ _ h2⟩
theorem Rel.fill {K : PySem.W.Frag} {ρ : List Addr} {S : Sto} {H : Hp} (r : Rel K ρ S H) {p : Addr} {kvs : List (Key × V)} {o : HO} {u : Ob} (h : H p = some (.dK kvs)) (hn : p ∉ ρ) (q : OR K (ρ ++ [p]) (upd H p o) p u) : Rel K (ρ ++ [p]) (S ++ [u]) (upd H p o) := by
  refine ⟨by simp [r.len], ?_, fun n w a h1 h2 => ?_⟩
  · rw [List.nodup_append]
    refine ⟨r.nd, by simp, fun x hx y hy z => ?_⟩
    simp only [List.mem_singleton] at hy
    subst hy z
    exact hn hx
  · by_cases hl : n < S.length
    · rw [List.getElem?_append_left hl] at h1
      rw [List.getElem?_append_left (by rw [r.len]; exact hl)] at h2
      have ha : a ≠ p := fun z => by subst z; exact hn (List.mem_of_getElem? h2)
      exact OR.mono0 (Ex0.fill h hn) (r.at_ n w a h1 h2) fun q hq => by rw [upd_ne ha]; exact hq
    · have hn2 : n = S.length := by
        have := (List.getElem?_eq_some_iff.mp h1).1
        simp only [List.length_append, List.length_singleton] at this
        omega
      subst hn2
      rw [List.getElem?_append_right (Nat.le_refl _), Nat.sub_self] at h1
      rw [List.getElem?_append_right (by rw [r.len]; exact Nat.le_refl _), r.len, Nat.sub_self] at h2
      simp only [List.getElem?_cons_zero, Option.some.injEq] at h1 h2
      subst h1 h2
      exact q
theorem ed_disp {ks : List (Option Expr)} {vs : List Expr} {ms : List (ME × ME)} (h : PDs X W ks vs ms) (hall : ks.all (·.isSome) = true) (hl : ks.length = vs.length) (h0 : ks ≠ []) (h15 : ks.length ≤ 15) (hm : ms.length = ks.length) :
    ED X W (.Dict ks vs pos) (mDisp ms) := by
  refine ed_of (pe_disp (h.pps (pos := pos)) hall hl h0 h15) fun σ H Q ρ S E r er p => ?_
  intro a ha
  have hna := r.notin ha
  refine pairs_read ms σ _ _ ρ S E (r.new ha) (er.mono (Ext.new ha)) ?_
  unfold mDisp at p
  cases q : mPairs ms E S with
  | bad => rw [q] at p; exact p.elim
  | ex e S' => rw [q] at p; exact fun ρ' H' c dx x1 x2 x3 => p ρ' H' c dx x1 ((Ext.new ha).trans x2) x3
  | ok xs S1 =>
    rw [q, bind_ok] at p
    intro ρ2 H2 ws r2 e2 pr
    obtain ⟨hn2, hd⟩ := e2.oth a (.dK []) hna upd_same
    refine ⟨hd, ?_⟩
    cases hk : keysD xs with
    | none => rw [hk] at p; exact p.elim
    | some kvs =>
      rw [hk] at p
      obtain ⟨us, b1, b2, b3⟩ := PR.keys pr hk
      refine ⟨us, b1, by rw [← b2.length, b3, mPairs_len q, hm]; exact h15, ?_⟩
      exact p (ρ2 ++ [a]) _ _ (r2.fill hd hn2 ⟨_, upd_same, KVR.mono0 (Ex0.fill hd hn2) _ _ (KVR.merge b2 (kvs := []) (us := []) rfl)⟩) (Ext.fill ha e2 hn2) (by simp only [DV]; exact ⟨a, rfl, by rw [List.getElem?_append_right (by rw [r2.len]; exact Nat.le_refl _), r2.len, Nat.sub_self]; rfl⟩)
end
end PD

/-! PyF3: to read and write dicts; written dicts of texts. -/
namespace PD
open PySem PySem.Spec PyProof PyProof.Rows L2
theorem room1 {k : Nat} {A : Around} (r : Room k A) : A.units + 1 < cLine := by have := room65 r; omega
/-- the dict at a place of the store -/
def dicAt (S : Sto) (d : D) : Option (List (Key × D)) := match d with
  | .loc n => (match S[n]? with
    | some (.dic kvs) => some kvs
    | _ => none)
  | _ => none
theorem dicAt_ok {K : PySem.W.Frag} {ρ : List Addr} {S : Sto} {H : Hp} (r : Rel K ρ S H) {d : D} {v : V} {kvs : List (Key × D)} (dv : DV K ρ H d v) (h : dicAt S d = some kvs) : ∃ n a us, d = .loc n ∧ S[n]? = some (.dic kvs) ∧ ρ[n]? = some a ∧ v = .ref a ∧ H a = some (.dK us) ∧ KVR K ρ H kvs us := by
  unfold dicAt at h
  cases d with
  | loc n =>
    simp only at h
    split at h
    · rename_i k e
      cases h
      simp only [DV] at dv
      obtain ⟨a, rfl, ha⟩ := dv
      obtain ⟨us, h1, h2⟩ := r.at_ n _ a e ha
      exact ⟨n, a, us, rfl, e, ha, rfl, h1, h2⟩
    · cases h
  | _ => cases h
def gDget (S : Sto) (x y : D) : Option D := match dicAt S x, keyD y with
  | some kvs, some k => valD kvs k
  | _, _ => none
def gDin (S : Sto) (y x : D) : Option D := match dicAt S x, keyD y with
  | some kvs, some k => some (.bl (valD kvs k).isSome)
  | _, _ => none
def gDnin (S : Sto) (y x : D) : Option D := match dicAt S x, keyD y with
  | some kvs, some k => some (.bl (!(valD kvs k).isSome))
  | _, _ => none
section
variable {X : Cx} {W : WW X.K} {pos apos : Pos} {a b o i e f : Expr} {ma mb mo mi me mf : ME}
theorem rp_dget : ∀ x y H Q, rP X.K gDget x y H Q → ∃ a v, x = .ref a ∧ DGet H a y (some v) ∧ Q v H := by
  rintro v u H Q ⟨ρ, S, x, y, d, r, dx, dy, hg, q⟩
  unfold gDget at hg
  split at hg
  · rename_i kvs k e1 e2
    obtain ⟨n, a, us, rfl, _, _, rfl, h1, h2⟩ := dicAt_ok r dx e1
    obtain ⟨w, h3, h4⟩ := (KVR.val (k := k) h2).1 d hg
    rw [keyD_V e2 dy]
    exact ⟨a, w, rfl, by rw [← h3]; exact DGet.k h1, q ρ H w r Ext.refl h4⟩
  · cases hg
theorem some_val {K : PySem.W.Frag} {ρ : List Addr} {H : Hp} {kvs : List (Key × D)} {us : List (Key × V)} {k : Key} (h : KVR K ρ H kvs us) : (valV us k).isSome = (valD kvs k).isSome := by
  obtain ⟨a, b⟩ := KVR.val (k := k) h
  cases e : valD kvs k with
  | none => rw [b e]; rfl
  | some d => obtain ⟨v, h1, _⟩ := a d e; rw [h1]; rfl
theorem rp_din : ∀ y x H Q, rP X.K gDin y x H Q → ∃ a o, x = .ref a ∧ DGet H a y o ∧ Q (.bl o.isSome) H := by
  rintro u v H Q ⟨ρ, S, y, x, d, r, dy, dx, hg, q⟩
  unfold gDin at hg
  split at hg
  · rename_i kvs k e1 e2
    cases hg
    obtain ⟨n, a, us, rfl, _, _, rfl, h1, h2⟩ := dicAt_ok r dx e1
    rw [keyD_V e2 dy]
    exact ⟨a, _, rfl, DGet.k h1, by rw [some_val h2]; exact q ρ H _ r Ext.refl (by simp [DV])⟩
  · cases hg
theorem rp_dnin : ∀ y x H Q, rP X.K gDnin y x H Q → ∃ a o, x = .ref a ∧ DGet H a y o ∧ Q (.bl (!o.isSome)) H := by
  rintro u v H Q ⟨ρ, S, y, x, d, r, dy, dx, hg, q⟩
  unfold gDnin at hg
  split at hg
  · rename_i kvs k e1 e2
    cases hg
    obtain ⟨n, a, us, rfl, _, _, rfl, h1, h2⟩ := dicAt_ok r dx e1
    rw [keyD_V e2 dy]
    exact ⟨a, _, rfl, DGet.k h1, by rw [some_val h2]; exact q ρ H _ r Ext.refl (by simp [DV])⟩
  · cases hg
theorem ed_dget (hu : X.A.units + 1 < cLine) (ho : ED X W o mo) (hi : ED X W i mi) (hs : NoSl i) : ED X W (.Subscript o i pos) (mBin gDget mo mi) := ed_of (pe_dget hu ho hi hs) (bin_read rp_dget)
theorem ed_din (hu : X.A.units + 1 < cLine) (hi : ED X W i mi) (ho : ED X W o mo) (hb : behindInMarks .In o = false := by rfl) : ED X W (.Compare i [.In] [o] pos) (mBin gDin mi mo) := ed_of (pe_cmp (pc_din hu hi ho) hb) (bin_read rp_din)
theorem ed_dnin (hu : X.A.units + 1 < cLine) (hi : ED X W i mi) (ho : ED X W o mo) (hb : behindInMarks .NotIn o = false := by rfl) : ED X W (.Compare i [.NotIn] [o] pos) (mBin gDnin mi mo) := ed_of (pe_cmp (pc_dnotin hu hi ho) hb) (bin_read rp_dnin)
theorem td_din (hu : X.A.units + 1 < cLine) (hi : ED X W i mi) (ho : ED X W o mo) (hb : behindInMarks .In o = false := by rfl) : TD X W (.Compare i [.In] [o] pos) (asB (mBin gDin mi mo)) :=
  td_of (pt_cmp (pc_din hu hi ho) hb) (asB_read fun σ H Q ⟨ρ, S, E, r, er, p⟩ => bin_read rp_din σ H Q ρ S E r er p)
theorem td_dnin (hu : X.A.units + 1 < cLine) (hi : ED X W i mi) (ho : ED X W o mo) (hb : behindInMarks .NotIn o = false := by rfl) : TD X W (.Compare i [.NotIn] [o] pos) (asB (mBin gDnin mi mo)) :=
  td_of (pt_cmp (pc_dnotin hu hi ho) hb) (asB_read fun σ H Q ⟨ρ, S, E, r, er, p⟩ => bin_read rp_dnin σ H Q ρ S E r er p)
/-- d.get(e, f) -/
def mDget2 (o e f : ME) : ME := fun E S => (o E S).bind fun x S1 => match dicAt S1 x with
  | some _ => (e E S1).bind fun y S2 => (f E S2).bind fun z S3 => (match dicAt S3 x, keyD y with
    | some kvs, some k => .ok ((valD kvs k).getD z) S3
    | _, _ => .bad)
  | none => .bad
theorem ed_dget2 (hu : X.A.units + 1 < cLine) (ho : ED X W o mo) (he : ED X W e me) (hf : ED X W f mf) (m : M2 X o "get" apos e f pos) : ED X W (.Call (.Attribute o "get" apos) [e, f] [] pos) (mDget2 mo me mf) := by
  refine ed_of (pe_dget2 hu ho he hf m) fun σ H Q ρ S E r er p => ?_
  refine ⟨ρ, S, E, r, er, (Post.bind (R := DV X.K) p).imp fun x H1 ⟨ρ1, S1, dx, r1, e1, d1, p1⟩ => ?_⟩
  cases q1 : dicAt S1 dx with
  | none => rw [q1] at p1; exact p1.elim
  | some kv1 =>
    rw [q1] at p1
    obtain ⟨n, a, us, rfl, _, _, rfl, h1, _⟩ := dicAt_ok r1 d1 q1
    refine ⟨a, rfl, .inl ⟨us, Rd.of h1⟩, ρ1, S1, E, r1, er.mono e1, (Post.bind (R := DV X.K) p1).imp fun y H2 ⟨ρ2, S2, dy, r2, e2, d2, p2⟩ => ?_⟩
    refine ⟨ρ2, S2, E, r2, (er.mono e1).mono e2, (Post.bind (R := DV X.K) p2).imp fun z H3 ⟨ρ3, S3, dz, r3, e3, d3, p3⟩ => ?_⟩
    have d1' := DV.mono e3 _ _ (DV.mono e2 _ _ d1)
    cases q3 : dicAt S3 (.loc n) with
    | none => rw [q3] at p3; exact p3.elim
    | some kvs =>
      cases qk : keyD dy with
      | none => rw [q3, qk] at p3; exact p3.elim
      | some k =>
        rw [q3, qk] at p3
        obtain ⟨n', a', us', en, _, _, ea, h4, h5⟩ := dicAt_ok r3 d1' q3
        cases ea
        rw [keyD_V qk (DV.mono e3 _ _ d2)]
        refine ⟨_, DGet.k h4, ?_⟩
        obtain ⟨va, vb⟩ := KVR.val (k := k) h5
        cases ev : valD kvs k with
        | none => rw [vb ev]; simp only [ev] at p3; exact p3 ρ3 H3 z r3 Ext.refl d3
        | some d =>
          obtain ⟨w, h6, h7⟩ := va d ev
          rw [h6]; simp only [ev] at p3
          exact p3 ρ3 H3 w r3 Ext.refl h7
/-! d[k] = v -/
theorem Ext.writeD {K : PySem.W.Frag} {ρ : List Addr} {H : Hp} {a : Addr} {us : List (Key × V)} {o : HO} (ha : a ∈ ρ) (h : H a = some (.dK us)) : Ext K ρ H ρ (upd H a o) := by
  refine ⟨⟨[], by simp⟩, fun b ws hb => ?_, fun b w hb hw => ⟨hb, ?_⟩, fun b o ws hb => ?_, fun b fs hb => ?_⟩
  · refine hb.imp (fun hb => Rd.upd (fun z => ?_) hb) id
    subst z
    rcases hb with hb | ⟨o, hb⟩ <;> rw [h] at hb <;> cases hb
  · rw [upd_ne (fun z => by subst z; exact hb ha)]; exact hw
  · rw [upd_ne (fun z => by subst z; rw [h] at hb; cases hb)]; exact hb
  · rw [upd_ne (fun z => by subst z; rw [h] at hb; cases hb)]; exact hb
theorem Rel.writeD {K : PySem.W.Frag} {ρ : List Addr} {S : Sto} {H : Hp} (r : Rel K ρ S H) {n : Nat} {a : Addr} {kvs kvs2 : List (Key × D)} {us us2 : List (Key × V)} (ha : ρ[n]? = some a) (hs : S[n]? = some (.dic kvs)) (h : H a = some (.dK us)) (d : KVR K ρ H kvs2 us2) :
    Rel K ρ (S.set n (.dic kvs2)) (upd H a (.dK us2)) := by
  have e := Ext.writeD (K := K) (o := .dK us2) (List.mem_of_getElem? ha) h
  refine ⟨by simpa using r.len, r.nd, fun m o b h1 h2 => ?_⟩
  by_cases hm : n = m
  · subst hm
    rw [ha] at h2; cases h2
    have hl := (List.getElem?_eq_some_iff.mp hs).1
    rw [List.getElem?_set_self hl] at h1
    cases h1
    exact ⟨us2, upd_same, KVR.mono e _ _ d⟩
  · rw [List.getElem?_set_ne hm] at h1
    have hb : b ≠ a := fun z => by subst z; exact hm (nodup_at r.nd ha h2)
    exact (r.at_ m o b h1 h2).mono e fun u hu => by rw [upd_ne hb]; exact hu
open Classical in
noncomputable def mDput (v o i : ME) : MS := fun E S => (v E S).toS E fun w S1 => (o E S1).toS E fun x S2 => (i E S2).toS E fun y S3 => match x, dicAt S3 x, keyD y with
  | .loc n, some kvs, some k => if sizeOk (kvs.length + 1) then .nx E (S3.set n (.dic (putD kvs k w))) else .bad
  | _, _, _ => .bad
theorem sd_dput {v : Expr} {mv : ME} {pos' : Pos} (hu : X.A.units + 1 < cLine) (hv : ED X W v mv) (ho : ED X W o mo) (hi : ED X W i mi) (hs : swapsWith v (some (.Subscript o i pos')) pos.line X.env = pure false := by rfl) :
    SD X W (.Assign [.Subscript o i pos'] v pos) (mDput mv mo mi) := by
  refine sd_of (ps_dput hu ho hi hv hs) fun D σ H ρ S E r er p => ?_
  refine ⟨ρ, S, E, r, er, (SPost.bind (R := DV X.K) er p).imp fun w H1 ⟨ρ1, S1, dw, r1, e1, d1, p1⟩ => ?_⟩
  have er1 := er.mono e1
  refine ⟨ρ1, S1, E, r1, er1, (SPost.bind (R := DV X.K) er1 p1).imp fun x H2 ⟨ρ2, S2, dx, r2, e2, d2, p2⟩ => ?_⟩
  have er2 := er1.mono e2
  refine ⟨ρ2, S2, E, r2, er2, (SPost.bind (R := DV X.K) er2 p2).imp fun y H3 ⟨ρ3, S3, dy, r3, e3, d3, p3⟩ => ?_⟩
  have d2' := DV.mono e3 _ _ d2
  cases q : dicAt S3 dx with
  | none => rw [q] at p3; cases dx <;> exact p3.elim
  | some kvs =>
    cases qk : keyD dy with
    | none => rw [q, qk] at p3; cases dx <;> exact p3.elim
    | some k =>
      obtain ⟨n, a, us, rfl, h1, h2, rfl, h3, h4⟩ := dicAt_ok r3 d2' q
      rw [q, qk] at p3
      simp only at p3
      by_cases hz : sizeOk (kvs.length + 1)
      · rw [if_pos hz] at p3
        rw [keyD_V qk d3]
        have hl : us.length < sizeLine := by rw [← h4.length]; exact hz
        refine ⟨a, _, rfl, DPut.k h3 hl, ?_⟩
        have e4 := Ext.writeD (K := X.K) (o := .dK (putK us k w)) (List.mem_of_getElem? h2) h3
        exact p3 ρ3 _ σ (r3.writeD h2 h1 h3 (h4.put (DV.mono e3 _ _ (DV.mono e2 _ _ d1)))) e4 ((er2.mono e3).mono e4)
      · rw [if_neg hz] at p3; exact p3.elim
/-! written dicts of texts, by their names -/
def lookT : List (Tx × D) → Tx → Option D
  | [], _ => none
  | (k, d) :: r, z => if k = z then some d else lookT r z
structure TabOk (K : PySem.W.Frag) (w : World) (x : String) (kvs : List (Tx × D)) : Prop where
  kd : ∃ es n, KDict K w (He.ga K x) es n
  vs : ∀ z : Tx, ∃ r, PySem.W.nsIn K (He.ga K x) ⟨z.toArray⟩ = some r ∧ (match lookT kvs z with
    | some d => ∃ u v, r = some u ∧ RelV v u ∧ ∀ ρ H, DV K ρ H d v
    | none => r = none)
def gTin (x : String) (kvs : List (Tx × D)) (_ : Sto) (y d : D) : Option D := match y, d with
  | .str z, .glo n => if n = x then some (.bl (lookT kvs z).isSome) else none
  | _, _ => none
def gTget (x : String) (kvs : List (Tx × D)) (_ : Sto) (d y : D) : Option D := match d, y with
  | .glo n, .str z => if n = x then lookT kvs z else none
  | _, _ => none
theorem tin_ok {x : String} {kvs : List (Tx × D)} (t : TabOk X.K X.w x kvs) : ∃ es n, ∃ kd : KDict X.K X.w (He.ga X.K x) es n, ∀ y d H Q, rP X.K (gTin x kvs) y d H Q →
    ∃ (z : Str) (r : Option Value), y = .str z ∧ d = .ref (He.ga X.K x) ∧ PySem.W.nsIn X.K (He.ga X.K x) z = some r ∧ Q (.bl r.isSome) H := by
  obtain ⟨es, n, kd⟩ := t.kd
  refine ⟨es, n, kd, ?_⟩
  rintro u v H Q ⟨ρ, S, y, d, res, r, dy, dd, hg, q⟩
  unfold gTin at hg
  split at hg
  · rename_i z nm
    split at hg
    · rename_i hn
      cases hg
      subst hn
      rw [dv_str] at dy; subst dy
      simp only [DV] at dd; subst dd
      obtain ⟨o, h1, h2⟩ := t.vs z
      refine ⟨_, o, rfl, rfl, h1, ?_⟩
      have : o.isSome = (lookT kvs z).isSome := by
        cases e : lookT kvs z with
        | none => rw [e] at h2; rw [h2]; rfl
        | some d => rw [e] at h2; obtain ⟨u, v, h3, _⟩ := h2; rw [h3]; rfl
      rw [this]
      exact q ρ H _ r Ext.refl (by simp [DV])
    · cases hg
  · cases hg
theorem td_tin {x : String} {kvs : List (Tx × D)} (t : TabOk X.K X.w x kvs) (ha : ED X W a ma) (hb : ED X W b mb) (hm : behindInMarks .In b = false) : TD X W (.Compare a [.In] [b] pos) (asB (mBin (gTin x kvs) ma mb)) := by
  obtain ⟨es, n, kd, h⟩ := tin_ok t
  exact td_cmp (op_in_kd kd) h ha hb hm
theorem ed_tin {x : String} {kvs : List (Tx × D)} (t : TabOk X.K X.w x kvs) (ha : ED X W a ma) (hb : ED X W b mb) (hm : behindInMarks .In b = false) : ED X W (.Compare a [.In] [b] pos) (mBin (gTin x kvs) ma mb) := by
  obtain ⟨es, n, kd, h⟩ := tin_ok t
  exact ed_cmp (op_in_kd kd) h ha hb hm
theorem rp_tget {x : String} {kvs : List (Tx × D)} (t : TabOk X.K X.w x kvs) : ∀ d y H Q, rP X.K (gTget x kvs) d y H Q → rIxD X.K X.w d y H Q := by
  obtain ⟨es, n, kd⟩ := t.kd
  rintro u v H Q ⟨ρ, S, d, y, res, r, dd, dy, hg, q⟩
  unfold gTget at hg
  split at hg
  · rename_i nm z
    split at hg
    · rename_i hn
      subst hn
      rw [dv_str] at dy; subst dy
      simp only [DV] at dd; subst dd
      obtain ⟨o, h1, h2⟩ := t.vs z
      rw [hg] at h2
      obtain ⟨u, w, rfl, h3, h4⟩ := h2
      exact ⟨_, _, w, rfl, rfl, ⟨es, n, u, kd.at_, kd.lit, h1, h3⟩, q ρ H w r Ext.refl (h4 ρ H)⟩
    · cases hg
  · cases hg
theorem ed_tget {x : String} {kvs : List (Tx × D)} (t : TabOk X.K X.w x kvs) (ha : ED X W a ma) (hb : ED X W b mb) (hs : PlainIx b) : ED X W (.Subscript a b pos) (mBin (gTget x kvs) ma mb) := ed_ix ix_kdict (rp_tget t) ha hb hs
end
/-! what the look at the written part must say -/
def tabEs (K : PySem.W.Frag) : List (Tx × D) → List DictEntry → Bool
  | [], es => es.isEmpty
  | (k, d) :: r, es => match es with
    | e :: t => (match e.key with
      | .str x _ => decide (x = ⟨k.toArray⟩)
      | _ => false) && (datC K d e.val && tabEs K r t)
    | [] => false
def tabC (K : PySem.W.Frag) (x : String) (kvs : List (Tx × D)) : Bool := match K.lookup (He.ga K x) with
  | some ⟨_, _, .dict es _, _⟩ => tabEs K kvs es.toList
  | _ => false
theorem tx_eq {a b : Tx} : ((⟨a.toArray⟩ : Str) == ⟨b.toArray⟩) = decide (a = b) := tx_str
theorem tabEs_ok {K : PySem.W.Frag} : ∀ (kvs : List (Tx × D)) (es : List DictEntry), tabEs K kvs es = true → (∀ z : Tx, match lookT kvs z with
    | some d => ∃ e, es.find? (fun e => e.key.isStr ⟨z.toArray⟩) = some e ∧ ∃ v, RelV v e.val ∧ ∀ ρ H, DV K ρ H d v
    | none => es.find? (fun e => e.key.isStr ⟨z.toArray⟩) = none) ∧ es.any (·.refKey) = false
  | [], es, h => by
    have : es = [] := by simpa [tabEs] using h
    subst this
    exact ⟨fun z => rfl, rfl⟩
  | (k, d) :: r, es, h => by
    cases es with
    | nil => simp [tabEs] at h
    | cons e t =>
      simp only [tabEs, Bool.and_eq_true] at h
      obtain ⟨h1, h2, h3⟩ := h
      split at h1
      · rename_i x tk he
        have hx : x = ⟨k.toArray⟩ := of_decide_eq_true h1
        subst hx
        obtain ⟨a, b⟩ := tabEs_ok r t h3
        obtain ⟨w, g1, g2⟩ := datC_ok d e.val h2
        refine ⟨fun z => ?_, ?_⟩
        · have hk : e.key.isStr ⟨z.toArray⟩ = decide (k = z) := by rw [he]; exact tx_eq
          by_cases hz : k = z
          · have e1 : lookT ((k, d) :: r) z = some d := by simp [lookT, hz]
            rw [e1]
            exact ⟨e, by rw [List.find?_cons, hk, decide_eq_true hz], w, g1, g2⟩
          · have e1 : lookT ((k, d) :: r) z = lookT r z := by simp [lookT, hz]
            have e2 : (e :: t).find? (fun e => e.key.isStr ⟨z.toArray⟩) = t.find? (fun e => e.key.isStr ⟨z.toArray⟩) := by rw [List.find?_cons, hk, decide_eq_false hz]
            rw [e1, e2]
            exact a z
        · rw [List.any_cons, b, Bool.or_false]
          unfold DictEntry.refKey
          rw [he]
      · cases h1
theorem tab_of {K : PySem.W.Frag} {w : World} {x : String} {kvs : List (Tx × D)} (h : tabC K x kvs = true) (hk : ∃ es n, KDict K w (He.ga K x) es n) : TabOk K w x kvs := by
  refine ⟨hk, fun z => ?_⟩
  unfold tabC at h
  split at h
  · rename_i c dd es n sl q
    obtain ⟨a, b⟩ := tabEs_ok kvs _ h
    have hz := a z
    unfold PySem.W.nsIn
    rw [q]
    simp only
    cases e : lookT kvs z with
    | some d =>
      rw [e] at hz
      obtain ⟨en, h1, v, h2, h3⟩ := hz
      rw [h1]
      exact ⟨_, rfl, en.val, v, rfl, h2, h3⟩
    | none =>
      rw [e] at hz
      simp only at hz
      rw [hz, b]
      exact ⟨none, rfl, rfl⟩
  · cases h
/-! ### the look with tables -/
def keysT (kvs : List (Tx × D)) : List Str := kvs.map fun p => ⟨p.1.toArray⟩
abbrev TabN : Type := String × List Str
def obsBT (n : Nat) (fa : List He.Fa) (fn : List He.DefD) (ex : PySem.W.Frag → Bool) (ts : List TabN) (g : Addr → Option Obj) : (He.AlD × Bool) × List (Option (List (Option (Str × Int)))) :=
  (obsB n fa fn ex g, ts.map fun t => He.dicW (He.frG g (He.asD g n)) (He.ga (He.frG g (He.asD g n)) t.1))
def hookBT (n : Nat) (fa : List He.Fa) (fn : List He.DefD) (ex : PySem.W.Frag → Bool) (ts : List TabN) : PySem.W.Hook where
  α := (He.AlD × Bool) × List (Option (List (Option (Str × Int))))
  obs := fun s => obsBT n fa fn ex ts s.heap.get?
  val := fun w => ((He.valD fn, true), ts.map fun (t : TabN) => some (He.keysIn w.params t.2))
  says := fun w h => ∃ K : PySem.W.Frag, K.In h ∧ He.SaysD fa fn K ∧ ex K = true ∧ ts.map (fun (t : TabN) => He.dicW K (He.ga K t.1)) = ts.map fun (t : TabN) => some (He.keysIn w.params t.2)
  of := fun _ _ e => ⟨_, He.frG_in, congrArg (fun z : (He.AlD × Bool) × List (Option (List (Option (Str × Int)))) => z.1.1) e, congrArg (fun z : (He.AlD × Bool) × List (Option (List (Option (Str × Int)))) => z.1.2) e, congrArg (fun z : (He.AlD × Bool) × List (Option (List (Option (Str × Int)))) => z.2) e⟩
  keeps := fun _ _ _ ⟨K, hK, c⟩ k => ⟨K, PySem.W.Frag.In.keeps hK k, c⟩
theorem obsBT_eq {n : Nat} {fa : List He.Fa} {fn : List He.DefD} {ex : PySem.W.Frag → Bool} {ts : List TabN} {g : Addr → Option Obj} {s : Shared} (h : ∀ a, g a = s.heap.get? a) : obsBT n fa fn ex ts g = (hookBT n fa fn ex ts).obs s := by
  have e : g = s.heap.get? := funext h
  rw [e] <;> rfl
theorem tab_at {K : PySem.W.Frag} {w : World} {ts : List TabN} (c : ts.map (fun (t : TabN) => He.dicW K (He.ga K t.1)) = ts.map fun (t : TabN) => some (He.keysIn w.params t.2)) (i : Nat) {t : TabN} (h : ts[i]? = some t := by rfl) : ∃ es n, KDict K w (He.ga K t.1) es n := by
  have e2 : (ts.map fun t => He.dicW K (He.ga K t.1))[i]? = (ts.map fun (t : TabN) => some (He.keysIn w.params t.2))[i]? := by rw [c]
  rw [List.getElem?_map, List.getElem?_map, h] at e2
  exact He.dicW_ok (Option.some.inj e2)
/-! ### to reckon with -/
section
variable {Q : D → Sto → Prop} {QP : List (D × D) → Sto → Prop} {QD : D → Prop} {N B C : EC} {R : D → Sto → Prop} {XE : Exn → EC} {X : Exn → Sto → Prop} {E : Evn} {S : Sto} {P P' : Prop}
def OkDic (o : Option (List (Key × D))) (Q : List (Key × D) → Prop) (_u : Tg Q Q := .mk) : Prop := match o with
  | some k => Q k
  | none => False
def OkKey (o : Option Key) (Q : Key → Prop) (_u : Tg Q Q := .mk) : Prop := match o with
  | some k => Q k
  | none => False
theorem w_dnew : OkO (mDnew E S) Q X = OkN (S ++ [.dic []]) fun S1 => Q (.loc S.length) S1 := rfl
theorem w_pairs0 : OkO (mPairs [] E S) QP X = QP [] S := rfl
theorem w_pairs1 {k v : ME} {r : List (ME × ME)} : OkO (mPairs ((k, v) :: r) E S) QP X = OkO (k E S) (fun x S1 => OkO (v E S1) (fun y S2 => OkO (mPairs r E S2) (fun ps S3 => QP ((x, y) :: ps) S3) X) X) X := by
  rw [mPairs]
  exact w_bind.trans (OkO_fun fun _ _ => w_bind.trans (OkO_fun fun _ _ => w_bind.trans (OkO_fun fun _ _ => rfl)))
theorem w_disp {ms : List (ME × ME)} : OkO (mDisp ms E S) Q X = OkO (mPairs ms E S) (fun xs S1 => OkDic (keysD xs) fun kvs => OkN (S1 ++ [.dic (mergeD [] kvs)]) fun S2 => Q (.loc S1.length) S2) X := by
  unfold mDisp
  refine w_bind.trans (OkO_fun fun xs S1 => ?_)
  cases keysD xs <;> rfl
theorem w_dics {k : List (Key × D)} {Q : List (Key × D) → Prop} : OkDic (some k) Q = Q k := rfl
theorem w_keys {k : Key} {Q : Key → Prop} : OkKey (some k) Q = Q k := rfl
theorem keysD_nil : keysD [] = some [] := rfl
theorem keysD_str {x : Tx} {d : D} {r : List (D × D)} : keysD ((.str x, d) :: r) = (keysD r).map fun t => (Sum.inr ⟨x.toArray⟩, d) :: t := by
  simp only [keysD, keyD]
  cases keysD r <;> rfl
theorem keysD_int {x : Int} {d : D} {r : List (D × D)} : keysD ((.int x, d) :: r) = (keysD r).map fun t => (Sum.inl x, d) :: t := by
  simp only [keysD, keyD]
  cases keysD r <;> rfl
theorem p_dget {x y : D} : OkP (gDget S x y) QD = OkDic (dicAt S x) fun kvs => OkKey (keyD y) fun k => OkP (valD kvs k) QD := by
  unfold gDget
  cases dicAt S x with
  | none => rfl
  | some kvs => cases keyD y <;> rfl
theorem p_din {x y : D} : OkP (gDin S y x) QD = OkDic (dicAt S x) fun kvs => OkKey (keyD y) fun k => QD (.bl (hasD kvs k)) := by
  unfold gDin
  cases dicAt S x with
  | none => rfl
  | some kvs =>
    cases keyD y with
    | none => rfl
    | some k =>
      show QD (.bl (valD kvs k).isSome) = QD (.bl (hasD kvs k))
      rw [has_val]
theorem p_dnin {x y : D} : OkP (gDnin S y x) QD = OkDic (dicAt S x) fun kvs => OkKey (keyD y) fun k => QD (.bl (!hasD kvs k)) := by
  unfold gDnin
  cases dicAt S x with
  | none => rfl
  | some kvs =>
    cases keyD y with
    | none => rfl
    | some k =>
      show QD (.bl (!(valD kvs k).isSome)) = QD (.bl (!hasD kvs k))
      rw [has_val]
theorem w_dget2 {o e f : ME} : OkO (mDget2 o e f E S) Q X = OkO (o E S) (fun x S1 => OkDic (dicAt S1 x) fun _ => OkO (e E S1) (fun y S2 => OkO (f E S2) (fun z S3 => OkDic (dicAt S3 x) fun kvs => OkKey (keyD y) fun k => OkN ((valD kvs k).getD z) fun d => Q d S3) X) X) X := by
  unfold mDget2
  refine w_bind.trans (OkO_fun fun x S1 => ?_)
  cases dicAt S1 x with
  | none => rfl
  | some k1 =>
    refine w_bind.trans (OkO_fun fun y S2 => w_bind.trans (OkO_fun fun z S3 => ?_))
    cases dicAt S3 x with
    | none => rfl
    | some kvs => cases keyD y <;> rfl
theorem w_dput {v o i : ME} : OkS (mDput v o i E S) N R XE B C = OkO (v E S) (fun w S1 => OkO (o E S1) (fun x S2 => OkO (i E S2) (fun y S3 => OkLoc x fun n => OkDic (dicAt S3 x) fun kvs => OkKey (keyD y) fun k => sizeOk (kvs.length + 1) ∧ OkN (S3.set n (.dic (putD kvs k w))) fun S4 => N E S4) (fun e S1 => XE e E S1)) (fun e S1 => XE e E S1)) (fun e S1 => XE e E S1) := by
  unfold mDput
  refine w_toS.trans (OkO_fun fun w S1 => w_toS.trans (OkO_fun fun x S2 => w_toS.trans (OkO_fun fun y S3 => ?_)))
  cases x <;> first | rfl | skip
  rename_i n
  cases dicAt S3 (.loc n) with
  | none => rfl
  | some kvs =>
    cases keyD y with
    | none => rfl
    | some k =>
      simp only [OkLoc, OkDic, OkKey]
      by_cases h : sizeOk (kvs.length + 1)
      · simp only [if_pos h, h, true_and]; rfl
      · simp only [if_neg h, h, false_and]; rfl
theorem dicAt_loc {n : Nat} {kvs : List (Key × D)} (h : S[n]? = some (.dic kvs)) : dicAt S (.loc n) = some kvs := by simp only [dicAt, h]
theorem dicAt_locM {n : Nat} : dicAt S (.loc n) = (match S[n]? with
    | some (.dic kvs) => some kvs
    | _ => none) := rfl
theorem keyD_str {x : Tx} : keyD (.str x) = some (Sum.inr ⟨x.toArray⟩) := rfl
theorem keyD_int {x : Int} : keyD (.int x) = some (Sum.inl x) := rfl
theorem merge_nil {kvs : List (Key × D)} : mergeD kvs [] = kvs := rfl
theorem merge_cons {kvs r : List (Key × D)} {p : Key × D} : mergeD kvs (p :: r) = mergeD (putD kvs p.1 p.2) r := rfl
theorem p_tin {x : String} {kvs : List (Tx × D)} {z : Tx} : gTin x kvs S (.str z) (.glo x) = some (.bl (lookT kvs z).isSome) := by simp [gTin]
theorem p_tget {x : String} {kvs : List (Tx × D)} {z : Tx} : gTget x kvs S (.glo x) (.str z) = lookT kvs z := by simp [gTget]
end
end PD

/-! PyF4: chains of comparisons, replace behind what gives out a token. -/
namespace PD
open PySem PySem.Spec PyProof PyProof.Rows L2
/-! ### a op b op c -/
def mChain (g g' : Sto → D → D → Option D) (a b c : ME) : ME := fun E S => (a E S).bind fun x S1 => (b E S1).bind fun y S2 => match g S2 x y with
  | some (.bl true) => (c E S2).bind fun z S3 => (match g' S3 y z with
    | some d => .ok d S3
    | none => .bad)
  | some (.bl false) => .ok (.bl false) S2
  | _ => .bad
section
variable {X : Cx} {W : WW X.K} {pos : Pos} {a b c : Expr} {ma mb mc : ME} {g g' : Sto → D → D → Option D}
theorem chain_read {r r' : R2} (hr : ∀ x y H Q, rP X.K g x y H Q → r x y H Q) (hr' : ∀ x y H Q, rP X.K g' x y H Q → r' x y H Q) : ∀ σ H Q ρ S E, Rel X.K ρ S H → ER X.K W ρ H E σ → Post X.K (DV X.K) ρ H Q (fun c dx H' => W.w c dx σ H') (mChain g g' ma mb mc E S) →
    tChain r r' (tE X.K W ma) (tE X.K W mb) (tE X.K W mc) σ H Q := by
  intro σ H Q ρ S E re er p
  refine ⟨ρ, S, E, re, er, (Post.bind (R := DV X.K) p).imp fun x H1 ⟨ρ1, S1, dx, r1, e1, d1, p1⟩ => ?_⟩
  refine ⟨ρ1, S1, E, r1, er.mono e1, (Post.bind (R := DV X.K) p1).imp fun y H2 ⟨ρ2, S2, dy, r2, e2, d2, p2⟩ => ?_⟩
  have go : ∀ k, g S2 dx dy = some (.bl k) → Post X.K (DV X.K) ρ2 H2 Q (fun c dx H' => W.w c dx σ H') (if k = true then (mc E S2).bind fun z S3 => (match g' S3 dy z with
    | some d => Out.ok d S3
    | none => Out.bad) else .ok (.bl false) S2) → r x y H2 fun z H3 => ∃ k, z = .bl k ∧ (if k = true then tE X.K W mc σ H3 fun w' H4 => r' y w' H4 Q else Q (.bl false) H3) := fun k hk pk => by
    refine hr _ _ _ _ ⟨ρ2, S2, dx, dy, .bl k, r2, DV.mono e2 _ _ d1, d2, hk, fun ρ3 H3 v r3 e3 d3 => ⟨k, dv_bl.mp d3, ?_⟩⟩
    cases k with
    | false =>
      rw [if_neg (by simp)] at pk ⊢
      exact pk ρ3 H3 _ r3 e3 (by simp [DV])
    | true =>
      rw [if_pos rfl] at pk ⊢
      refine ⟨ρ3, S2, E, r3, (er.mono e1).mono (e2.trans e3), (Post.bind (R := DV X.K) (pk.start e3)).imp fun z H4 ⟨ρ4, S4, dz, r4, e4, d4, p4⟩ => ?_⟩
      obtain ⟨d, hd, q⟩ := post_opt p4
      exact hr' _ _ _ _ ⟨ρ4, S4, dy, dz, d, r4, DV.mono (e3.trans e4) _ _ d2, d4, hd, q⟩
  cases hg : g S2 dx dy with
  | none => rw [hg] at p2; exact p2.elim
  | some d =>
    rw [hg] at p2
    cases d with
    | bl k =>
      refine go k hg ?_
      cases k with
      | false => rw [if_neg (by simp)]; exact p2
      | true => rw [if_pos rfl]; exact p2
    | _ => exact p2.elim
theorem ed_chain {op op' : CmpOp} {r r' : R2} (ho : OpR X (compareOp op) r) (hr : ∀ x y H Q, rP X.K g x y H Q → r x y H Q) (ho' : OpR X (compareOp op') r') (hr' : ∀ x y H Q, rP X.K g' x y H Q → r' x y H Q) (ha : ED X W a ma) (hb : ED X W b mb) (hc : ED X W c mc)
    (hm : lastMarks [op, op'] [b, c] = false := by with_unfolding_all rfl) : ED X W (.Compare a [op, op'] [b, c] pos) (mChain g g' ma mb mc) := ed_of (pe_chain ho ho' ha hb hc hm) (chain_read hr hr')
theorem td_chain {op op' : CmpOp} {r r' : R2} (ho : OpR X (compareOp op) r) (hr : ∀ x y H Q, rP X.K g x y H Q → r x y H Q) (ho' : OpR X (compareOp op') r') (hr' : ∀ x y H Q, rP X.K g' x y H Q → r' x y H Q) (ha : ED X W a ma) (hb : ED X W b mb) (hc : ED X W c mc)
    (hm : lastMarks [op, op'] [b, c] = false := by with_unfolding_all rfl) : TD X W (.Compare a [op, op'] [b, c] pos) (asB (mChain g g' ma mb mc)) :=
  td_of (pt_chain ho ho' ha hb hc hm) (asB_read fun σ H Q ⟨ρ, S, E, r, er, p⟩ => chain_read hr hr' σ H Q ρ S E r er p)
end
section
variable {Q : D → Sto → Prop} {X : Exn → Sto → Prop} {E : Evn} {S : Sto} {a b c : ME} {g g' : Sto → D → D → Option D}
theorem w_chain : OkO (mChain g g' a b c E S) Q X = OkO (a E S) (fun x S1 => OkO (b E S1) (fun y S2 => OkP (g S2 x y) fun d => OkB d fun k => OkI k (OkO (c E S2) (fun z S3 => OkP (g' S3 y z) fun d => Q d S3) X) (Q (.bl false) S2)) X) X := by
  unfold mChain
  refine w_bind.trans (OkO_fun fun x S1 => w_bind.trans (OkO_fun fun y S2 => ?_))
  cases g S2 x y with
  | none => rfl
  | some d =>
    cases d with
    | bl k =>
      cases k with
      | true =>
        show OkO ((c E S2).bind fun z S3 => _) Q X = OkI true _ _
        rw [w_itrue]
        exact w_bind.trans (OkO_fun fun z S3 => opt_ok)
      | false => show Q (.bl false) S2 = OkI false _ _; rw [w_ifalse]
    | _ => rfl
end
/-! ### what gives out a token -/
section
variable {X : Cx} {W : WW X.K} {pos : Pos} {o e : Expr} {es : List Expr} {mo m : ME} {ma : MA} {apos c0 c1 : Pos} {j k : Nat} {ys zs : Str} {y z : Tx}
theorem ekd_ed (h : EKD X W e m) : ED X W e m := ⟨fun pins s σ H Q I q => thn (h.run pins s σ H Q I q) fun _ _ z => z.2⟩
theorem ekd_replK (ho : EKD X W o mo) (ey : ys = ⟨y.toArray⟩) (ez : zs = ⟨z.toArray⟩) (hy : y ≠ []) (hyz : (ys == zs) = false := by decide)
    (hst : starEach [.Constant (.str ys) j c0, .Constant (.str zs) k c1] X.env = [(false, eval (.Constant (.str ys) j c0) X.env), (false, eval (.Constant (.str zs) k c1) X.env)] := by rfl)
    (hbase : attributeBase o "replace" X.env (eval o X.env) = eval o X.env := by rfl) (hline : (apos.endLine == pos.line) = true := by rfl) :
    EKD X W (.Call (.Attribute o "replace" apos) [.Constant (.str ys) j c0, .Constant (.str zs) k c1] [] pos) (mRepl y z mo) := by
  subst ey ez
  refine ⟨?_⟩
  intro pins s σ H Q I h
  have h := repl_read (X := X) (W := W) (y := y) (z := z) (mo := mo) (to := tE X.K W mo) hy σ H Q h
  refine PySem.Call_method2 hbase hst hline (wpAny_mono (ho.run pins s σ H _ I h) (fun v s1 q => ?_) fun _ _ z => z)
  obtain ⟨hk, v', H1, I1, r1, x, e1, hb, q⟩ := q
  subst e1
  obtain ⟨tx, e2⟩ := r1
  subst e2
  refine ⟨"str", _, PySem.F.plainAttrs_str, PySem.F.slot_str_replace, PySem.F.type_str_replace, typeIs_str _ _ _, (fun _ e => nomatch e), Calls.callWith_builtin rfl (Calls.evalArgs_plain (Calls.spliced_cons ?_))⟩
  refine Calls.Constant_str (Calls.spliced_cons (Calls.Constant_str (Calls.spliced_nil ?_)))
  have fin := wpAny_toks_of (n := 1) (s := { s1 with toks := s1.toks + 1 + 1 }) (by show 1 ≤ s1.toks + 1 + 1; omega) (PySem.SC.replace (prog := X.prog) (w := X.w) (A := X.A) (E := X.xe) (s := { s1 with toks := s1.toks + 1 + 1 }) (t := tx) (Q := EP X pins σ Q) (by show s1.toks ≠ 0; omega) (by show s1.toks + 1 ≠ 0; omega) (by show s1.toks ≠ s1.toks + 1; omega) hyz hb fun t' k => ⟨.str (Txt.replace x ⟨y.toArray⟩ ⟨z.toArray⟩), H1, I1.tok k, ⟨t', rfl⟩, q⟩)
  exact wpAny_mono fin (fun _ _ z => z) fun _ _ z => z.2
theorem ekd_sm {id : String} {name : Str} {r : V → List V → Hp → VK → Prop} {g : Sto → Tx → List D → Option D} (slot : Slot "str" name id) (ty : typeOf (.builtin id) = pure (.type "method_descriptor")) (hm : MtR X id r) (hr : ∀ x vs H Q, rPM X.K g x vs H Q → r x vs H Q) (ho : EKD X W o mo) (ha : AD X W (e :: es) ma)
    (hbase : attributeBase o name X.env (eval o X.env) = eval o X.env := by rfl)
    (hfew : ((backTo pos (starEach (e :: es) X.env)).all (fun x => !x.1) && (backToKw pos (keywordEach [] X.env)).all (fun x => x.1.isSome)
      && decide ((e :: es).length + ([] : List Keyword).length + (if ([] : List Keyword).isEmpty then 0 else 1) < 30)) = true := by rfl)
    (hline : (apos.endLine == pos.line) = true := by rfl) (hs : starEach (e :: es) X.env = (false, eval e X.env) :: starEach es X.env := by rfl) (hplain : (backTo pos (starEach es X.env)).any (·.1) = false := by rfl) :
    EKD X W (.Call (.Attribute o name apos) (e :: es) [] pos) (mSM g mo ma) := by
  refine ⟨?_⟩
  rintro pins s σ H Q I ⟨ρ, S, E, r0, er, p⟩
  have h : tE X.K W mo σ H fun x H1 => ∃ z, x = sv z ∧ tA X.K W ma σ H1 fun vs H2 => r x vs H2 Q := by
    refine ⟨ρ, S, E, r0, er, (Post.bind (R := DV X.K) p).imp fun x H1 ⟨ρ1, S1, d, r1, e1, d1, p1⟩ => ?_⟩
    cases d with
    | str z =>
      rw [dv_str] at d1; subst d1
      refine ⟨z, rfl, ρ1, S1, E, r1, er.mono e1, (Post.bind (R := DVs X.K) p1).imp fun vs H2 ⟨ρ2, S2, ds, r2, e2, d2, p2⟩ => ?_⟩
      obtain ⟨u, hu, q⟩ := post_opt p2
      exact hr _ _ _ _ ⟨ρ2, S2, z, ds, u, rfl, r2, d2, hu, q⟩
    | _ => exact p1.elim
  refine wpAny_Call_method_late hbase hfew hline rfl (wpAny_mono (ho.run pins s σ H _ I h) (fun v s1 q => ?_) fun _ _ z => z)
  obtain ⟨k1, x, H1, I1, r1, z, rfl, q1⟩ := q
  obtain ⟨tx, rfl⟩ := r1
  refine ⟨"str", id, F.plainAttrs_str, slot, ty, typeIs_str _ _ _, (fun _ e => nomatch e), ?_⟩
  have hA := PA.run ha pos pins s1 σ H1 _ I1 q1
  rw [hs] at hA ⊢
  refine Calls.callWith_builtin (by show (false || (backTo pos (starEach es X.env)).any (·.1)) = false; rw [hplain] <;> rfl) (Calls.evalArgs_plain ?_)
  refine wpAny_mono (wpAny_toks_of k1 hA) (fun us s2 ⟨k2, vs, H2, I2, r2, q2⟩ => ?_) fun _ _ z => z.2
  exact wpAny_mono (wpAny_toks_of k2 (hm pins s2 σ H2 (sv z) vs _ us Q I2 ⟨tx, rfl⟩ r2 q2)) (fun _ _ z => z) fun _ _ z => z.2
end
end PD

/-! PyF5: zip of two texts, the call and a turn. -/
namespace PD
open PySem PySem.Spec PyProof PyProof.Rows L2
/-! ### zip of two texts -/
section
variable {prog : Program} {w : World} {A : Around} {E : Value → Shared → Prop} {s : Shared}
theorem nxS {it : Addr} {ty : String} {x : Str} {t : Tok} {i c : Nat} {Q : Value → Shared → Prop} (hty : ty = "str_ascii_iterator" ∨ ty = "str_iterator") (hit : s.heap.IsStrIter it ty x t i) (hx : x.cps[i]? = some c)
    (hQ : ∀ h', h'.IsStrIter it ty x t (i + 1) → Heap.SameBut it s.heap h' → Q (.str ⟨#[c]⟩ s.toks) { s with heap := h', toks := s.toks + 1 }) : wpAny (model prog w) A (Builtin.SmallTypes.nextOf (.ref it)) Q E s := by
  have key : ∀ {R : Option Value → Shared → Prop}, (∀ h', h'.IsStrIter it ty x t (i + 1) → Heap.SameBut it s.heap h' → R (some (.str ⟨#[c]⟩ s.toks)) { s with heap := h', toks := s.toks + 1 }) → wpAny (model prog w) A (callSpecial? (.ref it) "__next__") R E s := by
    intro R hR
    obtain ⟨o, ho, hc, hd⟩ := id hit
    rcases hty with rfl | rfl
    · refine wpAny_callSpecial?_slot (name := Str.ofString "__next__") hit.typeIs F.slot_str_ascii_iterator_next (wpAny_call_entry F.slot_str_ascii_iterator_next hit.typeIs F.entry_str_ascii_iterator_next ?_ (F.args_str_ascii_iterator_next_1 _))
      show wpAny (model prog w) _ (field (.ref it) 0 >>= _) _ _ s
      refine wpAny_bind (wpAny_field ho hd (x := .str x t) rfl ?_); show wpAny (model prog w) _ (field (.ref it) 1 >>= _) _ _ s
      refine wpAny_bind (wpAny_field ho hd (x := .int i 0) rfl ?_); simp only [Int.toNat_natCast, hx]
      refine wpAny_bind (wpAny_setField ho hd (by simp) (wpAny_bind (wpAny_mkStr (wpAny_pure ⟨_, rfl, hR _ ⟨_, Heap.get?_update_self _ ho (Obj.isFreed_of_fields (Obj.data_mapFields hd _)), (Obj.cls_mapFields ..).trans hc, ?_⟩ (Heap.SameBut.update ..)⟩) (by show 1 ≤ sizeLine; decide))))
      rw [Obj.data_mapFields hd]; simp [rawInt]
    · refine wpAny_callSpecial?_slot (name := Str.ofString "__next__") hit.typeIs F.slot_str_iterator_next (wpAny_call_entry F.slot_str_iterator_next hit.typeIs F.entry_str_iterator_next ?_ (F.args_str_iterator_next_1 _))
      show wpAny (model prog w) _ (field (.ref it) 0 >>= _) _ _ s
      refine wpAny_bind (wpAny_field ho hd (x := .str x t) rfl ?_); show wpAny (model prog w) _ (field (.ref it) 1 >>= _) _ _ s
      refine wpAny_bind (wpAny_field ho hd (x := .int i 0) rfl ?_); simp only [Int.toNat_natCast, hx]
      refine wpAny_bind (wpAny_setField ho hd (by simp) (wpAny_bind (wpAny_mkStr (wpAny_pure ⟨_, rfl, hR _ ⟨_, Heap.get?_update_self _ ho (Obj.isFreed_of_fields (Obj.data_mapFields hd _)), (Obj.cls_mapFields ..).trans hc, ?_⟩ (Heap.SameBut.update ..)⟩) (by show 1 ≤ sizeLine; decide))))
      rw [Obj.data_mapFields hd]; simp [rawInt]
  unfold Builtin.SmallTypes.nextOf
  exact wpAny_bind (key fun h' a b => wpAny_pure (hQ h' a b))
theorem nxS_end {it : Addr} {ty : String} {x : Str} {t : Tok} {i : Nat} {Q : Value → Shared → Prop} (hty : ty = "str_ascii_iterator" ∨ ty = "str_iterator") (hh : A.handled = none) (hit : s.heap.IsStrIter it ty x t i) (hx : x.cps[i]? = none)
    (hE : ∀ h' e, Heap.ExtBut it s.heap h' → (∃ o, h'.get? e = some o ∧ o.cls = .type "StopIteration") → E (.ref e) { s with heap := h' }) : wpAny (model prog w) A (Builtin.SmallTypes.nextOf (.ref it)) Q E s := by
  obtain ⟨o, ho, hc, hd⟩ := id hit
  unfold Builtin.SmallTypes.nextOf
  have last : ∀ {h1 : Heap} {B : Around} {R : Fin → Shared → Prop}, B.handled = none → Heap.ExtBut it s.heap h1 → wpAny (model prog w) B (raiseNew =<< newExc (.type "StopIteration") []) R E { s with heap := h1 } := by
    intro h1 B R hB hb
    show wpAny (model prog w) _ (newExc (.type "StopIteration") [] >>= _) _ _ _
    refine wpAny_bind ?_; simp only [newExc, newTuple]
    refine wpAny_bind (wpAny_newObj_type ?_ (by size_fits)); refine wpAny_bind (m := firstArgMember _ _) (wpAny_of_eq (a := Value.none) (by first | rfl | (simp only [firstArgMember]; rfl)) ?_)
    refine wpAny_newObj_type ?_ (by size_fits); simp only [raiseNew]
    refine wpAny_bind (wpAny_handled ?_); rw [hB]
    exact wpAny_bind (wpAny_pure (wpAny_throw (hE _ _ ((hb.push _).push _) ⟨_, Heap.get?_push_size _ rfl, rfl⟩)))
  rcases hty with rfl | rfl
  · refine wpAny_bind (wpAny_callSpecial?_slot (name := Str.ofString "__next__") hit.typeIs F.slot_str_ascii_iterator_next (wpAny_call_entry F.slot_str_ascii_iterator_next hit.typeIs F.entry_str_ascii_iterator_next ?_ (F.args_str_ascii_iterator_next_1 _)))
    show wpAny (model prog w) _ (field (.ref it) 0 >>= _) _ _ s
    refine wpAny_bind (wpAny_field ho hd (x := .str x t) rfl ?_); show wpAny (model prog w) _ (field (.ref it) 1 >>= _) _ _ s
    refine wpAny_bind (wpAny_field ho hd (x := .int i 0) rfl ?_); simp only [Int.toNat_natCast, hx]
    refine wpAny_bind (wpAny_rule (wpAny_bind (wpAny_setField ho hd (by simp) (wpAny_bind (wpAny_letGo ?_)))))
    exact last hh (Heap.SameBut.update ..).extBut
  · refine wpAny_bind (wpAny_callSpecial?_slot (name := Str.ofString "__next__") hit.typeIs F.slot_str_iterator_next (wpAny_call_entry F.slot_str_iterator_next hit.typeIs F.entry_str_iterator_next ?_ (F.args_str_iterator_next_1 _)))
    show wpAny (model prog w) _ (field (.ref it) 0 >>= _) _ _ s
    refine wpAny_bind (wpAny_field ho hd (x := .str x t) rfl ?_); show wpAny (model prog w) _ (field (.ref it) 1 >>= _) _ _ s
    refine wpAny_bind (wpAny_field ho hd (x := .int i 0) rfl ?_); simp only [Int.toNat_natCast, hx]
    refine wpAny_bind (wpAny_rule (wpAny_bind (wpAny_setField ho hd (by simp) (wpAny_bind (wpAny_letGo ?_)))))
    exact last hh (Heap.SameBut.update ..).extBut
/-- five records apart -/
structure Ap (z TI TO a b : Addr) : Prop where
  tz : TI ≠ z
  oz : TO ≠ z
  az : a ≠ z
  bz : b ≠ z
  to : TI ≠ TO
  ta : TI ≠ a
  tb : TI ≠ b
  oa : TO ≠ a
  ob : TO ≠ b
  ab : a ≠ b
variable {z TI TO a b : Addr} {k : Nat} {ty ty' : String} {x y : Str} {t t' : Tok}
theorem zS_item {c d : Nat} {u v : Value} {Q : Value → Shared → Prop} (D : Ap z TI TO a b) (h0 : ty = "str_ascii_iterator" ∨ ty = "str_iterator") (h0' : ty' = "str_ascii_iterator" ∨ ty' = "str_iterator")
    (hz : IsZip s.heap z TI TO .none) (hI : IsPair s.heap TI (.ref a) (.ref b)) (hO : IsPair s.heap TO u v) (h1 : s.heap.IsStrIter a ty x t k) (h2 : s.heap.IsStrIter b ty' y t' k) (hx : x.cps[k]? = some c) (hy : y.cps[k]? = some d)
    (hQ : ∀ h' c' d' tk, (∃ q, c' = .str ⟨#[c]⟩ q) → (∃ q, d' = .str ⟨#[d]⟩ q) → IsZip h' z TI TO (rawInt s.heap.objs.size) → IsPair h' TO c' d' → h'.IsStrIter a ty x t (k + 1) → h'.IsStrIter b ty' y t' (k + 1) → IsPair h' s.heap.objs.size c' d' → h'.objs.size = s.heap.objs.size + 1 →
      (∀ r o, r ≠ z → r ≠ TO → r ≠ a → r ≠ b → s.heap.get? r = some o → h'.get? r = some o) → Q (.ref s.heap.objs.size) { s with heap := h', toks := tk }) :
    wpAny (model prog w) A (Builtin.«zip.__next__» ⟨[.ref z], []⟩) (fun fin s' => ∃ v, fin = .done (.ret v) ∧ Q v s') E s := by
  show wpAny (model prog w) _ (field (.ref z) 2 >>= _) _ _ _
  refine wpAny_bind (wpAny_field hz rfl (x := .bool false) rfl ?_); show wpAny (model prog w) _ (field (.ref z) 3 >>= _) _ _ _
  refine wpAny_bind (wpAny_field hz rfl (x := .ref TI) rfl (wpAny_bind (wpAny_seqItems hI rfl ?_)))
  show wpAny (model prog w) _ (Builtin.SmallTypes.ownedTupleIsFree (.ref z) >>= _) _ _ _
  refine wpAny_bind ?_; unfold Builtin.SmallTypes.ownedTupleIsFree
  refine wpAny_bind (wpAny_field hz rfl (x := .none) rfl (wpAny_pure ?_)); simp only [if_true]
  refine wpAny_bind (wpAny_rule (wpAny_bind (wpAny_field hz rfl (x := .ref TO) rfl (wpAny_bind (wpAny_setField_rec hz (by simp) fun g1 z1 e1 => ?_)))))
  replace z1 : IsZip g1 z TI TO .ellipsis := z1
  refine wpAny_bind ?_; simp only [List.zipIdx_cons, List.zipIdx_nil, List.forIn_cons, List.forIn_nil]
  refine wpAny_bind (wpAny_bind (wpAny_onRaise ?_)); show wpAny (model prog w) _ (Builtin.SmallTypes.nextOf (.ref a) >>= _) _ _ _
  refine wpAny_bind (nxS h0 (h1.extBut e1.extBut D.az) hx fun g2 a2 e2 => wpAny_pure ?_)
  have O2 : IsPair g2 TO u v := e2.extBut _ _ D.oa (e1.extBut _ _ D.oz hO)
  refine wpAny_bind (wpAny_seqItems O2 rfl (wpAny_bind (wpAny_updateSeq_pair O2 fun g3 O3 e3 => ?_)))
  replace O3 : IsPair g3 TO (.str ⟨#[c]⟩ s.toks) v := O3
  refine wpAny_bind (wpAny_letGo (wpAny_pure (wpAny_bind (wpAny_bind (wpAny_onRaise ?_))))); show wpAny (model prog w) _ (Builtin.SmallTypes.nextOf (.ref b) >>= _) _ _ _
  refine wpAny_bind (nxS h0' (((h2.extBut e1.extBut D.bz).extBut e2.extBut D.ab.symm).extBut e3.extBut D.ob.symm) hy fun g4 b4 e4 => wpAny_pure ?_)
  have O4 : IsPair g4 TO (.str ⟨#[c]⟩ s.toks) v := e4.extBut _ _ D.ob O3
  refine wpAny_bind (wpAny_seqItems O4 rfl (wpAny_bind (wpAny_updateSeq_pair O4 fun g5 O5 e5 => ?_)))
  replace O5 : IsPair g5 TO (.str ⟨#[c]⟩ s.toks) (.str ⟨#[d]⟩ (s.toks + 1)) := O5
  refine wpAny_bind (wpAny_letGo (wpAny_pure (wpAny_pure (wpAny_bind (wpAny_seqItems O5 rfl (wpAny_bind (wpAny_newTuple ?_)))))))
  have sz : g5.objs.size = s.heap.objs.size := by rw [e5.1, e4.1, e3.1, e2.1, e1.1]
  have z5 : IsZip g5 z TI TO .ellipsis := e5.extBut _ _ D.oz.symm (e4.extBut _ _ D.bz.symm (e3.extBut _ _ D.oz.symm (e2.extBut _ _ D.az.symm z1)))
  have k5 : ∀ r o, r ≠ z → r ≠ TO → r ≠ a → r ≠ b → s.heap.get? r = some o → g5.get? r = some o := fun r o r1 r2 r3 r4 q => e5.extBut _ _ r2 (e4.extBut _ _ r4 (e3.extBut _ _ r2 (e2.extBut _ _ r3 (e1.extBut _ _ r1 q))))
  have a5 : g5.IsStrIter a ty x t (k + 1) := ((a2.extBut e3.extBut D.oa.symm).extBut e4.extBut D.ab).extBut e5.extBut D.oa.symm
  have b5 : g5.IsStrIter b ty' y t' (k + 1) := b4.extBut e5.extBut D.ob.symm
  have lz : z < g5.objs.size := Heap.lt_size z5
  show wpAny (model prog w) _ (Builtin.SmallTypes.ownedTupleHandOut (.ref z) (.ref g5.objs.size) >>= _) _ _ _
  refine wpAny_bind ?_; unfold Builtin.SmallTypes.ownedTupleHandOut
  have z6 : IsZip (g5.push { cls := .type "tuple", data := .seq #[.str ⟨#[c]⟩ s.toks, .str ⟨#[d]⟩ (s.toks + 1)] }) z TI TO .ellipsis := Heap.get?_push_of_some _ z5
  refine wpAny_bind (wpAny_setField_rec z6 (by simp) fun g7 z7 e7 => ?_)
  replace z7 : IsZip g7 z TI TO (rawInt g5.objs.size) := z7
  refine wpAny_setField_rec z7 (by simp) fun g8 z8 e8 => ?_
  replace z8 : IsZip g8 z TI TO (rawInt g5.objs.size) := z8
  have up : ∀ r o, r ≠ z → g5.get? r = some o → g8.get? r = some o := fun r o r1 q => e8.extBut _ _ r1 (e7.extBut _ _ r1 (Heap.get?_push_of_some _ q))
  have T8 : IsPair g8 g5.objs.size (.str ⟨#[c]⟩ s.toks) (.str ⟨#[d]⟩ (s.toks + 1)) := e8.extBut _ _ (Nat.ne_of_gt lz) (e7.extBut _ _ (Nat.ne_of_gt lz) (Heap.get?_push_size _ rfl))
  have s8 : g8.objs.size = g5.objs.size + 1 := by rw [e8.1, e7.1, Heap.size_push]
  rw [sz] at z8 T8 s8
  refine wpAny_pure ⟨_, rfl, ?_⟩; show Q (.ref g5.objs.size) _
  rw [sz]
  exact hQ g8 _ _ _ ⟨_, rfl⟩ ⟨_, rfl⟩ z8 (up _ _ D.oz O5) (let ⟨o, e, r⟩ := a5; ⟨o, up _ o D.az e, r⟩) (let ⟨o, e, r⟩ := b5; ⟨o, up _ o D.bz e, r⟩) T8 s8 fun r o r1 r2 r3 r4 q => up r o r1 (k5 r o r1 r2 r3 r4 q)
theorem zS_end {u v : Value} {Q : Fin → Shared → Prop} (hh : A.handled = none) (D : Ap z TI TO a b) (h0 : ty = "str_ascii_iterator" ∨ ty = "str_iterator") (h0' : ty' = "str_ascii_iterator" ∨ ty' = "str_iterator")
    (hz : IsZip s.heap z TI TO .none) (hI : IsPair s.heap TI (.ref a) (.ref b)) (hO : IsPair s.heap TO u v) (h1 : s.heap.IsStrIter a ty x t k) (h2 : s.heap.IsStrIter b ty' y t' k) (hend : x.cps[k]? = none ∨ y.cps[k]? = none)
    (hE : ∀ h' e tk, (∀ r o, r ≠ z → r ≠ TO → r ≠ a → r ≠ b → s.heap.get? r = some o → h'.get? r = some o) → (∃ o, h'.get? e = some o ∧ o.cls = .type "StopIteration") → E (.ref e) { s with heap := h', toks := tk }) :
    wpAny (model prog w) A (Builtin.«zip.__next__» ⟨[.ref z], []⟩) Q E s := by
  show wpAny (model prog w) _ (field (.ref z) 2 >>= _) _ _ _
  refine wpAny_bind (wpAny_field hz rfl (x := .bool false) rfl ?_); show wpAny (model prog w) _ (field (.ref z) 3 >>= _) _ _ _
  refine wpAny_bind (wpAny_field hz rfl (x := .ref TI) rfl (wpAny_bind (wpAny_seqItems hI rfl ?_)))
  show wpAny (model prog w) _ (Builtin.SmallTypes.ownedTupleIsFree (.ref z) >>= _) _ _ _
  refine wpAny_bind ?_; unfold Builtin.SmallTypes.ownedTupleIsFree
  refine wpAny_bind (wpAny_field hz rfl (x := .none) rfl (wpAny_pure ?_)); simp only [if_true]
  refine wpAny_bind (wpAny_rule (wpAny_bind (wpAny_field hz rfl (x := .ref TO) rfl (wpAny_bind (wpAny_setField_rec hz (by simp) fun g1 z1 e1 => ?_)))))
  replace z1 : IsZip g1 z TI TO .ellipsis := z1
  refine wpAny_bind ?_; simp only [List.zipIdx_cons, List.zipIdx_nil, List.forIn_cons, List.forIn_nil]
  refine wpAny_bind (wpAny_bind (wpAny_onRaise ?_)); show wpAny (model prog w) _ (Builtin.SmallTypes.nextOf (.ref a) >>= _) _ _ _
  cases hx : x.cps[k]? with
  | none =>
    refine wpAny_bind (nxS_end h0 hh (h1.extBut e1.extBut D.az) hx fun g2 e e2 he => ?_)
    obtain ⟨oe, ge, ce⟩ := he
    have z2 : IsZip g2 z TI TO .ellipsis := e2 _ _ D.az.symm z1
    have ne : e ≠ z := fun q => by subst q; rw [z2] at ge; cases ge; simp at ce
    refine wpAny_setField_rec z2 (by simp) fun g3 _ e3 => hE g3 e s.toks (fun r o r1 _ r3 _ q => e3.extBut _ _ r1 (e2 _ _ r3 (e1.extBut _ _ r1 q))) ⟨oe, e3.extBut _ _ ne ge, ce⟩
  | some c =>
    have hy : y.cps[k]? = none := by rcases hend with h | h; rw [hx] at h; cases h; exact h
    refine wpAny_bind (nxS h0 (h1.extBut e1.extBut D.az) hx fun g2 a2 e2 => wpAny_pure ?_)
    have O2 : IsPair g2 TO u v := e2.extBut _ _ D.oa (e1.extBut _ _ D.oz hO)
    refine wpAny_bind (wpAny_seqItems O2 rfl (wpAny_bind (wpAny_updateSeq_pair O2 fun g3 O3 e3 => ?_)))
    refine wpAny_bind (wpAny_letGo (wpAny_pure (wpAny_bind (wpAny_bind (wpAny_onRaise ?_))))); show wpAny (model prog w) _ (Builtin.SmallTypes.nextOf (.ref b) >>= _) _ _ _
    refine wpAny_bind (nxS_end h0' hh (((h2.extBut e1.extBut D.bz).extBut e2.extBut D.ab.symm).extBut e3.extBut D.ob.symm) hy fun g4 e e4 he => ?_)
    obtain ⟨oe, ge, ce⟩ := he
    have z4 : IsZip g4 z TI TO .ellipsis := e4 _ _ D.bz.symm (e3.extBut _ _ D.oz.symm (e2.extBut _ _ D.az.symm z1))
    have ne : e ≠ z := fun q => by subst q; rw [z4] at ge; cases ge; simp at ce
    refine wpAny_setField_rec z4 (by simp) fun g5 _ e5 => hE g5 e _ (fun r o r1 r2 r3 r4 q => e5.extBut _ _ r1 (e4 _ _ r4 (e3.extBut _ _ r2 (e2.extBut _ _ r3 (e1.extBut _ _ r1 q))))) ⟨oe, e5.extBut _ _ ne ge, ce⟩
theorem zS_nextI {c d : Nat} {u v : Value} {Q : Option Value → Shared → Prop} (D : Ap z TI TO a b) (h0 : ty = "str_ascii_iterator" ∨ ty = "str_iterator") (h0' : ty' = "str_ascii_iterator" ∨ ty' = "str_iterator")
    (hz : IsZip s.heap z TI TO .none) (hI : IsPair s.heap TI (.ref a) (.ref b)) (hO : IsPair s.heap TO u v) (h1 : s.heap.IsStrIter a ty x t k) (h2 : s.heap.IsStrIter b ty' y t' k) (hx : x.cps[k]? = some c) (hy : y.cps[k]? = some d)
    (hQ : ∀ h' c' d' tk, (∃ q, c' = .str ⟨#[c]⟩ q) → (∃ q, d' = .str ⟨#[d]⟩ q) → IsZip h' z TI TO (rawInt s.heap.objs.size) → IsPair h' TO c' d' → h'.IsStrIter a ty x t (k + 1) → h'.IsStrIter b ty' y t' (k + 1) → IsPair h' s.heap.objs.size c' d' → h'.objs.size = s.heap.objs.size + 1 →
      (∀ r o, r ≠ z → r ≠ TO → r ≠ a → r ≠ b → s.heap.get? r = some o → h'.get? r = some o) → Q (some (.ref s.heap.objs.size)) { s with heap := h', toks := tk }) : wpAny (model prog w) A (pyNext (.ref z)) Q E s := by
  have hT : s.TypeIs (.ref z) "zip" := ⟨_, hz, rfl⟩
  unfold pyNext
  refine wpAny_bind (wpAny_attempt (wpAny_callSpecial?_slot (name := Str.ofString "__next__") hT F.slot_zip_next (wpAny_call_entry F.slot_zip_next hT F.entry_zip_next ?_ (F.args_zip_next_1 _))))
  exact zS_item D h0 h0' hz hI hO h1 h2 hx hy fun h' c' d' tk q1 q2 a1 a2 a3 a4 a5 a6 a7 => wpAny_pure (hQ h' c' d' tk q1 q2 a1 a2 a3 a4 a5 a6 a7)
theorem zS_nextE {u v : Value} {Q : Option Value → Shared → Prop} (hh : A.handled = none) (D : Ap z TI TO a b) (h0 : ty = "str_ascii_iterator" ∨ ty = "str_iterator") (h0' : ty' = "str_ascii_iterator" ∨ ty' = "str_iterator")
    (hz : IsZip s.heap z TI TO .none) (hI : IsPair s.heap TI (.ref a) (.ref b)) (hO : IsPair s.heap TO u v) (h1 : s.heap.IsStrIter a ty x t k) (h2 : s.heap.IsStrIter b ty' y t' k) (hend : x.cps[k]? = none ∨ y.cps[k]? = none)
    (hQ : ∀ h' tk, (∀ r o, r ≠ z → r ≠ TO → r ≠ a → r ≠ b → s.heap.get? r = some o → h'.get? r = some o) → Q none { s with heap := h', toks := tk }) : wpAny (model prog w) A (pyNext (.ref z)) Q E s := by
  have hT : s.TypeIs (.ref z) "zip" := ⟨_, hz, rfl⟩
  unfold pyNext
  refine wpAny_bind (wpAny_attempt (wpAny_callSpecial?_slot (name := Str.ofString "__next__") hT F.slot_zip_next (wpAny_call_entry F.slot_zip_next hT F.entry_zip_next (zS_end hh D h0 h0' hz hI hO h1 h2 hend fun h' e tk hk he => ?_) (F.args_zip_next_1 _))))
  obtain ⟨o, ho, hc⟩ := he
  exact wpAny_bind (wpAny_isInstance (T := "StopIteration") (b := true) ⟨o, ho, hc⟩ isSubtype_stop (wpAny_pure (hQ _ _ hk)))
/-- the kind of a text's iterator -/
def tyS (x : Str) : String := if x.cps.all (· < 128) then "str_ascii_iterator" else "str_iterator"
theorem tyS_or (x : Str) : tyS x = "str_ascii_iterator" ∨ tyS x = "str_iterator" := by unfold tyS; split <;> simp
theorem iterS {x : Str} {t : Tok} {Q : Value → Shared → Prop} (hQ : Q (.ref s.heap.objs.size) { s with heap := s.heap.push { cls := .type (tyS x), data := .fields #[.str x t, .int 0 0] } }) : wpAny (model prog w) A (pyIter (.str x t)) Q E s := by
  unfold tyS at hQ
  cases ha : x.cps.all (· < 128) with
  | true => rw [ha, if_pos rfl] at hQ; exact wpAny_pyIter_ascii ha hQ
  | false => rw [ha, if_neg (by simp)] at hQ; exact wpAny_pyIter_wide ha hQ
abbrev zh1 (h : Heap) (x : Str) (t : Tok) : Heap := h.push { cls := .type (tyS x), data := .fields #[.str x t, .int 0 0] }
abbrev zh2 (h : Heap) (x y : Str) (t t' : Tok) : Heap := (zh1 h x t).push { cls := .type (tyS y), data := .fields #[.str y t', .int 0 0] }
abbrev zh3 (h : Heap) (x y : Str) (t t' : Tok) : Heap := (zh2 h x y t t').push { cls := .type "tuple", data := .seq #[.ref h.objs.size, .ref (zh1 h x t).objs.size] }
abbrev zh4 (h : Heap) (x y : Str) (t t' : Tok) : Heap := (zh3 h x y t t').push { cls := .type "tuple", data := .seq #[.none, .none] }
abbrev zh5 (h : Heap) (x y : Str) (t t' : Tok) : Heap := (zh4 h x y t t').push { cls := .type "zip", data := .fields #[.none, .bool false, .bool false, .ref (zh2 h x y t t').objs.size, .ref (zh3 h x y t t').objs.size] }
theorem meets_zS (x y : Str) (t t' : Tok) : Meets (Builtin.«zip.__new__» ⟨[.type "zip", .str x t, .str y t'], []⟩) (fun _ R s => R (.ok (.ret (.ref (zh4 s.heap x y t t').objs.size))) { s with heap := zh5 s.heap x y t t' }) :=
  .of_wp fun prog w A R s h => by
    obtain ⟨hp, g, d, tk, os⟩ := s
    have hsub := sub_zip
    wp_walk using iterS, iterS
    exact ⟨_, rfl, h⟩
theorem call_zS {Q : Value → Shared → Prop} (h : ∀ h', IsZip h' (s.heap.objs.size + 4) (s.heap.objs.size + 2) (s.heap.objs.size + 3) .none → IsPair h' (s.heap.objs.size + 2) (.ref s.heap.objs.size) (.ref (s.heap.objs.size + 1)) →
      IsPair h' (s.heap.objs.size + 3) .none .none → h'.IsStrIter s.heap.objs.size (tyS x) x t 0 → h'.IsStrIter (s.heap.objs.size + 1) (tyS y) y t' 0 → (∀ c o, s.heap.get? c = some o → h'.get? c = some o) → Q (.ref (s.heap.objs.size + 4)) { s with heap := h' }) :
    wpAny (model prog w) A (call (.type "zip") [.str x t, .str y t']) Q E s := by
  refine callType_new F.called_zip (by decide) (F.typeCall_zip_2 _ _) (F.newCall_zip_2 _ _) (fun obj => F.args_object_init_3 obj _ _) F.entry_zip_new (meets_zS x y t t') ?_
  have n1 : (zh1 s.heap x t).objs.size = s.heap.objs.size + 1 := Heap.size_push ..
  have n2 : (zh2 s.heap x y t t').objs.size = s.heap.objs.size + 2 := by rw [Heap.size_push, n1]
  have n3 : (zh3 s.heap x y t t').objs.size = s.heap.objs.size + 3 := by rw [Heap.size_push, n2]
  have n4 : (zh4 s.heap x y t t').objs.size = s.heap.objs.size + 4 := by rw [Heap.size_push, n3]
  have p5 : (zh5 s.heap x y t t').get? (zh4 s.heap x y t t').objs.size = some _ := Heap.get?_push_size _ rfl
  have p4 : (zh5 s.heap x y t t').get? (zh3 s.heap x y t t').objs.size = some _ := Heap.get?_push_of_some _ (Heap.get?_push_size _ rfl)
  have p3 : (zh5 s.heap x y t t').get? (zh2 s.heap x y t t').objs.size = some _ := Heap.get?_push_of_some _ (Heap.get?_push_of_some _ (Heap.get?_push_size _ rfl))
  have p2 : (zh5 s.heap x y t t').get? (zh1 s.heap x t).objs.size = some _ := Heap.get?_push_of_some _ (Heap.get?_push_of_some _ (Heap.get?_push_of_some _ (Heap.get?_push_size _ rfl)))
  have p1 : (zh5 s.heap x y t t').get? s.heap.objs.size = some _ := Heap.get?_push_of_some _ (Heap.get?_push_of_some _ (Heap.get?_push_of_some _ (Heap.get?_push_of_some _ (Heap.get?_push_size _ rfl))))
  rw [n2, n3, n4] at p5; rw [n1, n2] at p3; rw [n3] at p4; rw [n1] at p2
  show _ ∧ _
  rw [n4]
  exact ⟨⟨_, p5, rfl⟩, h _ p5 p3 p4 ⟨_, p1, rfl, rfl⟩ ⟨_, p2, rfl, rfl⟩ fun c o q => Heap.get?_push_of_some _ (Heap.get?_push_of_some _ (Heap.get?_push_of_some _ (Heap.get?_push_of_some _ (Heap.get?_push_of_some _ q))))⟩
end
end PD

/-! PyF6: zip of two texts, walked. -/
namespace PD
open PySem PySem.Spec PyProof PyProof.Rows L2
/-- two texts as they stand, their signs in new pairs -/
def ItzS (x y : Str) : It := ⟨fun i _ => i < x.cps.size ∧ i < y.cps.size, fun i H v H' => ∃ T c d, v = .ref T ∧ H T = none ∧ H' = upd H T (.tup [.str ⟨#[c]⟩, .str ⟨#[d]⟩]) ∧ x.cps[i]? = some c ∧ y.cps[i]? = some d, fun i _ => x.cps.size ≤ i ∨ y.cps.size ≤ i⟩
theorem turn_zS {P : Program} {w : World} {K : PySem.W.Frag} {elts : List Expr} {kk : Nat} {tpos : Pos} {z TI TO a b : Addr} {ty ty' : String} {x y : Str} {t t' : Tok} (D : Ap z TI TO a b)
    (h0 : ty = "str_ascii_iterator" ∨ ty = "str_iterator") (h0' : ty' = "str_ascii_iterator" ∨ ty' = "str_iterator") : Turn P w K (.Tuple elts kk tpos) (ItzS x y) [z, TI, TO, a, b] z
      (fun i h => IsZip h z TI TO .none ∧ IsPair h TI (.ref a) (.ref b) ∧ (∃ u v, IsPair h TO u v) ∧ h.IsStrIter a ty x t i ∧ h.IsStrIter b ty' y t' i) where
  mem := by simp
  obj := fun i h st c hc => by
    obtain ⟨s1, s2, ⟨u, v, s3⟩, ⟨o1, g1, _, d1⟩, ⟨o2, g2, _, d2⟩⟩ := st
    simp only [List.mem_cons, List.not_mem_nil, or_false] at hc
    rcases hc with rfl | rfl | rfl | rfl | rfl
    · exact ⟨_, s1, fun v q => nomatch q⟩
    · exact ⟨_, s2, fun v q => nomatch q⟩
    · exact ⟨_, s3, fun v q => nomatch q⟩
    · exact ⟨o1, g1, fun v q => by rw [d1] at q; cases q⟩
    · exact ⟨o2, g2, fun v q => by rw [d2] at q; cases q⟩
  keep := fun i h h' st k => by
    obtain ⟨s1, s2, ⟨u, v, s3⟩, ⟨o1, g1, r1⟩, ⟨o2, g2, r2⟩⟩ := st
    exact ⟨k z (by simp) _ s1, k TI (by simp) _ s2, ⟨u, v, k TO (by simp) _ s3⟩, ⟨o1, k a (by simp) _ g1, r1⟩, ⟨o2, k b (by simp) _ g2, r2⟩⟩
  item := by
    intro X hP hw hK hc i pins s σ H E I hf st hg
    subst hP hw hK
    obtain ⟨s1, s2, ⟨u, v, s3⟩, s4, s5⟩ := st
    have hg1 : i < x.cps.size := hg.1
    have hg2 : i < y.cps.size := hg.2
    have hx : x.cps[i]? = some x.cps[i] := Array.getElem?_eq_getElem hg1
    have hy : y.cps[i]? = some y.cps[i] := Array.getElem?_eq_getElem hg2
    have lz : z < s.heap.objs.size := Heap.lt_size s1
    refine zS_nextI D h0 h0' s1 s2 s3 s4 s5 hx hy fun h' c' d' tk q1 q2 n1 n2 n3 n4 n5 n6 n7 => ?_
    refine ⟨_, rfl, wpAny_letOwnedTupleGo_zip (s := { s with heap := h', toks := tk }) n1 fun h'' m1 sb => ?_⟩
    have hT : h''.get? s.heap.objs.size = some { cls := .type "tuple", data := .seq #[c', d'] } := (sb.2 _ (Nat.ne_of_gt lz)).trans n5
    have new : ObjOk X.prog X.w (upd H s.heap.objs.size (.tup [.str ⟨#[x.cps[i]]⟩, .str ⟨#[y.cps[i]]⟩])) h'' s.heap.objs.size (.tup [.str ⟨#[x.cps[i]]⟩, .str ⟨#[y.cps[i]]⟩]) :=
      ⟨by show 2 ≤ sizeLine; decide, [c', d'], .cons q1 (.cons q2 .nil), ⟨_, hT, rfl, _, rfl⟩⟩
    have I1 := I.turnedNew (t' := tk) (ch := [z, TI, TO, a, b]) (fun c o hb q => (sb.2 c (fun q' => hb (by simp [q']))).trans (n7 c o (fun q' => hb (by simp [q'])) (fun q' => hb (by simp [q'])) (fun q' => hb (by simp [q'])) (fun q' => hb (by simp [q'])) q)) hf (Nat.le_refl _) new
    refine ⟨.ref s.heap.objs.size, _, I1, rfl, ⟨_, _, _, rfl, I.hok.fresh (Nat.le_refl _), rfl, hx, hy⟩, ⟨m1, ?_, ⟨c', d', (sb.2 _ D.oz).trans n2⟩, ?_, ?_⟩, fun c hc => ?_⟩
    · exact (sb.2 _ D.tz).trans (n7 _ _ D.tz D.to D.ta D.tb s2)
    · obtain ⟨o, e, r⟩ := n3; exact ⟨o, (sb.2 _ D.az).trans e, r⟩
    · obtain ⟨o, e, r⟩ := n4; exact ⟨o, (sb.2 _ D.bz).trans e, r⟩
    · have lt : c < s.heap.objs.size := by
        have hc2 := hc
        simp only [List.mem_cons, List.not_mem_nil, or_false] at hc2
        rcases hc2 with rfl | rfl | rfl | rfl | rfl
        · exact lz
        · exact Heap.lt_size s2
        · exact Heap.lt_size s3
        · obtain ⟨_, e, _⟩ := s4; exact Heap.lt_size e
        · obtain ⟨_, e, _⟩ := s5; exact Heap.lt_size e
      rw [upd_ne (Nat.ne_of_lt lt)]
      exact (hf c hc).1
  done := by
    intro X hP hw hK hc i pins s σ H E I hf st hg
    subst hP hw hK
    obtain ⟨s1, s2, ⟨u, v, s3⟩, s4, s5⟩ := st
    have he : x.cps[i]? = none ∨ y.cps[i]? = none := by
      rcases hg with q | q
      · exact .inl (Array.getElem?_eq_none q)
      · exact .inr (Array.getElem?_eq_none q)
    exact zS_nextE (I.ok.hd hc) D h0 h0' s1 s2 s3 s4 s5 he fun h' tk hk => ⟨rfl, I.turnedL (t' := tk) (ch := [z, TI, TO, a, b]) (fun c o hb q =>
      hk c o (fun q' => hb (by simp [q'])) (fun q' => hb (by simp [q'])) (fun q' => hb (by simp [q'])) (fun q' => hb (by simp [q'])) q) hf⟩
  self := fun A i s Q E st h => wpAny_pyIter_zip st.1 h
theorem ap_of (n : Nat) : Ap (n + 4) (n + 2) (n + 3) n (n + 1) := ⟨by show n + 2 ≠ n + 4; omega, by show n + 3 ≠ n + 4; omega, by show n ≠ n + 4; omega, by show n + 1 ≠ n + 4; omega, by show n + 2 ≠ n + 3; omega, by show n + 2 ≠ n; omega, by show n + 2 ≠ n + 1; omega, by show n + 3 ≠ n; omega, by show n + 3 ≠ n + 1; omega, by show n ≠ n + 1; omega⟩
theorem ge_of {n c : Nat} (h : c ∈ [n + 4, n + 2, n + 3, n, n + 1]) : n ≤ c := by
  simp only [List.mem_cons, List.not_mem_nil, or_false] at h
  omega
def tZipS (ta : TA) : TI := fun σ H R => ta σ H fun vs H1 => ∃ x y, vs = [.str x, .str y] ∧ R (ItzS x y) H1
theorem pi_zipS {X : Cx} {e e2 : Expr} {ta : TA} {p pos tpos : Pos} {elts : List Expr} {kk : Nat} (hg : Gl X "zip") (hm : X.mg "zip" = none) (ha : PA X [e, e2] ta)
    (hs : starEach [e, e2] X.env = (false, eval e X.env) :: starEach [e2] X.env := by rfl) (hpl : (backTo pos (starEach [e2] X.env)).any (·.1) = false := by rfl) :
    PI X (.Tuple elts kk tpos) (.Call (.Name "zip" p) [e, e2] [] pos) (tZipS ta) := by
  refine ⟨fun pins s σ H R I h => Call_ (ld_blt I hg hm PyProof.Rows.boot_zip (PyProof.Rows.callWith_type1 (thn (ha.run pos pins s σ H _ I h) fun us s1 ⟨vs, H1, I1, r1, x, y, ex, q⟩ => ?_) hs hpl))⟩
  subst ex
  cases r1 with
  | cons r rr =>
    cases rr with
    | cons r' rr =>
      cases rr
      obtain ⟨t, rfl⟩ := r
      obtain ⟨t', rfl⟩ := r'
      refine call_zS fun h' hz hI hO h1 h2 hk => wpAny_pyIter_zip hz ?_
      have I2 : Inv X pins σ H1 { s1 with heap := h' } := I1.kept (t' := s1.toks) hk
      refine ⟨s1.heap.objs.size + 4, [s1.heap.objs.size + 4, s1.heap.objs.size + 2, s1.heap.objs.size + 3, s1.heap.objs.size, s1.heap.objs.size + 1], _, _, H1, rfl, I2,
        turn_zS (t := t) (t' := t') (ap_of _) (tyS_or x) (tyS_or y), ⟨hz, hI, ⟨_, _, hO⟩, h1, h2⟩, fun c hc => ?_, q⟩
      have le : s1.heap.objs.size ≤ c := ge_of (n := s1.heap.objs.size) hc
      exact I1.fpOk le (I1.hok.fresh le)
/-! zip of two texts, on plain data -/
def iZip (ma : MA) : MI := fun E S => (ma E S).bind fun ds S1 => match ds with
  | [.str p, .str q] => .ok ⟨(p.zip q).map fun c => .tup [.str [c.1], .str [c.2]], none⟩ S1
  | _ => .bad
section
variable {X : Cx} {W : WW X.K} {pos : Pos}
theorem walks_zip {ρ : List Addr} {H : Hp} {p q : Tx} : Walks X.K ρ H ⟨(p.zip q).map fun c => D.tup [.str [c.1], .str [c.2]], none⟩ (ItzS ⟨p.toArray⟩ ⟨q.toArray⟩) := by
  intro ρ1 S H1 r e c
  refine ⟨fun i d hd => ?_, ?_⟩
  · rw [List.getElem?_map, Option.map_eq_some_iff] at hd
    obtain ⟨⟨k, l⟩, hk, rfl⟩ := hd
    have hk2 := List.getElem?_zip_eq_some.mp hk
    have h1 := (List.getElem?_eq_some_iff.mp hk2.1).1
    have h2 := (List.getElem?_eq_some_iff.mp hk2.2).1
    refine ⟨⟨by simpa using h1, by simpa using h2⟩, fun x H' hy => ?_⟩
    obtain ⟨T, c, d, rfl, hT, rfl, hc, hd⟩ := hy
    simp only [List.getElem?_toArray, hk2.1, hk2.2, Option.some.injEq] at hc hd
    subst hc hd
    refine ⟨r.new hT, Ext.new hT, ?_⟩
    exact dv_tup (vs := [.str ⟨#[k]⟩, .str ⟨#[l]⟩]) hT (by simp only [DVs]; exact ⟨_, _, rfl, by simp [DV, sv], _, _, rfl, by simp [DV, sv], rfl⟩)
  · show _ ∨ _
    simp
    omega
theorem id_zip {e e2 : Expr} {ma : MA} {p tpos : Pos} {elts : List Expr} {kk : Nat} (hg : Gl X "zip") (hm : X.mg "zip" = none) (ha : AD X W [e, e2] ma)
    (hs : starEach [e, e2] X.env = (false, eval e X.env) :: starEach [e2] X.env := by rfl) (hpl : (backTo pos (starEach [e2] X.env)).any (·.1) = false := by rfl) : ID X W (.Tuple elts kk tpos) (.Call (.Name "zip" p) [e, e2] [] pos) (iZip ma) := by
  refine PI.impI (pi_zipS hg hm ha hs hpl) fun σ H R ρ S E r er p => ?_
  refine ⟨ρ, S, E, r, er, (Post.bind (R := DVs X.K) p).imp fun vs H1 ⟨ρ1, S1, ds, r1, e1, d1, p1⟩ => ?_⟩
  split at p1
  · rename_i p q
    obtain ⟨u, v, rfl, h1, h2⟩ := dvs2 d1
    rw [dv_str] at h1 h2; subst h1 h2
    exact ⟨_, _, rfl, p1 ρ1 H1 _ r1 Ext.refl walks_zip⟩
  · exact p1.elim
end
section
variable {QI : ItD → Sto → Prop} {X : Exn → Sto → Prop} {E : Evn} {S : Sto} {ma : MA}
def OkZip (ds : List D) (Q : ItD → Prop) (_u : Tg Q Q := .mk) : Prop := match ds with
  | [.str p, .str q] => Q ⟨(p.zip q).map fun c => .tup [.str [c.1], .str [c.2]], none⟩
  | _ => False
theorem w_zip : OkO (iZip ma E S) QI X = OkO (ma E S) (fun ds S1 => OkZip ds fun i => QI i S1) X := by
  unfold iZip
  refine w_bind.trans (OkO_fun fun ds S1 => ?_)
  unfold OkZip
  split <;> rfl
theorem w_zips {p q : Tx} {Q : ItD → Prop} : OkZip [.str p, .str q] Q = Q ⟨(p.zip q).map fun c => .tup [.str [c.1], .str [c.2]], none⟩ := rfl
end
end PD

/-! PyF7: a, b = x, y without a tuple; is True, is False. -/
namespace PD
open PySem PySem.Spec PyProof PyProof.Rows L2
def mPar (i j : Nat) (ma : MA) : MS := fun E S => (ma E S).toS E fun ds S1 => match ds with
  | [a, b] => .nx ((E.set i (some a)).set j (some b)) S1
  | _ => .bad
def mPar3 (i j l : Nat) (ma : MA) : MS := fun E S => (ma E S).toS E fun ds S1 => match ds with
  | [a, b, c] => .nx (((E.set i (some a)).set j (some b)).set l (some c)) S1
  | _ => .bad
section
variable {X : Cx} {W : WW X.K} {pos : Pos}
theorem sd_par {i j : Nat} {x y : Str} {a b : Expr} {ma : MA} {px py pt : Pos} {kt k2 pt2} (hc : X.calm = true) (hN : X.N.Nodup) (hi : X.N[i]? = some x) (hj : X.N[j]? = some y) (hij : i ≠ j)
    (hx : X.env.scope.names.lookup x = some .local) (hy : X.env.scope.names.lookup y = some .local) (ha : AD X W [a, b] ma) (hf : W.fix = none)
    (hw : swappedStores [.Tuple [.Name x px, .Name y py] kt pt] (.Tuple [a, b] k2 pt2) X.env = pure (some [x, y]) := by rfl)
    (hs : swapsWithSole [.Tuple [.Name x px, .Name y py] kt pt] (.Tuple [a, b] k2 pt2) pos.line X.env = pure false := by rfl) :
    SD X W (.Assign [.Tuple [.Name x px, .Name y py] kt pt] (.Tuple [a, b] k2 pt2) pos) (mPar i j ma) := by
  refine sd_of (ps_par hc hN hi hj hij hx hy ha hw hs) fun D σ H ρ S E r er p => ?_
  refine ⟨ρ, S, E, r, er, (SPost.bind (R := DVs X.K) er p).imp fun vs H1 ⟨ρ1, S1, ds, r1, e1, d1, p1⟩ => ?_⟩
  split at p1
  · rename_i a b
    obtain ⟨u, v, rfl, h1, h2⟩ := dvs2 d1
    exact ⟨u, v, rfl, p1 ρ1 H1 _ r1 Ext.refl (((er.mono e1).set hf i h1).set hf j h2)⟩
  · exact p1.elim
theorem sd_par3 {i j l : Nat} {x y z : Str} {a b c : Expr} {ma : MA} {px py pz pt : Pos} {kt k2 pt2} (hc : X.calm = true) (hN : X.N.Nodup) (hi : X.N[i]? = some x) (hj : X.N[j]? = some y) (hl : X.N[l]? = some z) (hij : i ≠ j) (hil : i ≠ l) (hjl : j ≠ l)
    (hx : X.env.scope.names.lookup x = some .local) (hy : X.env.scope.names.lookup y = some .local) (hz : X.env.scope.names.lookup z = some .local) (ha : AD X W [a, b, c] ma) (hf : W.fix = none)
    (hw : swappedStores [.Tuple [.Name x px, .Name y py, .Name z pz] kt pt] (.Tuple [a, b, c] k2 pt2) X.env = pure (some [x, y, z]) := by rfl)
    (hs : swapsWithSole [.Tuple [.Name x px, .Name y py, .Name z pz] kt pt] (.Tuple [a, b, c] k2 pt2) pos.line X.env = pure false := by rfl) :
    SD X W (.Assign [.Tuple [.Name x px, .Name y py, .Name z pz] kt pt] (.Tuple [a, b, c] k2 pt2) pos) (mPar3 i j l ma) := by
  refine sd_of (ps_par3 hc hN hi hj hl hij hil hjl hx hy hz ha hw hs) fun D σ H ρ S E r er p => ?_
  refine ⟨ρ, S, E, r, er, (SPost.bind (R := DVs X.K) er p).imp fun vs H1 ⟨ρ1, S1, ds, r1, e1, d1, p1⟩ => ?_⟩
  split at p1
  · rename_i a b c
    simp only [DVs] at d1
    obtain ⟨u, _, rfl, h1, v, _, rfl, h2, w, _, rfl, h3, rfl⟩ := d1
    exact ⟨u, v, w, rfl, p1 ρ1 H1 _ r1 Ext.refl ((((er.mono e1).set hf i h1).set hf j h2).set hf l h3)⟩
  · exact p1.elim
/-! is True, is not False, of truths -/
def gIsB (_ : Sto) (x y : D) : Option D := match x, y with
  | .bl a, .bl b => some (.bl (decide (a = b)))
  | _, _ => none
def gNotB (_ : Sto) (x y : D) : Option D := match x, y with
  | .bl a, .bl b => some (.bl (!decide (a = b)))
  | _, _ => none
theorem rp_isB : ∀ x y H Q, rP X.K gIsB x y H Q → ∃ a b, x = .bl a ∧ y = .bl b ∧ Q (.bl (decide (a = b))) H := by
  rintro v u H Q ⟨ρ, S, x, y, d, r, dx, dy, hg, q⟩
  unfold gIsB at hg
  split at hg
  · cases hg
    rw [dv_bl] at dx dy; subst dx dy
    exact ⟨_, _, rfl, rfl, post_bl r q⟩
  · cases hg
theorem rp_notB : ∀ x y H Q, rP X.K gNotB x y H Q → ∃ a b, x = .bl a ∧ y = .bl b ∧ Q (.bl (!decide (a = b))) H := by
  rintro v u H Q ⟨ρ, S, x, y, d, r, dx, dy, hg, q⟩
  unfold gNotB at hg
  split at hg
  · cases hg
    rw [dv_bl] at dx dy; subst dx dy
    exact ⟨_, _, rfl, rfl, post_bl r q⟩
  · cases hg
end
section
variable {N : EC} {R : D → Sto → Prop} {XE : Exn → EC} {B C : EC} {E : Evn} {S : Sto} {ma : MA}
def OkTwo (ds : List D) (Q : D → D → Prop) (_u : Tg Q Q := .mk) : Prop := match ds with
  | [a, b] => Q a b
  | _ => False
def OkThree (ds : List D) (Q : D → D → D → Prop) (_u : Tg Q Q := .mk) : Prop := match ds with
  | [a, b, c] => Q a b c
  | _ => False
theorem w_two {a b : D} {Q : D → D → Prop} : OkTwo [a, b] Q = Q a b := rfl
theorem w_three {a b c : D} {Q : D → D → D → Prop} : OkThree [a, b, c] Q = Q a b c := rfl
theorem w_par {i j : Nat} : OkS (mPar i j ma E S) N R XE B C = OkO (ma E S) (fun ds S1 => OkTwo ds fun a b => OkN ((E.set i (some a)).set j (some b)) fun E' => N E' S1) (fun e S1 => XE e E S1) := by
  unfold mPar
  refine w_toS.trans (OkO_fun fun ds S1 => ?_)
  unfold OkTwo
  split <;> rfl
theorem w_par3 {i j l : Nat} : OkS (mPar3 i j l ma E S) N R XE B C = OkO (ma E S) (fun ds S1 => OkThree ds fun a b c => OkN (((E.set i (some a)).set j (some b)).set l (some c)) fun E' => N E' S1) (fun e S1 => XE e E S1) := by
  unfold mPar3
  refine w_toS.trans (OkO_fun fun ds S1 => ?_)
  unfold OkThree
  split <;> rfl
theorem p_isB {a b : Bool} {Q : D → Prop} : OkP (gIsB S (.bl a) (.bl b)) Q = Q (.bl (decide (a = b))) := rfl
theorem p_notB {a b : Bool} {Q : D → Prop} : OkP (gNotB S (.bl a) (.bl b)) Q = Q (.bl (!decide (a = b))) := rfl
end
end PD

/-! PyF8: comprehensions whose elements change the store; the new list may change. -/
namespace PD
open PySem PySem.Spec PyProof PyProof.Rows L2
open Classical in
noncomputable def compX (c : Option (Nat × List D)) (one : Bool) (is : List Nat) (t : MT) (e : ME) (E0 : Evn) (n0 : Nat) : List D → Sto → Out Unit
  | [], S => if chkOk c S then .ok () S else .bad
  | x :: r, S => if chkOk c S then (match stN one is x E0 with
      | some E1 => (match t E1 S with
        | .ok b S1 => if b = true then (match e E1 S1 with
            | .ok y S2 => (match S2[n0]? with
              | some (.lst acc) => if sizeOk (acc.length + 1) then compX c one is t e E0 n0 r (S2.set n0 (.lst (acc ++ [y]))) else .bad
              | _ => .bad)
            | _ => .bad) else compX c one is t e E0 n0 r S1
        | _ => .bad)
      | none => .bad) else .bad
noncomputable def mCompL (it : MI) (one : Bool) (is vs : List Nat) (t : MT) (e : ME) : ME := fun E S => (it E S).bind fun i S1 => (compX i.chk one is t e (wipeE E vs) S1.length i.items (S1 ++ [.lst []])).bind fun _ S2 => .ok (.loc S1.length) S2
theorem pre_at {ρ ρ' t : List Addr} {n : Nat} {a : Addr} (h : ρ' = ρ ++ t) (e : ρ[n]? = some a) : ρ'[n]? = some a := by
  have hl := (List.getElem?_eq_some_iff.mp e).1
  rw [h, List.getElem?_append_left hl, e]
section
variable {X : Cx} {W : WW X.K} {pos : Pos}
theorem compL_read {mi : MI} {own : List (Str × Nat)} {one : Bool} {is : List Nat} {mt : MT} {me : ME} (hw : W.fix = none) (hv : ∀ i ∈ is, i ∈ own.map (·.2)) : ∀ σ H Q ρ S E, Rel X.K ρ S H → ER X.K W ρ H E σ → Post X.K (DV X.K) ρ H Q (fun c dx H' => W.w c dx σ H') (mCompL mi one is (own.map (·.2)) mt me E S) →
    tLc (tI X.K W mi) (gN1 X.K one is) (tT X.K (W0 X.K) mt) (tE X.K (W0 X.K) me) (own.map (·.2)) σ H Q := by
  intro σ H Q ρ S E r er p
  refine ⟨ρ, S, E, r, er, (Post.bind (R := Walks X.K) p).imp fun J H1 ⟨ρ1, S1, i, r1, e1, w1, p1⟩ => ?_⟩
  intro D hD
  have er1 := (er.mono e1).wipe hw (own.map (·.2))
  have er0 : ER X.K (W0 X.K) ρ1 H1 (wipeE E (own.map (·.2))) (L2.wipe σ (own.map (·.2))) := er1.wish trivial fun i a z => by cases z
  generalize wipeE E (own.map (·.2)) = E0 at p1 er0
  have hD0 : (ρ1 ++ [D])[S1.length]? = some D := by rw [← r1.len, List.getElem?_append_right (Nat.le_refl _), Nat.sub_self]; rfl
  refine ⟨fun n m H2 => m = i.items.length - n ∧ n ≤ i.items.length ∧ ∃ ρ2 S2, Rel X.K ρ2 S2 H2 ∧ Ext X.K ρ1 H1 ρ2 H2 ∧ ρ2[S1.length]? = some D ∧
    Post X.K (DV X.K) ρ1 H1 Q (fun c dx H' => W.w c dx σ H') ((compX i.chk one is mt me E0 S1.length (i.items.drop n) S2).bind fun _ S' => .ok (.loc S1.length) S'),
    ⟨_, rfl, Nat.zero_le _, ρ1 ++ [D], S1 ++ [.lst []], r1.alloc (u := .lst []) hD ⟨[], upd_same, by simp [DVs]⟩, Ext.alloc hD, hD0, by simpa using p1⟩, ?_⟩
  rintro n m H2 ⟨rfl, hnl, ρ2, S2, r2, e2, hD2, p2⟩
  have hck : chkOk i.chk S2 := Classical.byContradiction fun z => by
    cases q : i.items.drop n with
    | nil => rw [q, compX, if_neg z] at p2; exact p2
    | cons x rr => rw [q, compX, if_neg z] at p2; exact p2
  obtain ⟨w2, w3⟩ := w1 ρ2 S2 H2 r2 e2 hck
  by_cases hlt : n < i.items.length
  · right
    have hd : i.items[n]? = some i.items[n] := List.getElem?_eq_getElem hlt
    obtain ⟨go, yl⟩ := w2 n _ hd
    refine ⟨go, fun H' => n + 1 ≤ i.items.length ∧ ∃ ρ2 S2, Rel X.K ρ2 S2 H' ∧ Ext X.K ρ1 H1 ρ2 H' ∧ ρ2[S1.length]? = some D ∧
      Post X.K (DV X.K) ρ1 H1 Q (fun c dx H' => W.w c dx σ H') ((compX i.chk one is mt me E0 S1.length (i.items.drop (n + 1)) S2).bind fun _ S' => .ok (.loc S1.length) S'),
      fun H' ⟨h1, h2⟩ => ⟨i.items.length - (n + 1), by omega, rfl, h1, h2⟩, fun x H3 hy => ?_⟩
    obtain ⟨r3, e3, d3⟩ := yl x H3 hy
    rw [drop_cons_of hd, compX, if_pos hck] at p2
    cases q : stN one is i.items[n] E0 with
    | none => rw [q] at p2; exact p2.elim
    | some E1 =>
      rw [q] at p2
      simp only at p2
      have er3 : ER X.K (W0 X.K) ρ2 H3 E0 (L2.wipe σ (own.map (·.2))) := er0.mono (e2.trans e3)
      refine stN_ok (S := S1) rfl er3 d3 hv q fun σ2 er4 hw2 => ⟨hw2.trans (wipe_wipe _ fun _ h => h), ?_⟩
      refine ⟨ρ2, S2, E1, r3, er4, ?_⟩
      cases q1 : mt E1 S2 with
      | bad => rw [q1] at p2; exact p2.elim
      | ex e S5 => rw [q1] at p2; exact p2.elim
      | ok b S5 =>
        rw [q1] at p2
        simp only at p2
        intro ρ5 H5 v r5 e5 hv5
        subst hv5
        obtain ⟨t5, h5⟩ := e5.pre
        have hD5 := pre_at h5 hD2
        cases b with
        | false =>
          rw [if_neg (by simp)] at p2 ⊢
          exact ⟨hlt, ρ5, S5, r5, (e2.trans e3).trans e5, hD5, p2⟩
        | true =>
          rw [if_pos rfl] at p2 ⊢
          refine ⟨ρ5, S5, E1, r5, er4.mono e5, ?_⟩
          cases q2 : me E1 S5 with
          | bad => rw [q2] at p2; exact p2.elim
          | ex e S6 => rw [q2] at p2; exact p2.elim
          | ok y S6 =>
            rw [q2] at p2
            simp only at p2
            intro ρ6 H6 w r6 e6 d6
            obtain ⟨t6, h6⟩ := e6.pre
            have hD6 := pre_at h6 hD5
            cases q3 : S6[S1.length]? with
            | none => rw [q3] at p2; exact p2.elim
            | some ob =>
              rw [q3] at p2
              cases ob with
              | lst acc =>
                simp only at p2
                by_cases hs : sizeOk (acc.length + 1)
                · rw [if_pos hs] at p2
                  obtain ⟨us6, h61, h62⟩ := r6.lst q3 hD6
                  have hmem : D ∈ ρ6 := List.mem_of_getElem? hD6
                  refine ⟨us6, h61, by rw [← h62.length]; exact hs, hlt, ρ6, S6.set S1.length (.lst (acc ++ [y])), r6.write hD6 q3 h61 (h62.append (DVs.one d6)), ?_, hD6, p2⟩
                  exact (((e2.trans e3).trans e5).trans e6).trans (Ext.write hmem h61)
                · rw [if_neg hs] at p2; exact p2.elim
              | _ => exact p2.elim
  · left
    have hn2 : n = i.items.length := by omega
    subst hn2
    rw [List.drop_length, compX, if_pos hck, bind_ok] at p2
    refine ⟨w3, p2 ρ2 H2 (.ref D) r2 e2 ?_⟩
    simp only [DV]
    exact ⟨D, rfl, hD2⟩
theorem ed_compL {elt tg iter : Expr} {ifs : List Expr} {scope : Scope} {own : List (Str × Nat)} {mi : MI} {one : Bool} {is : List Nat} {mt : MT} {me : ME} (hc : X.calm = true) (hN : X.N.Nodup) (hi : ID X W tg iter mi) (ok : BlkOk X.N X.env.scope scope own) (hw : W.fix = none)
    (hv : ∀ i ∈ is, i ∈ own.map (·.2))
    (hg : ∀ (s : Shared) (H : Hp) (C : Addr) (cl : List (Str × Addr)) (fp : List Addr), PG (X.blk s H scope (compEnvC scope cl C X.env) fp) tg (gN1 X.K one is))
    (ht : ∀ (s : Shared) (H : Hp) (C : Addr) (cl : List (Str × Addr)) (fp : List Addr), PD' (X.blk s H scope (compEnvC scope cl C X.env) fp) ifs mt)
    (he : ∀ (s : Shared) (H : Hp) (C : Addr) (cl : List (Str × Addr)) (fp : List Addr), ED (X.blk s H scope (compEnvC scope cl C X.env) fp) (W0 X.K) elt me) (hs : ∀ x, foldedSetIterable iter X.env x = pure x := by intro _; rfl) :
    ED X W (.ListComp elt [⟨tg, iter, ifs, 0⟩] scope pos) (mCompL mi one is (own.map (·.2)) mt me) :=
  ed_of (pe_lc (tt := tT X.K (W0 X.K) mt) (te := tE X.K (W0 X.K) me) hc hN hi ok hg ht he hs) (compL_read hw hv)
theorem sd_setLcL {i : Nat} {y : Str} {py spos : Pos} {elt tg iter : Expr} {ifs : List Expr} {scope : Scope} {own : List (Str × Nat)} {mi : MI} {one : Bool} {is : List Nat} {mt : MT} {me : ME} (hc : X.calm = true) (hN : X.N.Nodup) (hy : X.N[i]? = some y) (hyl : X.env.scope.names.lookup y = some .local)
    (hi : ID X W tg iter mi) (ok : BlkOk X.N X.env.scope scope own) (hw : W.fix = none) (hv : ∀ i ∈ is, i ∈ own.map (·.2))
    (hg : ∀ (s : Shared) (H : Hp) (C : Addr) (cl : List (Str × Addr)) (fp : List Addr), PG (X.blk s H scope (compEnvC scope cl C X.env) fp) tg (gN1 X.K one is))
    (ht : ∀ (s : Shared) (H : Hp) (C : Addr) (cl : List (Str × Addr)) (fp : List Addr), PD' (X.blk s H scope (compEnvC scope cl C X.env) fp) ifs mt)
    (he : ∀ (s : Shared) (H : Hp) (C : Addr) (cl : List (Str × Addr)) (fp : List Addr), ED (X.blk s H scope (compEnvC scope cl C X.env) fp) (W0 X.K) elt me)
    (hsw : swapsWith (.ListComp elt [⟨tg, iter, ifs, 0⟩] scope pos) (some (.Name y py)) spos.line X.env = pure true := by rfl) (hs : ∀ x, foldedSetIterable iter X.env x = pure x := by intro _; rfl) :
    SD X W (.Assign [.Name y py] (.ListComp elt [⟨tg, iter, ifs, 0⟩] scope pos) spos) (mSet i (mCompL mi one is (own.map (·.2)) mt me)) := by
  refine sd_of (ps_setLc (tt := tT X.K (W0 X.K) mt) (te := tE X.K (W0 X.K) me) hc hN hy hyl hsw hi ok hg ht he hs) fun D σ H ρ S E r er p => ?_
  exact compL_read hw hv σ H _ ρ S E r er ((SPost.bind (R := DV X.K) er p).imp fun x H1 ⟨ρ1, S1, d, r1, e1, d1, p1⟩ => p1 ρ1 H1 _ r1 Ext.refl ((er.mono e1).set hw i d1))
end
/-! the rule by weakest preconditions -/
section
variable {Q : D → Sto → Prop} {X : Exn → Sto → Prop} {E : Evn} {S : Sto}
theorem w_compL {it : MI} {one : Bool} {is vs : List Nat} {t : MT} {e : ME} : OkO (mCompL it one is vs t e E S) Q X = OkO (it E S) (fun i S1 => OkO (compX i.chk one is t e (wipeE E vs) S1.length i.items (S1 ++ [.lst []])) (fun _ S2 => Q (.loc S1.length) S2) X) X := by
  unfold mCompL
  refine w_bind.trans (OkO_fun fun i S1 => w_bind.trans (OkO_fun fun _ S2 => rfl))
/-- an invariant over the items; P n acc S' : behind n items the new list is acc (not counted in S'), S' with the list at n0 -/
theorem ok_compX {c : Option (Nat × List D)} {one : Bool} {is : List Nat} {t : MT} {e : ME} {E0 : Evn} {n0 : Nat} {QU : Unit → Sto → Prop} (P : Nat → Sto → Prop) :
    ∀ (l : List D) (n : Nat) (S : Sto), P n S → (∀ i S, P i S → chkOk c S) →
    (∀ i x S, l[i]? = some x → P (n + i) S → OkP (stN one is x E0) fun E1 => OkO (t E1 S) (fun b S1 => (b = false → P (n + i + 1) S1) ∧ (b = true → OkO (e E1 S1) (fun y S2 => ∃ acc, S2[n0]? = some (.lst acc) ∧ acc.length < 16777216 ∧ P (n + i + 1) (S2.set n0 (.lst (acc ++ [y])))) (fun _ _ => False))) (fun _ _ => False)) →
    (∀ S, P (n + l.length) S → QU () S) → OkO (compX c one is t e E0 n0 l S) QU X
  | [], n, S, h0, hc, hs, he => by
    rw [compX, if_pos (hc _ _ h0)]
    exact he S (by simpa using h0)
  | x :: l, n, S, h0, hc, hs, he => by
    rw [compX, if_pos (hc _ _ h0)]
    have h1 := hs 0 x S rfl (by simpa using h0)
    cases q : stN one is x E0 with
    | none => rw [q] at h1; exact h1.elim
    | some E1 =>
      rw [q, w_some] at h1
      simp only
      cases q1 : t E1 S with
      | bad => rw [q1] at h1; exact h1.elim
      | ex _ _ => rw [q1] at h1; exact h1.elim
      | ok b S1 =>
        rw [q1, w_ok] at h1
        obtain ⟨h2, h3⟩ := h1
        have again : ∀ S, P (n + 1) S → OkO (compX c one is t e E0 n0 l S) QU X := fun S hS => ok_compX P l (n + 1) S hS hc (fun i y S hy hp => by
          have := hs (i + 1) y S (by simpa using hy) (by rw [show n + (i + 1) = n + 1 + i by omega]; exact hp)
          rw [show n + (i + 1) + 1 = n + 1 + i + 1 by omega] at this
          exact this) (fun S hp => he S (by rw [List.length_cons, show n + (l.length + 1) = n + 1 + l.length by omega]; exact hp))
        simp only
        cases b with
        | false =>
          rw [if_neg (by simp)]
          exact again S1 (h2 rfl)
        | true =>
          rw [if_pos rfl]
          have h4 := h3 rfl
          cases q2 : e E1 S1 with
          | bad => rw [q2] at h4; exact h4.elim
          | ex _ _ => rw [q2] at h4; exact h4.elim
          | ok y S2 =>
            rw [q2, w_ok] at h4
            obtain ⟨acc, g1, g2, g3⟩ := h4
            simp only [g1]
            rw [if_pos (sizeOk_of (by omega))]
            exact again _ g3
end
end PD

/-! PyF9: enumerate of rows; sorted, max of a list of ints; o[i] op= e; list() that will change. -/
namespace PD
open PySem PySem.Spec PyProof PyProof.Rows L2
/-! ### enumerate of a tuple -/
theorem meets_enumT (l : Addr) (items : Array Value) :
    Meets (Builtin.«enumerate.__new__» ⟨[.type "enumerate", .ref l], []⟩) (fun _ R s => s.heap.IsTuple l items ∧
      R (.ok (.ret (.ref (s.heap.push { cls := .type "tuple_iterator", data := .fields #[.ref l, .int 0 0] }).objs.size)))
        { s with heap := (s.heap.push { cls := .type "tuple_iterator", data := .fields #[.ref l, .int 0 0] }).push { cls := .type "enumerate", data := .fields #[.none, .bool false, .ref s.heap.objs.size, rawInt 0, .none, .none] } }) :=
  .of_wp fun prog w A R s h => by
    obtain ⟨hp, g, d, tk, os⟩ := s; obtain ⟨hl, h⟩ := h
    have hsub := sub_enumerate
    have q1 : ∀ {A' : Around} {E : Value → Shared → Prop} {Q : Value → Shared → Prop}, Q (.ref hp.objs.size) ⟨hp.push { cls := .type "tuple_iterator", data := .fields #[.ref l, .int 0 0] }, g, d, tk, os⟩ → wpAny (model prog w) A' (pyIter (.ref l)) Q E ⟨hp, g, d, tk, os⟩ :=
      fun q => (begins_tuple l items).iter prog w _ _ ⟨hp, g, d, tk, os⟩ _ hl q
    obtain ⟨⟨c, dct, dt, sl⟩, hl0, hc, n, hd⟩ := id hl
    replace hc : c = .type "tuple" := hc
    replace hd : dt = .seq items n := hd
    subst hc hd
    wp_walk using AutoSeq1.wpAny_loadPart' hl0
    refine wpAny_stack_any fun st => wpAny_pure ?_
    split
    · rename_i c _ _ _ _ _
      cases (c == Value.type "enumerate")
      · wp_walk using AutoSeq1.wpAny_loadPart' hl0, q1
        exact ⟨_, rfl, h⟩
      · wp_walk using AutoSeq1.wpAny_loadPart' hl0, q1
        exact ⟨_, rfl, h⟩
    · wp_walk using AutoSeq1.wpAny_loadPart' hl0, q1
      exact ⟨_, rfl, h⟩
theorem call_enumT {prog : Program} {w : World} {A : Around} {E : Value → Shared → Prop} {s : Shared} {l : Addr} {items : Array Value} {Q : Value → Shared → Prop} (hL : s.heap.IsTuple l items)
    (h : ∀ h', IsEnum h' (s.heap.objs.size + 1) s.heap.objs.size 0 .none → h'.IsTupleIter s.heap.objs.size l 0 → h'.objs.size = s.heap.objs.size + 2 →
      (∀ b o, s.heap.get? b = some o → h'.get? b = some o) → Q (.ref (s.heap.objs.size + 1)) { s with heap := h' }) :
    wpAny (model prog w) A (call (.type "enumerate") [.ref l]) Q E s := by
  refine callType_new F.called_enumerate (by decide) (F.typeCall_enumerate_1 _) (F.newCall_enumerate_1 _) (fun obj => F.args_object_init_2 obj _) F.entry_enumerate_new
    (meets_enumT l items) ⟨hL, ?_⟩
  have hz : (s.heap.push { cls := .type "tuple_iterator", data := .fields #[.ref l, .int 0 0] }).objs.size = s.heap.objs.size + 1 := Heap.size_push ..
  show _ ∧ _
  rw [hz]
  have he : IsEnum ((s.heap.push { cls := .type "tuple_iterator", data := .fields #[.ref l, .int 0 0] }).push
      { cls := .type "enumerate", data := .fields #[.none, .bool false, .ref s.heap.objs.size, rawInt 0, .none, .none] }) (s.heap.objs.size + 1) s.heap.objs.size 0 .none := by
    have := Heap.get?_push_size (s.heap.push { cls := .type "tuple_iterator", data := .fields #[.ref l, .int 0 0] })
      (o := { cls := .type "enumerate", data := .fields #[.none, .bool false, .ref s.heap.objs.size, rawInt 0, .none, .none] }) rfl
    rw [hz] at this; exact this
  refine ⟨⟨_, he, rfl⟩, h _ he ⟨_, Heap.get?_push_of_some _ (Heap.get?_push_size _ rfl), rfl, rfl⟩ (by rw [Heap.size_push, hz]) fun b o x => Heap.get?_push_of_some _ (Heap.get?_push_of_some _ x)⟩
/-- the tuple at a, each item in a new pair -/
def ItT (K : PySem.W.Frag) (a : Addr) : It :=
  ⟨fun i H => ∃ (xs : List V) (x : V), SqT K H a xs ∧ xs[i]? = some x, fun i H v H' => ∃ T x, v = .ref T ∧ H T = none ∧ H' = upd H T (.tup [.int (i : Nat), x]) ∧ ∀ xs, SqT K H a xs → xs[i]? = some x, fun i H => ∃ xs : List V, SqT K H a xs ∧ xs.length = i⟩
theorem turn_enumT {P : Program} {w : World} {K : PySem.W.Frag} {elts : List Expr} {kk : Nat} {tpos : Pos} (a e it : Addr) :
    Turn P w K (.Tuple elts kk tpos) (ItT K a) [e, it] e (fun i h => (∃ old, IsEnum h e it ((i : Nat) : Int) old) ∧ h.IsTupleIter it a i ∧ e ≠ it ∧ e ≠ a ∧ it ≠ a) where
  mem := by simp
  obj := fun i h st b hb => by
    obtain ⟨⟨old, he⟩, ⟨o, ho, hc, hd⟩, _⟩ := st
    have e' : b = e ∨ b = it := by simpa using hb
    rcases e' with z | z
    · rw [z]; exact ⟨_, he, fun v q => nomatch q⟩
    · rw [z]; exact ⟨o, ho, fun v q => by rw [hd] at q; cases q⟩
  keep := fun i h h' st k => let ⟨⟨old, he⟩, hi, hne⟩ := st; ⟨⟨old, k e (by simp) _ he⟩, hi.at fun o q => k it (by simp) o q, hne⟩
  item := by
    intro X hP hw hK hc i pins s σ H E I hf st hg
    subst hP hw hK
    obtain ⟨⟨old, he⟩, hit, hne, hea, hia⟩ := st
    obtain ⟨xs, x, hq, hx⟩ := hg
    obtain ⟨its, rv, p, hz⟩ := I.tuple hq
    replace p : s.heap.IsTuple a its.toArray := p
    obtain ⟨u, hu, ru⟩ := rv.get hx
    have hel : e < s.heap.objs.size := Heap.lt_size he
    have hil : it < s.heap.objs.size := by obtain ⟨_, q, _⟩ := hit; exact Heap.lt_size q
    have hlt : i < its.toArray.size := by simpa using (List.getElem?_eq_some_iff.mp hu).1
    have D : Draws X.prog X.w X.A.in1 it [it, a] its.toArray.size (fun i v => its.toArray[i]? = some v) (fun i h => h.IsTupleIter it a i ∧ h.IsTuple a its.toArray) := Draws.tuple (by show X.A.handled = none; exact I.ok.hd hc) it a (Ne.symm hia) its.toArray
    refine wpAny_pyNext_enum_itemD D he ⟨hit, p⟩ hlt hne (by simp [hne, hea]) fun y h' tk hP ho hst hT hsz hk => ?_
    have hy : y = u := by
      have e2 : its.toArray[i]? = some u := by simpa using hu
      rw [e2] at hP; exact (Option.some.inj hP).symm
    subst hy
    refine ⟨_, rfl, wpAny_letOwnedTupleGo_enum (s := { s with heap := h', toks := tk + 1 }) ho fun h'' he' sb => ?_⟩
    have hT2 : h''.get? s.heap.objs.size = some { cls := .type "tuple", data := .seq #[.int i tk, y] } := (sb.2 _ (Nat.ne_of_gt hel)).trans hT
    have new : ObjOk X.prog X.w (upd H s.heap.objs.size (.tup [.int (i : Nat), x])) h'' s.heap.objs.size (.tup [.int (i : Nat), x]) :=
      ⟨by show 2 ≤ sizeLine; decide, [.int i tk, y], .cons ⟨_, rfl⟩ (.cons ru .nil), ⟨_, hT2, rfl, _, rfl⟩⟩
    have I1 : Inv X pins σ (upd H s.heap.objs.size (.tup [.int (i : Nat), x])) { s with heap := h'', toks := tk + 1 } :=
      I.turnedNew (ch := [e, it]) (fun b ob hb q => (sb.2 b (fun z => hb (by simp [z]))).trans (hk b ob (fun z => hb (by simp [z])) (fun z => hb (by simp [z])) q)) hf (Nat.le_refl _) new
    refine ⟨.ref s.heap.objs.size, _, I1, rfl, ⟨_, x, rfl, I.hok.fresh (Nat.le_refl _), rfl, fun ys hy => by rw [I.tuple_inj hy hq]; exact hx⟩, ⟨⟨y, ?_⟩, hst.1.at fun o q => (sb.2 it (Ne.symm hne)).trans q, hne, hea, hia⟩, fun b hb => ?_⟩
    · have e1 : ((i + 1 : Nat) : Int) = (i : Int) + 1 := by omega
      rw [e1]; exact he'
    · have hb' : b < s.heap.objs.size := by
        have e' : b = e ∨ b = it := by simpa using hb
        rcases e' with z | z
        · rw [z]; exact hel
        · rw [z]; exact hil
      rw [upd_ne (Nat.ne_of_lt hb')]
      exact (hf b hb).1
  done := by
    intro X hP hw hK hc i pins s σ H E I hf st hg
    subst hP hw hK
    obtain ⟨⟨old, he⟩, hit, hne, hea, hia⟩ := st
    obtain ⟨xs, hq, hx⟩ := hg
    obtain ⟨its, rv, p, hz⟩ := I.tuple hq
    replace p : s.heap.IsTuple a its.toArray := p
    obtain ⟨f0, f1, f2, f3, f4, f5⟩ := hf it (by simp)
    have hl := rv.length
    have D : Draws X.prog X.w X.A.in1 it [it, a] its.toArray.size (fun i v => its.toArray[i]? = some v) (fun i h => h.IsTupleIter it a i ∧ h.IsTuple a its.toArray) := Draws.tuple (by show X.A.handled = none; exact I.ok.hd hc) it a (Ne.symm hia) its.toArray
    have hi : i = its.toArray.size := by simp; omega
    subst hi
    exact wpAny_pyNext_enum_endD D he ⟨hit, p⟩ fun h' eb => ⟨rfl, I.turned (t' := s.toks) (fun b o hb q => eb b o hb q) f0 f1 f3 f4 f5⟩
  self := fun A i s Q E st h => let ⟨⟨_, he⟩, _⟩ := st; wpAny_pyIter_enum he h
def tEnumT (K : PySem.W.Frag) (ta : TA) : TI := fun σ H R => ta σ H fun vs H1 => ∃ a xs, vs = [.ref a] ∧ SqT K H1 a xs ∧ R (ItT K a) H1
theorem pi_enumT {X : Cx} {e : Expr} {ta : TA} {p pos tpos : Pos} {elts : List Expr} {kk : Nat} (hg : Gl X "enumerate") (hm : X.mg "enumerate" = none) (ha : PA X [e] ta) (hs : starEach [e] X.env = [(false, eval e X.env)] := by rfl) :
    PI X (.Tuple elts kk tpos) (.Call (.Name "enumerate" p) [e] [] pos) (tEnumT X.K ta) := by
  refine ⟨fun pins s σ H R I h => ?_⟩
  refine Call_ (ld_blt I hg hm boot_enumerate (PyProof.Rows.callWith_type1 (thn (ha.run pos pins s σ H _ I h) fun us s1 ⟨vs, H1, I1, r1, q1⟩ => ?_) hs rfl))
  obtain ⟨a, xs, ex, hq, q⟩ := q1
  subst ex
  cases r1 with
  | cons r rr =>
    cases rr
    cases r
    obtain ⟨its, rv, p', hz⟩ := I1.tuple hq
    replace p' : s1.heap.IsTuple a its.toArray := p'
    have hal : a < s1.heap.objs.size := by obtain ⟨_, q, _⟩ := p'; exact Heap.lt_size q
    refine call_enumT p' fun h' he hit hsz hk => wpAny_pyIter_enum he ?_
    have I2 : Inv X pins σ H1 { s1 with heap := h' } := I1.kept (t' := s1.toks) hk
    refine ⟨s1.heap.objs.size + 1, [s1.heap.objs.size + 1, s1.heap.objs.size], _, _, H1, rfl, I2, turn_enumT a (s1.heap.objs.size + 1) s1.heap.objs.size,
      ⟨⟨.none, he⟩, hit, Nat.succ_ne_self _, Nat.ne_of_gt (Nat.lt_succ_of_lt hal), Nat.ne_of_gt hal⟩, fun b hb => ?_, q⟩
    have e' : b = s1.heap.objs.size + 1 ∨ b = s1.heap.objs.size := by simpa using hb
    have hle : s1.heap.objs.size ≤ b := by
      rcases e' with z | z
      · rw [z]; exact Nat.le_add_right _ _
      · rw [z]; exact Nat.le_refl _
    exact I1.fpOk hle (I1.hok.fresh hle)
/-! enumerate on plain data -/
def enumD (xs : List D) : List D := xs.mapIdx fun i x => .tup [.int (i : Nat), x]
theorem enumD_len {xs : List D} : (enumD xs).length = xs.length := by unfold enumD; simp
theorem enumD_get {xs : List D} {i : Nat} {d : D} (h : (enumD xs)[i]? = some d) : ∃ x, xs[i]? = some x ∧ d = .tup [.int (i : Nat), x] := by
  unfold enumD at h
  rw [List.getElem?_mapIdx, Option.map_eq_some_iff] at h
  obtain ⟨x, h1, h2⟩ := h
  exact ⟨x, h1, h2.symm⟩
def iEnumD (ma : MA) : MI := fun E S => (ma E S).bind fun ds S1 => match ds with
  | [.tup xs] => .ok ⟨enumD xs, none⟩ S1
  | [.lst xs] => .ok ⟨enumD xs, none⟩ S1
  | [.fz xs] => .ok ⟨enumD xs, none⟩ S1
  | [.loc n] => (match S1[n]? with
    | some (.lst xs) => .ok ⟨enumD xs, some (n, xs)⟩ S1
    | _ => .bad)
  | _ => .bad
section
variable {X : Cx} {W : WW X.K} {pos : Pos}
theorem pair_ok {ρ : List Addr} {S : Sto} {H : Hp} {T : Addr} {i : Nat} {x : V} {d : D} (r : Rel X.K ρ S H) (hT : H T = none) (dv : DV X.K ρ H d x) : DV X.K ρ (upd H T (.tup [.int (i : Nat), x])) (.tup [.int (i : Nat), d]) (.ref T) :=
  dv_tup (vs := [.int (i : Nat), x]) hT (by simp only [DVs]; exact ⟨_, _, rfl, by simp [DV], _, _, rfl, dv, rfl⟩)
theorem walks_enumT {ρ : List Addr} {H : Hp} {xs : List D} {vs : List V} {a : Addr} (h1 : SqT X.K H a vs) (h2 : DVs X.K ρ H xs vs) : Walks X.K ρ H ⟨enumD xs, none⟩ (ItT X.K a) := by
  intro ρ1 S H1 r e c
  have s1 := e.tup _ _ h1
  have d1 := DVs.mono e _ _ h2
  refine ⟨fun i d hd => ?_, ⟨vs, s1, by rw [enumD_len, d1.length]⟩⟩
  obtain ⟨x, hx, rfl⟩ := enumD_get hd
  obtain ⟨v, hv, dv⟩ := d1.get hx
  refine ⟨⟨vs, v, s1, hv⟩, fun y H' hy => ?_⟩
  obtain ⟨T, z, rfl, hT, rfl, hz⟩ := hy
  have := hz vs s1
  rw [hv] at this
  cases this
  exact ⟨r.new hT, Ext.new hT, pair_ok r hT dv⟩
theorem walks_enumL {ρ : List Addr} {H : Hp} {xs : List D} {c0 : Option (Nat × List D)} {a : Addr} (h : ∀ ρ1 S H1, Rel X.K ρ1 S H1 → Ext X.K ρ H ρ1 H1 → chkOk c0 S → ∃ vs, SqL X.K H1 a vs ∧ DVs X.K ρ1 H1 xs vs) : Walks X.K ρ H ⟨enumD xs, c0⟩ (Ite X.K a) := by
  intro ρ1 S H1 r e c
  obtain ⟨vs, s1, d1⟩ := h ρ1 S H1 r e c
  refine ⟨fun i d hd => ?_, ⟨vs, s1, by rw [enumD_len, d1.length]; exact Nat.le_refl _⟩⟩
  obtain ⟨x, hx, rfl⟩ := enumD_get hd
  obtain ⟨v, hv, dv⟩ := d1.get hx
  refine ⟨⟨vs, v, s1, hv⟩, fun y H' hy => ?_⟩
  obtain ⟨T, z, rfl, hT, rfl, hz⟩ := hy
  have := hz vs s1
  rw [hv] at this
  cases this
  exact ⟨r.new hT, Ext.new hT, pair_ok r hT dv⟩
theorem id_enum {e : Expr} {ma : MA} {p tpos : Pos} {elts : List Expr} {kk : Nat} (hg : Gl X "enumerate") (hm : X.mg "enumerate" = none) (ha : AD X W [e] ma)
    (hs : starEach [e] X.env = [(false, eval e X.env)] := by rfl) : ID X W (.Tuple elts kk tpos) (.Call (.Name "enumerate" p) [e] [] pos) (iEnumD ma) := by
  refine PI.impI (PI.or (pi_enumT hg hm ha hs) (pi_enum hg hm ha hs)) fun σ H R ρ S E r er p => ?_
  unfold iEnumD at p
  cases q : ma E S with
  | bad => rw [q] at p; exact p.elim
  | ex e S1 => rw [q] at p; exact .inl ⟨ρ, S, E, r, er, by rw [q]; exact p⟩
  | ok ds S1 =>
    rw [q, bind_ok] at p
    split at p
    · refine .inl ⟨ρ, S, E, r, er, ?_⟩
      rw [q]
      intro ρ1 H1 v r1 e1 dv
      obtain ⟨u, rfl, h1⟩ := dvs1 dv
      obtain ⟨a, vs, rfl, h2, h3⟩ := tup_ok h1
      exact ⟨a, vs, rfl, h2, p ρ1 H1 _ r1 e1 (walks_enumT h2 h3)⟩
    · refine .inr ⟨ρ, S, E, r, er, ?_⟩
      rw [q]
      intro ρ1 H1 v r1 e1 dv
      obtain ⟨u, rfl, h1⟩ := dvs1 dv
      simp only [DV] at h1
      obtain ⟨a, vs, rfl, h2, h3⟩ := h1
      exact ⟨a, vs, rfl, h2.seq, p ρ1 H1 _ r1 e1 (walks_enumL fun ρ2 S2 H2 r2 e2 _ => ⟨vs, (h2.mono e2).seq, DVs.mono e2 _ _ h3⟩)⟩
    · refine .inr ⟨ρ, S, E, r, er, ?_⟩
      rw [q]
      intro ρ1 H1 v r1 e1 dv
      obtain ⟨u, rfl, h1⟩ := dvs1 dv
      simp only [DV] at h1
      obtain ⟨a, vs, rfl, h2, h3⟩ := h1
      exact ⟨a, vs, rfl, h2.seq, p ρ1 H1 _ r1 e1 (walks_enumL fun ρ2 S2 H2 r2 e2 _ => ⟨vs, (h2.mono e2).seq, DVs.mono e2 _ _ h3⟩)⟩
    · rename_i n
      split at p
      · rename_i xs hs1
        refine .inr ⟨ρ, S, E, r, er, ?_⟩
        rw [q]
        intro ρ1 H1 v r1 e1 dv
        obtain ⟨u, rfl, h1⟩ := dvs1 dv
        simp only [DV] at h1
        obtain ⟨a, rfl, ha⟩ := h1
        obtain ⟨vs, h2, h3⟩ := r1.lst hs1 ha
        refine ⟨a, vs, rfl, SqL.of h2, p ρ1 H1 _ r1 e1 (walks_enumL fun ρ2 S2 H2 r2 e2 hc => ?_)⟩
        obtain ⟨t, rfl⟩ := e2.pre
        obtain ⟨us, g1, g2⟩ := r2.lst hc (by rw [List.getElem?_append_left (List.getElem?_eq_some_iff.mp ha).1]; exact ha)
        exact ⟨us, SqL.of g1, g2⟩
      · exact p.elim
    · exact p.elim
/-! ### sorted, max of ints -/
def intsD : List D → Option (List Int)
  | [] => some []
  | .int i :: r => (intsD r).map (i :: ·)
  | _ :: _ => none
theorem intsD_ok {K : PySem.W.Frag} {ρ : List Addr} {H : Hp} : ∀ {ds : List D} {vs : List V} {ns : List Int}, intsD ds = some ns → DVs K ρ H ds vs → vs = ns.map V.int
  | [], vs, ns, h, d => by simp only [intsD] at h; cases h; simp only [DVs] at d; simp [d]
  | x :: r, vs, ns, h, d => by
    simp only [DVs] at d
    obtain ⟨v, us, rfl, d1, d2⟩ := d
    cases x <;> simp only [intsD, reduceCtorEq] at h
    rw [Option.map_eq_some_iff] at h
    obtain ⟨ms, h1, rfl⟩ := h
    rw [dv_int] at d1
    rw [d1, intsD_ok h1 d2]; rfl
def intL (ns : List Int) : List D := ns.map D.int
theorem intsD_L : ∀ ns : List Int, intsD (intL ns) = some ns
  | [] => rfl
  | n :: r => by show (intsD (intL r)).map (n :: ·) = _; rw [intsD_L r]; rfl
theorem dvs_ints {K : PySem.W.Frag} {ρ : List Addr} {H : Hp} : ∀ ns : List Int, DVs K ρ H (intL ns) (ns.map V.int)
  | [] => by simp [intL, DVs]
  | n :: r => by
    show DVs K ρ H (D.int n :: intL r) (V.int n :: r.map V.int)
    simp only [DVs]
    exact ⟨_, _, rfl, by simp [DV], dvs_ints r⟩
def sortI (ns : List Int) : List Int := ns.mergeSort fun a b => decide (a ≤ b)
theorem sortI_perm (ns : List Int) : (sortI ns).Perm ns := List.mergeSort_perm ..
theorem sortI_pw (ns : List Int) : (sortI ns).Pairwise (· ≤ ·) := by
  have := List.pairwise_mergeSort (le := fun a b : Int => decide (a ≤ b)) (by intro a b c h1 h2; simp at *; omega) (by intro a b; simp; omega) ns
  exact this.imp fun h => by simpa using h
theorem sorted_uniq {xs ys : List Int} (h : xs.Perm ys) (hx : xs.Pairwise (· ≤ ·)) (hy : ys.Pairwise (· ≤ ·)) : xs = ys :=
  List.Perm.eq_of_pairwise (fun _ _ _ _ h1 h2 => Int.le_antisymm h1 h2) hx hy h
def gSorted (S : Sto) (ds : List D) : Option D := match ds with
  | [d] => ((seqF S d).bind intsD).map fun ns => .lst (intL (sortI ns))
  | _ => none
theorem rp_sorted : ∀ vs H Q, rPB X.K gSorted vs H Q → rSortedI X.K vs H Q := by
  rintro vs H Q ⟨ρ, S, ds, d, r, dv, hg, q⟩
  unfold gSorted at hg
  split at hg
  · rename_i x
    rw [Option.map_eq_some_iff] at hg
    obtain ⟨ns, h, rfl⟩ := hg
    rw [Option.bind_eq_some_iff] at h
    obtain ⟨xs, e, hn⟩ := h
    obtain ⟨u, rfl, h1⟩ := dvs1 dv
    obtain ⟨a, us, rfl, h2, h3⟩ := seqF_ok r h1 e
    have hu := intsD_ok hn h3
    subst hu
    refine ⟨a, ns, rfl, h2, fun ns' p hp hpw hf => ?_⟩
    have := sorted_uniq (hp.trans (sortI_perm ns).symm) hpw (sortI_pw ns)
    subst this
    exact post_lst r hf (dvs_ints _) q
  · cases hg
def maxI : List Int → Option Int
  | [] => none
  | n :: r => match maxI r with
    | none => some n
    | some m => some (if n ≤ m then m else n)
theorem maxI_some : ∀ {ns : List Int}, ns ≠ [] → ∃ m, maxI ns = some m ∧ m ∈ ns ∧ ∀ y ∈ ns, y ≤ m
  | [], h => absurd rfl h
  | [n], _ => ⟨n, rfl, by simp, by simp⟩
  | n :: k :: r, _ => by
    obtain ⟨m, h1, h2, h3⟩ := maxI_some (ns := k :: r) (by simp)
    refine ⟨if n ≤ m then m else n, by rw [maxI, h1], ?_, fun y hy => ?_⟩
    · split
      · exact List.mem_cons_of_mem _ h2
      · simp
    · rcases List.mem_cons.mp hy with rfl | hy
      · split <;> omega
      · have := h3 y hy; split <;> omega
def gMaxL (S : Sto) (ds : List D) : Option D := match ds with
  | [d] => (((seqF S d).bind intsD).bind maxI).map D.int
  | _ => none
theorem rp_maxL : ∀ vs H Q, rPB X.K gMaxL vs H Q → rMax X.K vs H Q := by
  rintro vs H Q ⟨ρ, S, ds, d, r, dv, hg, q⟩
  unfold gMaxL at hg
  split at hg
  · rename_i x
    rw [Option.map_eq_some_iff] at hg
    obtain ⟨m, h, rfl⟩ := hg
    rw [Option.bind_eq_some_iff] at h
    obtain ⟨ns, h, hm⟩ := h
    rw [Option.bind_eq_some_iff] at h
    obtain ⟨xs, e, hn⟩ := h
    obtain ⟨u, rfl, h1⟩ := dvs1 dv
    obtain ⟨a, us, rfl, h2, h3⟩ := seqF_ok r h1 e
    have hu := intsD_ok hn h3
    subst hu
    have hne : ns ≠ [] := by rintro rfl; cases hm
    refine ⟨a, ns, rfl, h2, List.length_pos_iff.mpr hne, fun m' h4 h5 => ?_⟩
    obtain ⟨k, g1, g2, g3⟩ := maxI_some hne
    rw [g1] at hm; cases hm
    have : m' = m := Int.le_antisymm (g3 _ h4) (h5 _ g2)
    subst this
    exact post_int r q
  · cases hg
/-! ### a list made of a row, that will change -/
def mListL (a : MA) : ME := fun E S => (a E S).bind fun ds S1 => match ds with
  | [d] => (match rowF S1 d with
    | some xs => .ok (.loc S1.length) (S1 ++ [.lst xs])
    | none => .bad)
  | _ => .bad
theorem listL_read {ms : MA} {r : List V → Hp → VK → Prop} (hr : ∀ vs H Q, (∃ p ys, vs = [V.ref p] ∧ (SqL X.K H p ys ∨ SqT X.K H p ys) ∧ ∀ l, H l = none → Q (.ref l) (upd H l (.lst ys))) → r vs H Q) : ∀ σ H Q ρ S E, Rel X.K ρ S H → ER X.K W ρ H E σ → Post X.K (DV X.K) ρ H Q (fun c dx H' => W.w c dx σ H') (mListL ms E S) → tCB r (tA X.K W ms) σ H Q := by
  intro σ H Q ρ S E re er p
  refine ⟨ρ, S, E, re, er, (Post.bind (R := DVs X.K) p).imp fun vs H1 ⟨ρ1, S1, ds, r1, e1, d1, p1⟩ => ?_⟩
  apply hr
  split at p1
  · rename_i d
    obtain ⟨u, rfl, h1⟩ := dvs1 d1
    split at p1
    · rename_i xs hx
      obtain ⟨a, us, rfl, h2, h3⟩ := rowF_ok r1 h1 hx
      exact ⟨a, us, rfl, h2, fun q hq => p1 (ρ1 ++ [q]) _ _ (r1.alloc hq ⟨us, upd_same, DVs.mono (Ext.alloc hq) _ _ h3⟩) (Ext.alloc hq) (dv_loc r1)⟩
    · exact p1.elim
  · exact p1.elim
theorem ed_listL {x : Str} {e : Expr} {p : Pos} {ms : MA} (hx : x = "list") (hg : Gl X x) (hm : X.mg x = none) (ha : AD X W [e] ms) (he : starEach [e] X.env = (false, eval e X.env) :: starEach [] X.env := by rfl) (hpl : (backTo pos (starEach [] X.env)).any (·.1) = false := by rfl) :
    ED X W (.Call (.Name x p) [e] [] pos) (mListL ms) := by
  subst hx
  first
    | exact ed_of (pe_callTy call_list_of hg hm boot_list ha (by decide) (by decide) he hpl) (listL_read fun _ _ _ h => h)
    | exact ed_of (pe_callTy (es := []) call_list_of hg hm boot_list ha (by decide) (by decide) he hpl) (listL_read fun _ _ _ h => h)
/-! ### o[i] op= e, o a list of the store -/
def rGetLN (K : PySem.W.Frag) : V → V → Hp → VK → Prop := fun o i H Q => ∃ p xs k v, o = .ref p ∧ i = .int k ∧ 0 ≤ k ∧ H p = some (.lst xs) ∧ xs[k.toNat]? = some v ∧ Q v H
theorem get_listN : PGet X (rGetLN X.K) := by
  intro pins s σ H o i ov iv Q I ro ri h
  obtain ⟨p, xs, k, v, rfl, rfl, h0, hp, hv, q⟩ := h
  cases ro
  obtain ⟨t, rfl⟩ := ri
  obtain ⟨its, r, pl, hz⟩ := I.list (SqL.of hp)
  obtain ⟨w, ew, rw'⟩ := r.get hv
  have hl := r.length
  have hlt := (List.getElem?_eq_some_iff.mp hv).1
  have hn := line63
  exact wpAny_getItem_list pl.isList h0 (by omega) (by simpa using ew) ⟨v, H, I, rw', q⟩
noncomputable def mAugI (o i : ME) (g : Sto → D → D → Option D) (e : ME) : MS := fun E S => (o E S).toS E fun x S1 => (i E S1).toS E fun k S2 => match x, k with
  | .loc n, .int k => (match S2[n]? with
    | some (.lst l) => if 0 ≤ k then (match l[k.toNat]? with
      | some old => (e E S2).toS E fun y S3 => (match g S3 old y with
        | some z => (match S3[n]? with
          | some (.lst l3) => if k.toNat < l3.length then .nx E (S3.set n (.lst (l3.set k.toNat z))) else .bad
          | _ => .bad)
        | none => .bad)
      | none => .bad) else .bad
    | _ => .bad)
  | _, _ => .bad
theorem sd_augS {o i e : Expr} {mo mi me : ME} {op : Operator} {tip : TIp} {tpos : Pos} {g : Sto → D → D → Option D} (ho : ED X W o mo) (hi : ED X W i mi) (he : ED X W e me) (hp : PIp X op tip) (hr : ∀ x y H Q, rP X.K g x y H Q → tip x y H Q)
    (ha : ∀ ov iv new, augStore i ov iv new = (do holding [new, ov, iv] (setItem ov iv new); release [new, ov, iv] []; pure .next) := by intros; rfl) : SD X W (.AugAssign (.Subscript o i tpos) op e pos) (mAugI mo mi g me) := by
  refine sd_of (ps_augS ho hi get_listN he hp set_list ha) fun D σ H ρ S E r er p => ?_
  refine ⟨ρ, S, E, r, er, (SPost.bind (R := DV X.K) er p).imp fun x H1 ⟨ρ1, S1, dx, r1, e1, d1, p1⟩ => ?_⟩
  have er1 := er.mono e1
  refine ⟨ρ1, S1, E, r1, er1, (SPost.bind (R := DV X.K) er1 p1).imp fun k H2 ⟨ρ2, S2, dk, r2, e2, d2, p2⟩ => ?_⟩
  have er2 := er1.mono e2
  have d1' := DV.mono e2 _ _ d1
  cases dx with
  | loc n =>
    cases dk with
    | int k =>
      rw [dv_int] at d2; subst d2
      simp only at p2
      split at p2
      · rename_i l hs
        by_cases h0 : 0 ≤ k
        · rw [if_pos h0] at p2
          split at p2
          · rename_i old hold
            simp only [DV] at d1'
            obtain ⟨a, rfl, ha⟩ := d1'
            obtain ⟨us, h1, h2⟩ := r2.lst hs ha
            obtain ⟨v, hv, dv⟩ := h2.get hold
            refine ⟨a, us, k, v, rfl, rfl, h0, h1, hv, ?_⟩
            refine ⟨ρ2, S2, E, r2, er2, (SPost.bind (R := DV X.K) er2 p2).imp fun y H3 ⟨ρ3, S3, dy, r3, e3, d3, p3⟩ => ?_⟩
            have er3 := er2.mono e3
            cases hg : g S3 old dy with
            | none => rw [hg] at p3; exact p3.elim
            | some z =>
              rw [hg] at p3
              simp only at p3
              refine hr _ _ _ _ ⟨ρ3, S3, old, dy, z, r3, DV.mono e3 _ _ dv, d3, hg, fun ρ4 H4 w r4 e4 dw => ?_⟩
              have er4 := er3.mono e4
              split at p3
              · rename_i l3 hs3
                split at p3
                · rename_i hlt
                  have ha4 : ρ4[n]? = some a := by
                    obtain ⟨t3, q3⟩ := e3.pre
                    obtain ⟨t4, q4⟩ := e4.pre
                    exact pre_at q4 (pre_at q3 ha)
                  obtain ⟨us4, g1, g2⟩ := r4.lst hs3 ha4
                  have wr := Ext.write (K := X.K) (us := us4.set k.toNat w) (List.mem_of_getElem? ha4) g1
                  refine ⟨a, us4, k, k.toNat, rfl, rfl, g1, ?_, p3 ρ4 _ σ (r4.write ha4 hs3 g1 (DVs.set dw k.toNat g2)) (e4.trans wr) (er4.mono wr)⟩
                  rw [← g2.length]
                  exact ixD_ixN (by unfold ixD; rw [if_pos h0, if_pos hlt])
                · exact p3.elim
              · exact p3.elim
          · exact p2.elim
        · rw [if_neg h0] at p2; exact p2.elim
      · exact p2.elim
    | _ => exact p2.elim
  | _ => exact p2.elim
end
/-! ### by weakest preconditions -/
section
variable {Q : D → Sto → Prop} {QI : ItD → Sto → Prop} {X : Exn → Sto → Prop} {E : Evn} {S : Sto} {ma : MA}
def OkEnum (S : Sto) (ds : List D) (Q : ItD → Prop) (_u : Tg Q Q := .mk) : Prop := match ds with
  | [.tup xs] => Q ⟨enumD xs, none⟩
  | [.lst xs] => Q ⟨enumD xs, none⟩
  | [.fz xs] => Q ⟨enumD xs, none⟩
  | [.loc n] => (match S[n]? with
    | some (.lst xs) => Q ⟨enumD xs, some (n, xs)⟩
    | _ => False)
  | _ => False
theorem w_enum : OkO (iEnumD ma E S) QI X = OkO (ma E S) (fun ds S1 => OkEnum S1 ds fun i => QI i S1) X := by
  unfold iEnumD
  refine w_bind.trans (OkO_fun fun ds S1 => ?_)
  unfold OkEnum
  split <;> try rfl
  split <;> rfl
theorem w_enumT {xs : List D} {Q : ItD → Prop} : OkEnum S [.tup xs] Q = Q ⟨enumD xs, none⟩ := rfl
theorem w_enumL {xs : List D} {Q : ItD → Prop} : OkEnum S [.lst xs] Q = Q ⟨enumD xs, none⟩ := rfl
theorem w_enumC {n : Nat} {xs : List D} {Q : ItD → Prop} (h : S[n]? = some (.lst xs)) : OkEnum S [.loc n] Q = Q ⟨enumD xs, some (n, xs)⟩ := by
  unfold OkEnum; simp only [h]
theorem w_listL : OkO (mListL ma E S) Q X = OkO (ma E S) (fun ds S1 => match ds with
  | [d] => (match rowF S1 d with
    | some xs => Q (.loc S1.length) (S1 ++ [.lst xs])
    | none => False)
  | _ => False) X := by
  unfold mListL
  refine w_bind.trans (OkO_fun fun ds S1 => ?_)
  split
  · split <;> rfl
  · rfl
theorem rowF_tup {xs : List D} : rowF S (.tup xs) = some xs := rfl
theorem rowF_lst {xs : List D} : rowF S (.lst xs) = some xs := rfl
theorem rowF_loc {n : Nat} {xs : List D} (h : S[n]? = some (.lst xs)) : rowF S (.loc n) = some xs := by unfold rowF seqF; simp only [h]
theorem g_sortedL {ns : List Int} : gSorted S [.lst (intL ns)] = some (.lst (intL (sortI ns))) := by simp [gSorted, seqF, intsD_L]
theorem g_sortedC {n : Nat} {ns : List Int} (h : S[n]? = some (.lst (intL ns))) : gSorted S [.loc n] = some (.lst (intL (sortI ns))) := by simp [gSorted, seqF, h, intsD_L]
theorem g_maxL {ns : List Int} {m : Int} (h : maxI ns = some m) : gMaxL S [.lst (intL ns)] = some (.int m) := by simp [gMaxL, seqF, intsD_L, h]
theorem intL_fl (ns : List Int) : (intL ns).all flD = true := by simp [intL, flD]
theorem intL_teq {i : Int} : ∀ ns : List Int, ((intL ns).any fun y => teq y (.int i)) = decide (i ∈ ns)
  | [] => by simp [intL]
  | n :: r => by
    have := intL_teq (i := i) r
    simp only [intL, List.map_cons, List.any_cons] at this ⊢
    rw [this]
    simp only [teq, List.mem_cons, Bool.decide_or]
    congr 1
    rw [decide_eq_decide]
    exact eq_comm
theorem g_inIT {i : Int} {ns : List Int} : gIn S (.int i) (.tup (intL ns)) = some (.bl (decide (i ∈ ns))) := by
  rw [g_inT rfl (intL_fl ns), intL_teq]
theorem g_ninIT {i : Int} {ns : List Int} : gNotIn S (.int i) (.tup (intL ns)) = some (.bl (!decide (i ∈ ns))) := by
  rw [g_notInT rfl (intL_fl ns), intL_teq]
theorem g_inIL {i : Int} {ns : List Int} : gIn S (.int i) (.lst (intL ns)) = some (.bl (decide (i ∈ ns))) := by
  rw [g_in (in_seq (ys := intL ns) rfl rfl (intL_fl ns)), intL_teq]
theorem g_ninIL {i : Int} {ns : List Int} : gNotIn S (.int i) (.lst (intL ns)) = some (.bl (!decide (i ∈ ns))) := by
  rw [g_notIn (in_seq (ys := intL ns) rfl rfl (intL_fl ns)), intL_teq]
theorem g_inIC {i : Int} {n : Nat} {ns : List Int} (h : S[n]? = some (.lst (intL ns))) : gIn S (.int i) (.loc n) = some (.bl (decide (i ∈ ns))) := by
  rw [g_in (in_seq (ys := intL ns) (by unfold seqF; simp only [h]) rfl (intL_fl ns)), intL_teq]
theorem g_ninIC {i : Int} {n : Nat} {ns : List Int} (h : S[n]? = some (.lst (intL ns))) : gNotIn S (.int i) (.loc n) = some (.bl (!decide (i ∈ ns))) := by
  rw [g_notIn (in_seq (ys := intL ns) (by unfold seqF; simp only [h]) rfl (intL_fl ns)), intL_teq]
theorem okds_int {k : Nat} : ∀ ns : List Int, okds (intL ns) k = true
  | [] => rfl
  | n :: r => by show (okd (.int n) k && okds (intL r) k) = true; rw [okds_int r]; rfl
theorem teqs_nil {xs : List D} : teqs xs [] = decide (xs = []) := by cases xs <;> simp [teqs]
theorem g_neNilC {n : Nat} {ns : List Int} (h : S[n]? = some (.lst (intL ns))) : gNe S (.loc n) (.lst []) = some (.bl (decide (ns ≠ []))) := by
  have hf : flat S (.loc n) = .lst (intL ns) := by unfold flat seqF; simp only [h]
  rw [gNe_teq (by rw [hf]; simp [okd, okds_int]) (by simp [flat, okd, okds]), hf]
  simp only [flat, teq, teqs_nil]
  cases ns <;> simp [intL]
theorem g_neNilT {ns : List Int} : gNe S (.tup (intL ns)) (.tup []) = some (.bl (decide (ns ≠ []))) := by
  rw [gNe_teq (by simp [flat, okd, okds_int]) (by simp [flat, okd, okds])]
  simp only [flat, teq, teqs_nil]
  cases ns <;> simp [intL]
end
end PD

/-! PyG0: rows of whole numbers from 0 on; more rules by weakest preconditions. -/
namespace PD
open PySem PySem.Spec PyProof PyProof.Rows L2
def natL (r : List Nat) : List D := r.map fun n => D.int (n : Nat)
theorem natL_int (r : List Nat) : natL r = intL (r.map fun n : Nat => (n : Int)) := by simp [natL, intL]
theorem natL_len (r : List Nat) : (natL r).length = r.length := by simp [natL]
theorem intL_len (r : List Int) : (intL r).length = r.length := by simp [intL]
theorem natL_app (r q : List Nat) : natL r ++ natL q = natL (r ++ q) := by simp [natL]
theorem natL_snoc (r : List Nat) (n : Nat) : natL r ++ [D.int (n : Nat)] = natL (r ++ [n]) := by simp [natL]
theorem intL_snoc (r : List Int) (n : Int) : intL r ++ [D.int n] = intL (r ++ [n]) := by simp [intL]
theorem natL_get {r : List Nat} {i v : Nat} (h : r[i]? = some v) : (natL r)[i]? = some (.int (v : Nat)) := by simp [natL, h]
theorem intL_get {r : List Int} {i : Nat} {v : Int} (h : r[i]? = some v) : (intL r)[i]? = some (.int v) := by simp [intL, h]
theorem intL_set {r : List Int} {i : Nat} {v : Int} : (intL r).set i (.int v) = intL (r.set i v) := by simp [intL]
theorem natL_mem {r : List Nat} {i : Nat} : ((i : Int) ∈ r.map fun n : Nat => (n : Int)) = (i ∈ r) := by
  rw [eq_iff_iff, List.mem_map]
  exact ⟨fun ⟨a, h, e⟩ => by have : a = i := by omega
                             rw [← this]; exact h, fun h => ⟨i, h, rfl⟩⟩
theorem sort_nat (r : List Nat) : ∃ q : List Nat, q.Perm r ∧ q.Pairwise (· ≤ ·) ∧ sortI (r.map fun n : Nat => (n : Int)) = q.map fun n : Nat => (n : Int) := by
  have hp := sortI_perm (r.map fun n : Nat => (n : Int))
  have hw := sortI_pw (r.map fun n : Nat => (n : Int))
  refine ⟨(sortI (r.map fun n : Nat => (n : Int))).map Int.toNat, ?_, ?_, ?_⟩
  · have := hp.map Int.toNat
    rw [List.map_map] at this
    have e : (r.map (Int.toNat ∘ fun n : Nat => (n : Int))) = r := by
      conv => rhs; rw [← List.map_id r]
      exact List.map_congr_left fun a _ => by simp
    rw [e] at this
    exact this
  · exact List.pairwise_map.mpr (hw.imp fun h => by omega)
  · rw [List.map_map]
    have : ∀ x ∈ sortI (r.map fun n : Nat => (n : Int)), ((fun n : Nat => (n : Int)) ∘ Int.toNat) x = id x := fun x hx => by
      have h2 := hp.mem_iff.mp hx
      rw [List.mem_map] at h2
      obtain ⟨a, _, rfl⟩ := h2
      simp
    rw [List.map_congr_left this, List.map_id]
section
variable {Q : D → Prop} {S : Sto}
theorem g_inNT {i : Nat} {ns : List Nat} : gIn S (.int (i : Nat)) (.tup (natL ns)) = some (.bl (decide (i ∈ ns))) := by rw [natL_int, g_inIT]; simp only [natL_mem]
theorem g_ninNT {i : Nat} {ns : List Nat} : gNotIn S (.int (i : Nat)) (.tup (natL ns)) = some (.bl (!decide (i ∈ ns))) := by rw [natL_int, g_ninIT]; simp only [natL_mem]
theorem g_inNL {i : Nat} {ns : List Nat} : gIn S (.int (i : Nat)) (.lst (natL ns)) = some (.bl (decide (i ∈ ns))) := by rw [natL_int, g_inIL]; simp only [natL_mem]
theorem g_ninNL {i : Nat} {ns : List Nat} : gNotIn S (.int (i : Nat)) (.lst (natL ns)) = some (.bl (!decide (i ∈ ns))) := by rw [natL_int, g_ninIL]; simp only [natL_mem]
theorem inB2_loc {i : Int} {n : Nat} : inB2 S (.int i) (.loc n) = (match S[n]? with
    | some (.lst xs) => inB2 S (.int i) (.lst xs)
    | _ => none) := by
  unfold inB2
  simp only [seqF]
  cases S[n]? with
  | none => rfl
  | some o => cases o <;> rfl
theorem g_inLoc {i : Int} {n : Nat} : gIn S (.int i) (.loc n) = (match S[n]? with
    | some (.lst xs) => gIn S (.int i) (.lst xs)
    | _ => none) := by
  unfold gIn
  rw [inB2_loc]
  cases S[n]? with
  | none => rfl
  | some o => cases o <;> rfl
theorem g_ninLoc {i : Int} {n : Nat} : gNotIn S (.int i) (.loc n) = (match S[n]? with
    | some (.lst xs) => gNotIn S (.int i) (.lst xs)
    | _ => none) := by
  unfold gNotIn
  rw [inB2_loc]
  cases S[n]? with
  | none => rfl
  | some o => cases o <;> rfl
theorem p_inLoc {i : Int} {n : Nat} : OkP (gIn S (.int i) (.loc n)) Q = OkT S[n]? fun xs => OkP (gIn S (.int i) (.lst xs)) Q := by
  rw [g_inLoc]
  cases S[n]? with
  | none => rfl
  | some o => cases o <;> rfl
theorem p_ninLoc {i : Int} {n : Nat} : OkP (gNotIn S (.int i) (.loc n)) Q = OkT S[n]? fun xs => OkP (gNotIn S (.int i) (.lst xs)) Q := by
  rw [g_ninLoc]
  cases S[n]? with
  | none => rfl
  | some o => cases o <;> rfl
theorem p_sortedLoc {n : Nat} : OkP (gSorted S [.loc n]) Q = OkT S[n]? fun xs => OkP (gSorted S [.lst xs]) Q := by
  unfold gSorted
  simp only [seqF]
  cases S[n]? with
  | none => rfl
  | some o => cases o <;> rfl
theorem p_sortedN {r : List Nat} : OkP (gSorted S [.lst (natL r)]) Q = OkN (.lst (intL (sortI (r.map fun n : Nat => (n : Int))))) Q := by
  rw [natL_int, g_sortedL]; rfl
theorem deq_loc {n : Nat} {y : D} : gNe S (.loc n) (.lst []) = (match S[n]? with
    | some (.lst xs) => gNe S (.lst xs) (.lst [])
    | _ => none) := by
  unfold gNe eqB deepEq toPS
  simp only [seqF]
  cases S[n]? with
  | none => rfl
  | some o => cases o <;> rfl
theorem g_neNil {ns : List Int} : gNe S (.lst (intL ns)) (.lst []) = some (.bl (decide (ns ≠ []))) := by
  rw [gNe_teq (by simp [flat, okd, okds_int]) (by simp [flat, okd, okds])]
  simp only [flat, teq, teqs_nil]
  cases ns <;> simp [intL]
theorem g_neNilN {ns : List Nat} : gNe S (.lst (natL ns)) (.lst []) = some (.bl (decide (ns ≠ []))) := by
  rw [natL_int, g_neNil]; cases ns <;> simp
theorem p_neNilLoc {n : Nat} : OkP (gNe S (.loc n) (.lst [])) Q = OkT S[n]? fun xs => OkP (gNe S (.lst xs) (.lst [])) Q := by
  rw [deq_loc (y := .non)]
  cases S[n]? with
  | none => rfl
  | some o => cases o <;> rfl
theorem g_neNilNT {ns : List Nat} : gNe S (.tup (natL ns)) (.tup []) = some (.bl (decide (ns ≠ []))) := by
  rw [natL_int, g_neNilT]; cases ns <;> simp
theorem p_ixLoc {n : Nat} {i : Int} : OkP (gIx S (.loc n) (.int i)) Q = OkT S[n]? fun xs => OkP (atD xs i) Q := by
  rw [g_ixLoc]
  cases S[n]? with
  | none => rfl
  | some o => cases o <;> rfl
theorem p_lenLoc {n : Nat} : OkP (gLen S [.loc n]) Q = OkT S[n]? fun xs => OkN (.int xs.length) Q := by
  rw [g_lenLoc']
  cases S[n]? with
  | none => rfl
  | some o => cases o <;> rfl
end
section
variable {Q : D → Sto → Prop} {QI : ItD → Sto → Prop} {N B C : EC} {R : D → Sto → Prop} {X : Exn → Sto → Prop} {XE : Exn → EC} {E : Evn} {S : Sto} {ma : MA}
theorem w_enumC' {n : Nat} {Q : ItD → Prop} : OkEnum S [.loc n] Q = OkT S[n]? fun xs => OkN ⟨enumD xs, some (n, xs)⟩ Q := by
  unfold OkEnum
  simp only
  cases S[n]? with
  | none => rfl
  | some o => cases o <;> rfl
def rowA (S : Sto) (ds : List D) : Option (List D) := match ds with
  | [d] => rowF S d
  | _ => none
theorem rowA_1 {d : D} : rowA S [d] = rowF S d := rfl
theorem w_listL' : OkO (mListL ma E S) Q X = OkO (ma E S) (fun ds S1 => OkP (rowA S1 ds) fun xs => Q (.loc S1.length) (S1 ++ [.lst xs])) X := by
  unfold mListL
  refine w_bind.trans (OkO_fun fun ds S1 => ?_)
  cases ds with
  | nil => rfl
  | cons d r => cases r with
    | nil =>
      rw [rowA_1]
      simp only
      generalize rowF S1 d = o
      cases o <;> rfl
    | cons e r => rfl
theorem p_rowLoc {n : Nat} {Q : List D → Prop} : OkP (rowF S (.loc n)) Q = OkT S[n]? Q := by
  unfold rowF
  simp only [seqF]
  cases S[n]? with
  | none => rfl
  | some o => cases o <;> rfl
theorem w_augI {o i e : ME} {g : Sto → D → D → Option D} : OkS (mAugI o i g e E S) N R XE B C = OkO (o E S) (fun x S1 => OkO (i E S1) (fun k S2 => OkLoc x fun n => OkInt k fun k => OkT S2[n]? fun l => (0 ≤ k ∧ OkP l[k.toNat]? fun old => OkO (e E S2) (fun y S3 => OkP (g S3 old y) fun z => OkT S3[n]? fun l3 => (k.toNat < l3.length ∧ OkN (S3.set n (.lst (l3.set k.toNat z))) fun S4 => N E S4)) (fun e S' => XE e E S'))) (fun e S' => XE e E S')) (fun e S' => XE e E S') := by
  unfold mAugI
  refine w_toS.trans (OkO_fun fun x S1 => w_toS.trans (OkO_fun fun k S2 => ?_))
  cases x <;> first | rfl | skip
  cases k <;> first | rfl | skip
  rename_i n k
  simp only [OkLoc, OkInt]
  cases S2[n]? with
  | none => rfl
  | some ob =>
    cases ob <;> first | rfl | skip
    rename_i l
    simp only [OkT]
    by_cases h0 : 0 ≤ k
    · rw [if_pos h0]
      simp only [h0, true_and]
      cases l[k.toNat]? with
      | none => rfl
      | some old =>
        simp only [OkP]
        refine w_toS.trans (OkO_fun fun y S3 => ?_)
        cases g S3 old y with
        | none => rfl
        | some z =>
          simp only
          cases S3[n]? with
          | none => rfl
          | some ob3 =>
            cases ob3 <;> first | rfl | skip
            rename_i l3
            simp only
            by_cases h1 : k.toNat < l3.length
            · rw [if_pos h1]; simp only [h1, true_and]; rfl
            · rw [if_neg h1]; simp only [h1, false_and]; rfl
    · rw [if_neg h0]; simp only [h0, false_and]; rfl
theorem take_snoc {α : Type} {l : List α} {i : Nat} {x : α} (h : l[i]? = some x) : l.take (i + 1) = l.take i ++ [x] := by
  rw [List.take_succ, h]; rfl
/-- elements that leave the store alone, the list itself will change -/
theorem ok_compP {α : Type} {c : Option (Nat × List D)} {one : Bool} {is : List Nat} {t : MT} {e : ME} {E0 : Evn} {S1 : Sto} {QU : Unit → Sto → Prop} {xs : List α} {g : α → D} (p : α → Bool) (f : α → D) (hz : xs.length < 16777216) (hc : ∀ acc, chkOk c (S1 ++ [.lst acc]))
    (h : ∀ x ∈ xs, ∀ acc, OkP (stN one is (g x) E0) fun E1 => OkO (t E1 (S1 ++ [.lst acc])) (fun b S' => S' = S1 ++ [.lst acc] ∧ b = p x ∧ (b = true → OkO (e E1 (S1 ++ [.lst acc])) (fun y S' => S' = S1 ++ [.lst acc] ∧ y = f x) (fun _ _ => False))) (fun _ _ => False))
    (q : QU () (S1 ++ [.lst ((xs.filter p).map f)])) : OkO (compX c one is t e E0 S1.length (xs.map g) (S1 ++ [.lst []])) QU X := by
  refine ok_compX (fun i S' => S' = S1 ++ [.lst (((xs.take i).filter p).map f)]) _ 0 _ (by simp) (fun i S hS => by rw [hS]; exact hc _) ?_ ?_
  · rintro i x _ hi rfl
    rw [List.getElem?_map, Option.map_eq_some_iff] at hi
    obtain ⟨a, ha, rfl⟩ := hi
    rw [Nat.zero_add]
    generalize hA : ((xs.take i).filter p).map f = acc
    have hl : acc.length < 16777216 := by
      rw [← hA, List.length_map]
      have h1 := List.length_filter_le p (xs.take i)
      have h2 := List.length_take_le i xs
      have h3 := (List.getElem?_eq_some_iff.mp ha).1
      rw [List.length_take] at h1
      omega
    have h1 := h a (List.mem_of_getElem? ha) acc
    cases q1 : stN one is (g a) E0 with
    | none => rw [q1] at h1; exact h1.elim
    | some E1 =>
      rw [q1, w_some] at h1
      rw [w_some]
      cases q2 : t E1 (S1 ++ [.lst acc]) with
      | bad => rw [q2] at h1; exact h1.elim
      | ex _ _ => rw [q2] at h1; exact h1.elim
      | ok b S2 =>
        rw [q2, w_ok] at h1
        rw [w_ok]
        obtain ⟨rfl, hb, h2⟩ := h1
        refine ⟨fun hb2 => ?_, fun hb2 => ?_⟩
        · rw [take_snoc ha, List.filter_append, List.filter_cons_of_neg (by rw [← hb, hb2]; simp), List.filter_nil, List.append_nil, hA]
        · have h3 := h2 hb2
          cases q3 : e E1 (S1 ++ [.lst acc]) with
          | bad => rw [q3] at h3; exact h3.elim
          | ex _ _ => rw [q3] at h3; exact h3.elim
          | ok y S3 =>
            rw [q3, w_ok] at h3
            rw [w_ok]
            obtain ⟨rfl, rfl⟩ := h3
            refine ⟨acc, by rw [sto_at0]; rfl, hl, ?_⟩
            rw [sto_put0, take_snoc ha, List.filter_append, List.filter_cons_of_pos (by rw [← hb, hb2]), List.filter_nil, List.map_append, hA]
            rfl
  · rintro _ rfl
    rw [Nat.zero_add, List.length_map, List.take_length]
    exact q
end
end PD

/-! PyG1: dict comprehensions; sorted keys of a dict of any length. -/
namespace PD
open PySem PySem.Spec PyProof PyProof.Rows L2
/-! ### {k: v for ..}, the dict stands at n0 -/
open Classical in
noncomputable def compV (c : Option (Nat × List D)) (one : Bool) (is : List Nat) (t : MT) (ek ev : ME) (E0 : Evn) (n0 : Nat) : List D → Sto → Out Unit
  | [], S => if chkOk c S then .ok () S else .bad
  | x :: r, S => if chkOk c S then (match stN one is x E0 with
      | some E1 => (match t E1 S with
        | .ok b S1 => if b = true then (match ek E1 S1 with
            | .ok y S2 => (match ev E1 S2 with
              | .ok d S3 => (match S3[n0]?, keyD y with
                | some (.dic kvs), some k => if sizeOk (kvs.length + 1) then compV c one is t ek ev E0 n0 r (S3.set n0 (.dic (putD kvs k d))) else .bad
                | _, _ => .bad)
              | _ => .bad)
            | _ => .bad) else compV c one is t ek ev E0 n0 r S1
        | _ => .bad)
      | none => .bad) else .bad
noncomputable def mDc (it : MI) (one : Bool) (is vs : List Nat) (t : MT) (ek ev : ME) : ME := fun E S => (it E S).bind fun i S1 => (compV i.chk one is t ek ev (wipeE E vs) S1.length i.items (S1 ++ [.dic []])).bind fun _ S2 => .ok (.loc S1.length) S2
section
variable {X : Cx} {W : WW X.K} {pos : Pos}
theorem dc_read {mi : MI} {own : List (Str × Nat)} {one : Bool} {is : List Nat} {mt : MT} {mk mv : ME} (hw : W.fix = none) (hv : ∀ i ∈ is, i ∈ own.map (·.2)) : ∀ σ H Q ρ S E, Rel X.K ρ S H → ER X.K W ρ H E σ → Post X.K (DV X.K) ρ H Q (fun c dx H' => W.w c dx σ H') (mDc mi one is (own.map (·.2)) mt mk mv E S) →
    tDc (tI X.K W mi) (gN1 X.K one is) (tT X.K (W0 X.K) mt) (tE X.K (W0 X.K) mk) (tE X.K (W0 X.K) mv) (own.map (·.2)) σ H Q := by
  intro σ H Q ρ S E r er p
  refine ⟨ρ, S, E, r, er, (Post.bind (R := Walks X.K) p).imp fun J H1 ⟨ρ1, S1, i, r1, e1, w1, p1⟩ => ?_⟩
  intro D hD
  have er1 := (er.mono e1).wipe hw (own.map (·.2))
  have er0 : ER X.K (W0 X.K) ρ1 H1 (wipeE E (own.map (·.2))) (L2.wipe σ (own.map (·.2))) := er1.wish trivial fun i a z => by cases z
  generalize wipeE E (own.map (·.2)) = E0 at p1 er0
  have hD0 : (ρ1 ++ [D])[S1.length]? = some D := by rw [← r1.len, List.getElem?_append_right (Nat.le_refl _), Nat.sub_self]; rfl
  refine ⟨fun n m H2 => m = i.items.length - n ∧ n ≤ i.items.length ∧ ∃ ρ2 S2, Rel X.K ρ2 S2 H2 ∧ Ext X.K ρ1 H1 ρ2 H2 ∧ ρ2[S1.length]? = some D ∧
    Post X.K (DV X.K) ρ1 H1 Q (fun c dx H' => W.w c dx σ H') ((compV i.chk one is mt mk mv E0 S1.length (i.items.drop n) S2).bind fun _ S' => .ok (.loc S1.length) S'),
    ⟨_, rfl, Nat.zero_le _, ρ1 ++ [D], S1 ++ [.dic []], r1.alloc (u := .dic []) hD ⟨[], upd_same, rfl⟩, Ext.alloc hD, hD0, by simpa using p1⟩, ?_⟩
  rintro n m H2 ⟨rfl, hnl, ρ2, S2, r2, e2, hD2, p2⟩
  have hck : chkOk i.chk S2 := Classical.byContradiction fun z => by
    cases q : i.items.drop n with
    | nil => rw [q, compV, if_neg z] at p2; exact p2
    | cons x rr => rw [q, compV, if_neg z] at p2; exact p2
  obtain ⟨w2, w3⟩ := w1 ρ2 S2 H2 r2 e2 hck
  by_cases hlt : n < i.items.length
  · right
    have hd : i.items[n]? = some i.items[n] := List.getElem?_eq_getElem hlt
    obtain ⟨go, yl⟩ := w2 n _ hd
    refine ⟨go, fun H' => n + 1 ≤ i.items.length ∧ ∃ ρ2 S2, Rel X.K ρ2 S2 H' ∧ Ext X.K ρ1 H1 ρ2 H' ∧ ρ2[S1.length]? = some D ∧
      Post X.K (DV X.K) ρ1 H1 Q (fun c dx H' => W.w c dx σ H') ((compV i.chk one is mt mk mv E0 S1.length (i.items.drop (n + 1)) S2).bind fun _ S' => .ok (.loc S1.length) S'),
      fun H' ⟨h1, h2⟩ => ⟨i.items.length - (n + 1), by omega, rfl, h1, h2⟩, fun x H3 hy => ?_⟩
    obtain ⟨r3, e3, d3⟩ := yl x H3 hy
    rw [drop_cons_of hd, compV, if_pos hck] at p2
    cases q : stN one is i.items[n] E0 with
    | none => rw [q] at p2; exact p2.elim
    | some E1 =>
      rw [q] at p2
      simp only at p2
      have er3 : ER X.K (W0 X.K) ρ2 H3 E0 (L2.wipe σ (own.map (·.2))) := er0.mono (e2.trans e3)
      refine stN_ok (S := S1) rfl er3 d3 hv q fun σ2 er4 hw2 => ⟨hw2.trans (wipe_wipe _ fun _ h => h), ?_⟩
      refine ⟨ρ2, S2, E1, r3, er4, ?_⟩
      cases q1 : mt E1 S2 with
      | bad => rw [q1] at p2; exact p2.elim
      | ex e S5 => rw [q1] at p2; exact p2.elim
      | ok b S5 =>
        rw [q1] at p2
        simp only at p2
        intro ρ5 H5 v r5 e5 hv5
        subst hv5
        obtain ⟨t5, h5⟩ := e5.pre
        have hD5 := pre_at h5 hD2
        cases b with
        | false =>
          rw [if_neg (by simp)] at p2 ⊢
          exact ⟨hlt, ρ5, S5, r5, (e2.trans e3).trans e5, hD5, p2⟩
        | true =>
          rw [if_pos rfl] at p2 ⊢
          refine ⟨ρ5, S5, E1, r5, er4.mono e5, ?_⟩
          cases q2 : mk E1 S5 with
          | bad => rw [q2] at p2; exact p2.elim
          | ex e S6 => rw [q2] at p2; exact p2.elim
          | ok y S6 =>
            rw [q2] at p2
            simp only at p2
            intro ρ6 H6 w r6 e6 d6
            obtain ⟨t6, h6⟩ := e6.pre
            have hD6 := pre_at h6 hD5
            refine ⟨ρ6, S6, E1, r6, (er4.mono e5).mono e6, ?_⟩
            cases q3 : mv E1 S6 with
            | bad => rw [q3] at p2; exact p2.elim
            | ex e S7 => rw [q3] at p2; exact p2.elim
            | ok z S7 =>
              rw [q3] at p2
              simp only at p2
              intro ρ7 H7 u r7 e7 d7
              obtain ⟨t7, h7⟩ := e7.pre
              have hD7 := pre_at h7 hD6
              split at p2
              · rename_i kvs k hk1 hk2
                by_cases hs : sizeOk (kvs.length + 1)
                · rw [if_pos hs] at p2
                  obtain ⟨us, g1, g2⟩ : ∃ us : List (Key × V), H7 D = some (.dK us) ∧ KVR X.K ρ7 H7 kvs us := r7.at_ _ _ _ hk1 hD7
                  have ex := Ext.writeD (K := X.K) (o := .dK (putK us k u)) (List.mem_of_getElem? hD7) g1
                  refine ⟨us, k, keyD_V hk2 d6, g1, by rw [← g2.length]; exact hs, hlt, ρ7, _, r7.writeD hD7 hk1 g1 (g2.put d7), ?_, hD7, p2⟩
                  exact ((((e2.trans e3).trans e5).trans e6).trans e7).trans ex
                · rw [if_neg hs] at p2; exact p2.elim
              · exact p2.elim
  · left
    have hn2 : n = i.items.length := by omega
    subst hn2
    rw [List.drop_length, compV, if_pos hck, bind_ok] at p2
    refine ⟨w3, p2 ρ2 H2 (.ref D) r2 e2 ?_⟩
    simp only [DV]
    exact ⟨D, rfl, hD2⟩
theorem ed_dc {ek ev tg iter : Expr} {ifs : List Expr} {scope : Scope} {own : List (Str × Nat)} {mi : MI} {one : Bool} {is : List Nat} {mt : MT} {mk mv : ME} (hc : X.calm = true) (hN : X.N.Nodup) (hi : ID X W tg iter mi) (ok : BlkOk X.N X.env.scope scope own) (hw : W.fix = none)
    (hv : ∀ i ∈ is, i ∈ own.map (·.2))
    (hg : ∀ (s : Shared) (H : Hp) (C : Addr) (cl : List (Str × Addr)) (fp : List Addr), PG (X.blk s H scope (compEnvC scope cl C X.env) fp) tg (gN1 X.K one is))
    (ht : ∀ (s : Shared) (H : Hp) (C : Addr) (cl : List (Str × Addr)) (fp : List Addr), PD' (X.blk s H scope (compEnvC scope cl C X.env) fp) ifs mt)
    (hk : ∀ (s : Shared) (H : Hp) (C : Addr) (cl : List (Str × Addr)) (fp : List Addr), ED (X.blk s H scope (compEnvC scope cl C X.env) fp) (W0 X.K) ek mk)
    (he : ∀ (s : Shared) (H : Hp) (C : Addr) (cl : List (Str × Addr)) (fp : List Addr), ED (X.blk s H scope (compEnvC scope cl C X.env) fp) (W0 X.K) ev mv) (hs : ∀ x, foldedSetIterable iter X.env x = pure x := by intro _; rfl) :
    ED X W (.DictComp ek ev [⟨tg, iter, ifs, 0⟩] scope pos) (mDc mi one is (own.map (·.2)) mt mk mv) :=
  ed_of (pe_dc (tt := tT X.K (W0 X.K) mt) (tk := tE X.K (W0 X.K) mk) (tv := tE X.K (W0 X.K) mv) hc hN hi ok hg ht hk he hs) (dc_read hw hv)
/-! ### sorted keys -/
def keysI : List (Key × D) → Option (List Int)
  | [] => some []
  | (.inl i, _) :: r => (keysI r).map (i :: ·)
  | _ :: _ => none
theorem keysI_ok {K : PySem.W.Frag} {ρ : List Addr} {H : Hp} : ∀ {kvs : List (Key × D)} {us : List (Key × V)} {ns : List Int}, keysI kvs = some ns → KVR K ρ H kvs us → us.map (·.1) = ns.map Sum.inl
  | [], us, ns, h, g => by cases g; simp only [keysI] at h; cases h; rfl
  | (k, d) :: r, us, ns, h, ⟨v, t, e, h1, h2⟩ => by
    subst e
    cases k with
    | inl i =>
      simp only [keysI] at h
      rw [Option.map_eq_some_iff] at h
      obtain ⟨ms, h3, rfl⟩ := h
      simp only [List.map_cons]
      rw [keysI_ok h3 h2]
    | inr x => simp only [keysI] at h; cases h
def rSortedK : List V → Hp → VK → Prop := fun xs H Q => ∃ (a : Addr) (kvs : List (Key × V)) (ks : List Int), xs = [.ref a] ∧ H a = some (.dK kvs) ∧ kvs.map (·.1) = ks.map Sum.inl ∧
    ∀ (ys : List Int) (p : Addr), ys.Perm ks → ys.Pairwise (· ≤ ·) → H p = none → Q (.ref p) (upd H p (.lst (ys.map V.int)))
theorem cr_sortedK (calm : X.calm = true) : CallR X (.builtin "sorted") rSortedK := by
  intro pins s σ H xs us Q I rr h
  obtain ⟨a, kvs, ks, rfl, ha, hks, q⟩ := h
  obtain ⟨u, rfl, rx⟩ := vals1 rr; cases rx
  obtain ⟨zz, lo, vs, rel, dd⟩ := dk_of I.hok ha
  obtain ⟨ep, hat⟩ := dd.dictAt
  have hkv : vs.map (·.1) = ks.map Sum.inl := by rw [← hks, rel.keys]
  have hlv : vs.length = ks.length := by simpa using congrArg List.length hkv
  have hvz : vs.length ≤ sizeLine := by rw [← rel.length]; exact zz
  refine Calls.call_function_entry kind_sorted plain_sorted entry_sorted (args_sorted1 _) ?_; unfold Builtin.«sorted»
  refine wpAny_bind (m := checkCount "sorted" 1 1 _) (wpAny_pure (wpAny_bind (PySem.W.kdu_collect (A := X.A.in1) (PySem.W.kdl_dict (knd := mixKind X.prog X.w) (kvs := vs) (ep := ep) lo) (I.ok.hd calm) hat hvz fun g tk acc hkeep hacc => ?_)))
  have hal : acc.toList.length = ks.length := by rw [Array.length_toList, hacc.1, hlv]
  have hI : IntsAre acc.toList ks := ints_each hal fun j v ej => by
    obtain ⟨k, y, e1, e2⟩ := hacc.2 j v (by rw [← Array.getElem?_toList]; exact ej)
    have e3 : (ks.map (Sum.inl : Int → Key))[j]? = some k := by rw [← hkv, List.getElem?_map, e1]; rfl
    rw [List.getElem?_map, Option.map_eq_some_iff] at e3; obtain ⟨m, e4, rfl⟩ := e3
    rcases keyIs_shape (show keyIs (Sum.inl m) v = true from e2) with ⟨i, t, ek, ev⟩ | ⟨x, t, ek, ev⟩
    · cases ek; exact ⟨m, t, e4, ev⟩
    · cases ek
  have I1 : Inv X pins σ H { s with heap := g, toks := tk } := I.kept hkeep
  have haz : acc.toList.length ≤ sizeLine := by rw [hal, ← hlv]; exact hvz
  refine wpAny_bind (wpAny_newList ?_ haz); have hoL : (g.push (seqObj "list" acc.toList.toArray 0)).get? g.objs.size = some (seqObj "list" acc.toList.toArray 0) := Heap.get?_push_size _ rfl
  show wpAny _ _ _ _ _ { s with heap := g.push (seqObj "list" acc.toList.toArray 0), toks := tk }
  refine wpAny_bind (wpAny_holding (wpAny_call_entry slot_list_sort ⟨_, hoL, rfl⟩ entry_list_sort (SrtO.list_sort_ord (s := { s with heap := g.push (seqObj "list" acc.toList.toArray 0), toks := tk }) SrtO.swo_int hoL haz (fun h2 => SrtO.ints_sortable hI h2) fun out hs hb => ⟨_, rfl, ?_⟩) (args_list_sort _)))
  obtain ⟨k1, k2, k3⟩ := SrtO.ints_out hI hs hb
  obtain ⟨e', he'⟩ := sortedHeap_at (vs := acc.toList) (out := out.toArray) hoL
  have hlen : ((out.map SrtO.iv).map V.int).length ≤ sizeLine := by rw [List.length_map, k2.length_eq, ← hal]; exact haz
  refine wpAny_pure ⟨_, rfl, .ref g.objs.size, upd H g.objs.size (.lst ((out.map SrtO.iv).map V.int)), I1.laid (t' := tk) (fun b u e => ?_) (Nat.le_refl _) (show ObjOk X.prog X.w _ _ _ (.lst ((out.map SrtO.iv).map V.int)) from ⟨hlen, out, e', vals_of_ints k1, he'⟩), rfl, q _ _ k2 k3 (I1.hok.fresh (Nat.le_refl _))⟩
  have hb : b < g.objs.size := Heap.lt_size e
  rw [sortedHeap_old (Nat.ne_of_lt hb) (by rw [size_push']; exact Nat.lt_succ_of_lt hb)]; exact Heap.get?_push_of_some _ e
def gSortedA (S : Sto) (ds : List D) : Option D := match ds with
  | [d] => (match dicAt S d with
    | some kvs => (keysI kvs).map fun ns => .lst (intL (sortI ns))
    | none => gSorted S [d])
  | _ => none
def rSortedA (K : PySem.W.Frag) : List V → Hp → VK → Prop := fun vs H Q => rSortedK vs H Q ∨ rSortedI K vs H Q
theorem rp_sortedA : ∀ vs H Q, rPB X.K gSortedA vs H Q → rSortedA X.K vs H Q := by
  rintro vs H Q ⟨ρ, S, ds, d, r, dv, hg, q⟩
  unfold gSortedA at hg
  split at hg
  · rename_i x
    split at hg
    · rename_i kvs hk
      rw [Option.map_eq_some_iff] at hg
      obtain ⟨ns, hn, rfl⟩ := hg
      obtain ⟨u, rfl, h1⟩ := dvs1 dv
      obtain ⟨n, a, us, rfl, h2, h3, rfl, h4, h5⟩ := dicAt_ok r h1 hk
      refine .inl ⟨a, us, ns, rfl, h4, keysI_ok hn h5, fun ys p hp hpw hf => ?_⟩
      have := sorted_uniq (hp.trans (sortI_perm ns).symm) hpw (sortI_pw ns)
      subst this
      exact post_lst r hf (dvs_ints _) q
    · exact .inr (rp_sorted _ _ _ ⟨ρ, S, _, d, r, dv, hg, q⟩)
  · cases hg
end
section
variable {Q : D → Sto → Prop} {X : Exn → Sto → Prop} {E : Evn} {S : Sto}
theorem w_dc {it : MI} {one : Bool} {is vs : List Nat} {t : MT} {ek ev : ME} : OkO (mDc it one is vs t ek ev E S) Q X = OkO (it E S) (fun i S1 => OkO (compV i.chk one is t ek ev (wipeE E vs) S1.length i.items (S1 ++ [.dic []])) (fun _ S2 => Q (.loc S1.length) S2) X) X := by
  unfold mDc
  refine w_bind.trans (OkO_fun fun i S1 => w_bind.trans (OkO_fun fun _ S2 => rfl))
theorem ok_compV {c : Option (Nat × List D)} {one : Bool} {is : List Nat} {t : MT} {ek ev : ME} {E0 : Evn} {n0 : Nat} {QU : Unit → Sto → Prop} (P : Nat → Sto → Prop) :
    ∀ (l : List D) (n : Nat) (S : Sto), P n S → (∀ i S, P i S → chkOk c S) →
    (∀ i x S, l[i]? = some x → P (n + i) S → OkP (stN one is x E0) fun E1 => OkO (t E1 S) (fun b S1 => (b = false → P (n + i + 1) S1) ∧ (b = true → OkO (ek E1 S1) (fun y S2 => OkO (ev E1 S2) (fun d S3 => ∃ kvs k, S3[n0]? = some (.dic kvs) ∧ keyD y = some k ∧ kvs.length < 16777216 ∧ P (n + i + 1) (S3.set n0 (.dic (putD kvs k d)))) (fun _ _ => False)) (fun _ _ => False))) (fun _ _ => False)) →
    (∀ S, P (n + l.length) S → QU () S) → OkO (compV c one is t ek ev E0 n0 l S) QU X
  | [], n, S, h0, hc, hs, he => by
    rw [compV, if_pos (hc _ _ h0)]
    exact he S (by simpa using h0)
  | x :: l, n, S, h0, hc, hs, he => by
    rw [compV, if_pos (hc _ _ h0)]
    have h1 := hs 0 x S rfl (by simpa using h0)
    cases q : stN one is x E0 with
    | none => rw [q] at h1; exact h1.elim
    | some E1 =>
      rw [q, w_some] at h1
      simp only
      cases q1 : t E1 S with
      | bad => rw [q1] at h1; exact h1.elim
      | ex _ _ => rw [q1] at h1; exact h1.elim
      | ok b S1 =>
        rw [q1, w_ok] at h1
        obtain ⟨h2, h3⟩ := h1
        have again : ∀ S, P (n + 1) S → OkO (compV c one is t ek ev E0 n0 l S) QU X := fun S hS => ok_compV P l (n + 1) S hS hc (fun i y S hy hp => by
          have := hs (i + 1) y S (by simpa using hy) (by rw [show n + (i + 1) = n + 1 + i by omega]; exact hp)
          rw [show n + (i + 1) + 1 = n + 1 + i + 1 by omega] at this
          exact this) (fun S hp => he S (by rw [List.length_cons, show n + (l.length + 1) = n + 1 + l.length by omega]; exact hp))
        simp only
        cases b with
        | false =>
          rw [if_neg (by simp)]
          exact again S1 (h2 rfl)
        | true =>
          rw [if_pos rfl]
          have h4 := h3 rfl
          cases q2 : ek E1 S1 with
          | bad => rw [q2] at h4; exact h4.elim
          | ex _ _ => rw [q2] at h4; exact h4.elim
          | ok y S2 =>
            rw [q2, w_ok] at h4
            simp only
            cases q3 : ev E1 S2 with
            | bad => rw [q3] at h4; exact h4.elim
            | ex _ _ => rw [q3] at h4; exact h4.elim
            | ok d S3 =>
              rw [q3, w_ok] at h4
              obtain ⟨kvs, k, g1, g2, g3, g4⟩ := h4
              simp only [g1, g2]
              rw [if_pos (sizeOk_of (by omega))]
              exact again _ g4
theorem p_sortA {n : Nat} {Q : D → Prop} : OkP (gSortedA S [.loc n]) Q = (match S[n]? with
    | some (.dic kvs) => OkP ((keysI kvs).map fun ns => D.lst (intL (sortI ns))) Q
    | some (.lst xs) => OkP (gSorted S [.lst xs]) Q
    | _ => False) := by
  unfold gSortedA gSorted
  simp only [dicAt, seqF]
  cases S[n]? with
  | none => rfl
  | some o => cases o <;> rfl
theorem g_sortAL {xs : List D} : gSortedA S [.lst xs] = gSorted S [.lst xs] := rfl
theorem p_extL {l ys : List D} {Q : D × List D → Prop} : OkP (gExtend S l [.lst ys]) Q = (sizeOk (l.length + ys.length) ∧ OkN (.non, l ++ ys) Q) := by
  simp only [gExtend, seqL, w_pitebad, w_some, w_n]
end
end PD

/-! PyG2: more weakest preconditions. -/
namespace PD
open PySem PySem.Spec PyProof PyProof.Rows L2
section
variable {Q : D → Prop} {S : Sto}
theorem p_slLoc {n : Nat} {lo hi : Option Int} : OkP (gSl S (.loc n) lo hi) Q = OkT S[n]? fun xs => OkN (.lst (cutL xs lo hi)) Q := by
  show OkP ((seqF S (.loc n)).map _) Q = _
  unfold seqF
  simp only
  cases h : S[n]? with
  | none => rfl
  | some o => cases o <;> rfl
theorem p_addLocL {n : Nat} {ys : List D} : OkP (gAdd S (.loc n) (.lst ys)) Q = OkT S[n]? fun xs => OkP (gAdd S (.lst xs) (.lst ys)) Q := by
  show OkP (match seqL S (.loc n), seqL S (.lst ys) with
    | some a, some b => catL a b
    | _, _ => none) Q = OkT S[n]? fun xs => OkP (match seqL S (.lst xs), seqL S (.lst ys) with
    | some a, some b => catL a b
    | _, _ => none) Q
  unfold seqL
  simp only
  cases h : S[n]? with
  | none => rfl
  | some o => cases o <;> rfl
theorem p_addLLoc {n : Nat} {ys : List D} : OkP (gAdd S (.lst ys) (.loc n)) Q = OkT S[n]? fun xs => OkP (gAdd S (.lst ys) (.lst xs)) Q := by
  show OkP (match seqL S (.lst ys), seqL S (.loc n) with
    | some a, some b => catL a b
    | _, _ => none) Q = OkT S[n]? fun xs => OkP (match seqL S (.lst ys), seqL S (.lst xs) with
    | some a, some b => catL a b
    | _, _ => none) Q
  unfold seqL
  simp only
  cases h : S[n]? with
  | none => rfl
  | some o => cases o <;> rfl
theorem p_addLocs {n m : Nat} : OkP (gAdd S (.loc n) (.loc m)) Q = OkT S[n]? fun xs => OkT S[m]? fun ys => OkP (gAdd S (.lst xs) (.lst ys)) Q := by
  show OkP (match seqL S (.loc n), seqL S (.loc m) with
    | some a, some b => catL a b
    | _, _ => none) Q = OkT S[n]? fun xs => OkT S[m]? fun ys => OkP (match seqL S (.lst xs), seqL S (.lst ys) with
    | some a, some b => catL a b
    | _, _ => none) Q
  unfold seqL
  simp only
  cases h : S[n]? with
  | none => rfl
  | some o =>
    cases o <;> first | rfl | skip
    cases h : S[m]? with
    | none => rfl
    | some o => cases o <;> rfl
end
/-- the locals, some of them untold -/
theorem exE {L : Evn} {f : (Nat → Option D) → Evn} (h : L = f fun i => (L[i]?).getD none) : ∃ u, L = f u := ⟨_, h⟩
end PD

/-! PyG3: classes of the program: fields by places, methods, properties, instances made. -/
namespace PD
open PySem PySem.Spec PyProof PyProof.Rows L2
/-- a class whose instances have the fields N, stored in this order -/
structure ClsF (K : PySem.W.Frag) (c : Str) (N : List Str) : Prop where
  cl : Cls K (He.ga K c)
  no : ∀ f ∈ N, NoAttr K (He.ga K c) f
  nd : N.Nodup
  few : N.length < 1000
theorem zip_lookup : ∀ {N : List Str} {vs : List V} {i : Nat} {f : Str}, N.Nodup → N[i]? = some f → (N.zip vs).lookup f = vs[i]?
  | [], _, _, _, _, h => by simp at h
  | g :: N, [], i, f, _, _ => by simp
  | g :: N, v :: vs, 0, f, hn, h => by
    simp at h
    subst h
    simp [List.lookup]
  | g :: N, v :: vs, i + 1, f, hn, h => by
    rw [List.nodup_cons] at hn
    have h2 : N[i]? = some f := by simpa using h
    have hne : (f == g) = false := by
      rw [beq_eq_false_iff_ne]
      rintro rfl
      exact hn.1 (List.mem_of_getElem? h2)
    simp only [List.zip_cons_cons, List.lookup, hne]
    rw [zip_lookup hn.2 h2]
    simp
theorem zip_none : ∀ {N : List Str} {vs : List V} {f : Str}, f ∉ N → (N.zip vs).lookup f = none
  | [], _, _, _ => by simp
  | g :: N, [], f, _ => by simp
  | g :: N, v :: vs, f, h => by
    have hne : (f == g) = false := by
      rw [beq_eq_false_iff_ne]
      rintro rfl
      exact h (by simp)
    simp only [List.zip_cons_cons, List.lookup, hne]
    exact zip_none fun z => h (by simp [z])
/-- a field set: one that stands, or the next one -/
def setI : Nat → D → List D → Option (List D)
  | 0, y, [] => some [y]
  | 0, y, _ :: r => some (y :: r)
  | _ + 1, _, [] => none
  | i + 1, y, a :: r => (setI i y r).map (a :: ·)
theorem putF_zip {K : PySem.W.Frag} {ρ : List Addr} {H : Hp} {y : D} {u : V} (q : DV K ρ H y u) : ∀ {i : Nat} {N : List Str} {ds es : List D} {vs : List V} {f : Str}, N.Nodup → N[i]? = some f → DVs K ρ H ds vs → setI i y ds = some es →
    ∃ us, putF f u (N.zip vs) = N.zip us ∧ DVs K ρ H es us
  | _, [], _, _, _, _, _, h, _, _ => by simp at h
  | 0, g :: N, [], es, vs, f, hn, h, dv, he => by
    simp at h
    subst h
    simp only [DVs] at dv
    subst dv
    simp [setI] at he
    subst he
    exact ⟨[u], by simp [putF], DVs.one q⟩
  | 0, g :: N, a :: r, es, vs, f, hn, h, dv, he => by
    simp at h
    subst h
    simp only [DVs] at dv
    obtain ⟨v, t, rfl, h1, h2⟩ := dv
    simp [setI] at he
    subst he
    refine ⟨u :: t, by simp [putF], ?_⟩
    simp only [DVs]
    exact ⟨u, t, rfl, q, h2⟩
  | i + 1, g :: N, [], es, vs, f, hn, h, dv, he => by simp [setI] at he
  | i + 1, g :: N, a :: r, es, vs, f, hn, h, dv, he => by
    rw [List.nodup_cons] at hn
    have h2 : N[i]? = some f := by simpa using h
    have hne : ¬ g = f := by
      rintro rfl
      exact hn.1 (List.mem_of_getElem? h2)
    simp only [DVs] at dv
    obtain ⟨v, t, rfl, d1, d2⟩ := dv
    simp only [setI, Option.map_eq_some_iff] at he
    obtain ⟨es', he, rfl⟩ := he
    obtain ⟨us, e1, e2⟩ := putF_zip q hn.2 h2 d2 he
    refine ⟨v :: us, ?_, ?_⟩
    · simp only [List.zip_cons_cons, putF, if_neg hne]
      rw [e1]
    · simp only [DVs]
      exact ⟨v, us, rfl, d1, e2⟩
open Classical in
noncomputable def insOf (o : Option Ob) (c : Str) (N : List Str) : Option (List D) := match o with
  | some (.ins c' N' ds) => if c' = c ∧ N' = N then some ds else none
  | _ => none
theorem insOf_some {o : Option Ob} {c : Str} {N : List Str} {ds : List D} (h : insOf o c N = some ds) : o = some (.ins c N ds) := by
  unfold insOf at h
  split at h
  · split at h
    · rename_i q
      obtain ⟨rfl, rfl⟩ := q
      cases h; rfl
    · cases h
  · cases h
theorem insOf_ins {c : Str} {N : List Str} {ds : List D} : insOf (some (.ins c N ds)) c N = some ds := by unfold insOf; simp
noncomputable def mFld (c : Str) (N : List Str) (i : Nat) (o : ME) : ME := fun E S => (o E S).bind fun x S1 => match x with
  | .loc n => (match insOf S1[n]? c N with
    | some ds => (match ds[i]? with
      | some d => .ok d S1
      | none => .bad)
    | none => .bad)
  | _ => .bad
noncomputable def mPutF (c : Str) (N : List Str) (i : Nat) (o v : ME) : MS := fun E S => (v E S).toS E fun y S1 => (o E S1).toS E fun x S2 => match x with
  | .loc n => (match insOf S2[n]? c N with
    | some ds => (match setI i y ds with
      | some es => .nx E (S2.set n (.ins c N es))
      | none => .bad)
    | none => .bad)
  | _ => .bad
noncomputable def mAugF (c : Str) (N : List Str) (i : Nat) (g : Sto → D → D → Option D) (o v : ME) : MS := fun E S => (o E S).toS E fun x S1 => match x with
  | .loc n => (match insOf S1[n]? c N with
    | some ds => (match ds[i]? with
      | some old => (v E S1).toS E fun y S2 => (match g S2 old y with
        | some z => (match insOf S2[n]? c N with
          | some ds2 => (match setI i z ds2 with
            | some es => .nx E (S2.set n (.ins c N es))
            | none => .bad)
          | none => .bad)
        | none => .bad)
      | none => .bad)
    | none => .bad)
  | _ => .bad
noncomputable def mMeth (c : Str) (N : List Str) (f : MF) (o : ME) (a : MA) : ME := fun E S => (o E S).bind fun x S1 => match x with
  | .loc n => (match insOf S1[n]? c N with
    | some _ => (a E S1).bind fun ds S2 => f (.loc n :: ds) S2
    | none => .bad)
  | _ => .bad
noncomputable def mProp (c : Str) (N : List Str) (f : MF) (o : ME) : ME := fun E S => (o E S).bind fun x S1 => match x with
  | .loc n => (match insOf S1[n]? c N with
    | some _ => (match f [.loc n] S1 with
      | .ok d S2 => .ok d S2
      | _ => .bad)
    | none => .bad)
  | _ => .bad
def mMake (c : Str) (N : List Str) (f : MF) (a : MA) : ME := fun E S => (a E S).bind fun ds S1 => match f (.loc S1.length :: ds) (S1 ++ [.ins c N []]) with
  | .ok .non S2 => .ok (.loc S1.length) S2
  | .ok _ _ => .bad
  | .ex e S2 => .ex e S2
  | .bad => .bad
/-- a def found by R: a method, an __init__, a property's getter -/
structure CallG (R : Addr → Prop) (P : Program) (w : World) (K : PySem.W.Frag) (mg : Str → Option Value) (base : Heap) (k : Nat) (n : Nat) (m : MF) : Prop where
  ex : ∃ f fd ps, FnOk P w K mg base (L2.CX P w) k f fd ps (spM K n m) ∧ R f ∧ Binds K fd ps []
structure FG (R : Addr → Prop) (K : PySem.W.Frag) (x qual : Str) (params : Arguments) (body : List Stmt) (scope : Scope) (ps : List Str) : Prop where
  ex : ∃ f fd, FunD K x qual params body scope [] [] f fd ∧ R f ∧ Binds K fd ps []
section
variable {R : Addr → Prop} {P : Program} {w : World} {K : PySem.W.Frag} {mg : Str → Option Value} {base : Heap} {x qual : Str} {params : Arguments} {body : List Stmt} {scope : Scope}
theorem callG_zero {ps : List Str} {n : Nat} (F : FG R K x qual params body scope ps) : CallG R P w K mg base 0 n (fun _ _ => .bad) := by
  obtain ⟨f, fd, F, hm, b⟩ := F.ex
  have no : ∀ vs H Q E, ¬ spM K n (fun _ _ => .bad) vs H Q E := fun vs H Q E h => by
    obtain ⟨ρ, S, ds, r, dv, hl, p⟩ := h
    exact p
  exact ⟨f, fd, ps, ⟨fun vs H Q E h => absurd h (no vs H Q E), fun A outer s H args us vs Q E _ _ _ _ h => absurd h (no vs H Q E)⟩, hm, b⟩
theorem callG_succ {k n : Nat} {N ps : List Str} {b : MS} (F : FG R K x qual params body scope ps) (Sc : FnScope N ps scope) (hn : ps.length = n)
    (hb : ∀ (f : Addr) (cdv : Value) (A : Around) (outer : List Env) (s : Shared) (H : Hp) (E : XK), Room k (A.deeper (envOfC qual scope s.heap.objs.size f cdv)) → BD (cxOf (L2.CX P w) P w K mg base N qual scope f cdv A outer s H E) (WW.of (K := K) fun c d _ H => E c d H) body b) :
    CallG R P w K mg base (k + 1) n (runB N.length b) := by
  obtain ⟨f, fd, F, hm, bd⟩ := F.ex
  exact ⟨f, fd, ps, fn_run F Sc hn (hb f), hm, bd⟩
theorem callG_trim {k n : Nat} {m : MF} (c : CallG R P w K mg base k n m) : CallG R P w K mg base k n (fun ds S => trim S (m ds S)) := by
  obtain ⟨f, fd, ps, F, h1, h3⟩ := c.ex
  have i : ∀ vs H Q E, spM K n (fun ds S => trim S (m ds S)) vs H Q E → spM K n m vs H Q E := fun vs H Q E ⟨ρ, S, ds, r, dv, hl, p⟩ => ⟨ρ, S, ds, r, dv, hl, Post.trim r p⟩
  exact ⟨f, fd, ps, F.imp i, h1, h3⟩
end
def lv : Nat → Nat
  | 0 => 2
  | k + 1 => lv k + 2
/-! ### the store -/
theorem Ext.writeI {K : PySem.W.Frag} {ρ : List Addr} {H : Hp} {a C dx : Addr} {fs : List (Str × V)} {o : HO} (ha : a ∈ ρ) (h : H a = some (.ins C dx fs)) : Ext K ρ H ρ (upd H a o) := by
  refine ⟨⟨[], by simp⟩, fun b ws hb => ?_, fun b ws hb hw => ⟨hb, ?_⟩, fun b o ws hb => ?_, fun b fs hb => ?_⟩
  · refine hb.imp (fun hb => Rd.upd (fun z => ?_) hb) id
    subst z
    rcases hb with hb | ⟨o, hb⟩ <;> rw [h] at hb <;> cases hb
  · rw [upd_ne (fun z => by subst z; exact hb ha)]; exact hw
  · rw [upd_ne (fun z => by subst z; rw [h] at hb; cases hb)]; exact hb
  · rw [upd_ne (fun z => by subst z; rw [h] at hb; cases hb)]; exact hb
theorem Rel.writeI {K : PySem.W.Frag} {ρ : List Addr} {S : Sto} {H : Hp} (r : Rel K ρ S H) {n : Nat} {a C dx : Addr} {c : Str} {N : List Str} {fs : List (Str × V)} {es : List D} {us : List V} (ha : ρ[n]? = some a) (h : H a = some (.ins C dx fs)) (hC : C = He.ga K c) (d : DVs K ρ H es us) :
    Rel K ρ (S.set n (.ins c N es)) (upd H a (.ins C dx (N.zip us))) := by
  subst hC
  have e := Ext.writeI (K := K) (o := .ins (He.ga K c) dx (N.zip us)) (List.mem_of_getElem? ha) h
  refine ⟨by simpa using r.len, r.nd, fun m o b h1 h2 => ?_⟩
  by_cases hm : n = m
  · subst hm
    rw [ha] at h2; cases h2
    by_cases hl : n < S.length
    · rw [List.getElem?_set_self hl] at h1
      cases h1
      exact ⟨dx, us, upd_same, DVs.mono e _ _ d⟩
    · rw [List.getElem?_eq_none (by simpa using hl)] at h1; cases h1
  · rw [List.getElem?_set_ne hm] at h1
    have hb : b ≠ a := fun z => by subst z; exact hm (nodup_at r.nd ha h2)
    exact (r.at_ m o b h1 h2).mono e fun u hu => by rw [upd_ne hb]; exact hu
section
variable {X : Cx} {W : WW X.K} {pos : Pos} {c f m : Str} {N : List Str} {i k : Nat} {o e : Expr} {mo : ME} {es : List Expr} {ma : MA} {mf : MF}
theorem ins_read {K : PySem.W.Frag} {ρ : List Addr} {S : Sto} {H : Hp} (r : Rel K ρ S H) {n : Nat} {v : V} {ds : List D} (dv : DV K ρ H (.loc n) v) (h : insOf S[n]? c N = some ds) : ∃ a dx vs, v = .ref a ∧ ρ[n]? = some a ∧ H a = some (.ins (He.ga K c) dx (N.zip vs)) ∧ DVs K ρ H ds vs := by
  simp only [DV] at dv
  obtain ⟨a, rfl, ha⟩ := dv
  obtain ⟨dx, vs, h1, h2⟩ := r.at_ n _ a (insOf_some h) ha
  exact ⟨a, dx, vs, rfl, ha, h1, h2⟩
theorem tE_imp {K : PySem.W.Frag} {W : WW K} {m : ME} {σ : L2.St} {H : Hp} {Q Q' : VK} (h : tE K W m σ H Q) (i : ∀ v H', Q v H' → Q' v H') : tE K W m σ H Q' := by
  obtain ⟨ρ, S, E, r, er, p⟩ := h
  exact ⟨ρ, S, E, r, er, p.imp i⟩
theorem ed_fld (T : ClsF X.K c N) (hi : N[i]? = some f) (ho : ED X W o mo) (hb : attributeBase o f X.env (eval o X.env) = eval o X.env := by rfl) : ED X W (.Attribute o f pos) (mFld c N i mo) := by
  refine ed_of (pe_fld ho hb) fun σ H Q ρ S E r er p => ?_
  refine ⟨ρ, S, E, r, er, (Post.bind (R := DV X.K) p).imp fun x H1 ⟨ρ1, S1, d, r1, e1, d1, p1⟩ => ?_⟩
  cases d with
  | loc n =>
    simp only at p1
    cases q : insOf S1[n]? c N with
    | none => rw [q] at p1; exact p1.elim
    | some ds =>
      rw [q] at p1
      obtain ⟨a, dx, vs, rfl, _, h2, h3⟩ := ins_read r1 d1 q
      simp only at p1
      cases q2 : ds[i]? with
      | none => rw [q2] at p1; exact p1.elim
      | some d2 =>
        rw [q2] at p1
        obtain ⟨v, hv, dv⟩ := h3.get q2
        exact ⟨a, _, dx, _, v, rfl, h2, T.cl, T.no f (List.mem_of_getElem? hi), by rw [zip_lookup T.nd hi]; exact hv, p1 ρ1 H1 v r1 Ext.refl dv⟩
  | _ => exact p1.elim
theorem sd_fld {value : Expr} {mv : ME} {pos' : Pos} (T : ClsF X.K c N) (hi : N[i]? = some f) (ho : ED X W o mo) (hv : ED X W value mv) (hs : swapsWith value (some (.Attribute o f pos')) pos.line X.env = pure false := by rfl) : SD X W (.Assign [.Attribute o f pos'] value pos) (mPutF c N i mo mv) := by
  refine sd_of (ps_fld ho hv hs) fun D σ H ρ S E r er p => ?_
  refine ⟨ρ, S, E, r, er, (SPost.bind (R := DV X.K) er p).imp fun y H1 ⟨ρ1, S1, dy, r1, e1, d1, p1⟩ => ?_⟩
  refine ⟨ρ1, S1, E, r1, er.mono e1, (SPost.bind (R := DV X.K) (er.mono e1) p1).imp fun x H2 ⟨ρ2, S2, d, r2, e2, d2, p2⟩ => ?_⟩
  cases d with
  | loc n =>
    simp only at p2
    cases q : insOf S2[n]? c N with
    | none => rw [q] at p2; exact p2.elim
    | some ds =>
      rw [q] at p2
      simp only at p2
      obtain ⟨a, dx, vs, rfl, ha, h2, h3⟩ := ins_read r2 d2 q
      cases q2 : setI i dy ds with
      | none => rw [q2] at p2; exact p2.elim
      | some es =>
        rw [q2] at p2
        obtain ⟨us, z1, z2⟩ := putF_zip (DV.mono e2 _ _ d1) T.nd hi h3 q2
        have hex := Ext.writeI (K := X.K) (o := .ins (He.ga X.K c) dx (N.zip us)) (List.mem_of_getElem? ha) h2
        refine ⟨a, _, dx, _, rfl, h2, T.cl, T.no f (List.mem_of_getElem? hi), ?_, ?_⟩
        · have := T.few
          rw [List.length_zip]; omega
        · rw [z1]
          exact p2 ρ2 _ σ (r2.writeI ha h2 rfl z2) hex (((er.mono e1).mono e2).mono hex)
  | _ => exact p2.elim
theorem sd_fldaug {value : Expr} {mv : ME} {tpos : Pos} {op : Operator} {r : R2} {g : Sto → D → D → Option D} (T : ClsF X.K c N) (hi : N[i]? = some f) (ho : ED X W o mo) (hv : ED X W value mv) (hop : InOp X op r) (hr : ∀ x y H Q, rP X.K g x y H Q → r x y H Q) : SD X W (.AugAssign (.Attribute o f tpos) op value pos) (mAugF c N i g mo mv) := by
  refine sd_of (ps_fldaug ho hv hop) fun D σ H ρ S E r0 er p => ?_
  refine ⟨ρ, S, E, r0, er, (SPost.bind (R := DV X.K) er p).imp fun x H1 ⟨ρ1, S1, d, r1, e1, d1, p1⟩ => ?_⟩
  cases d with
  | loc n =>
    simp only at p1
    cases q : insOf S1[n]? c N with
    | none => rw [q] at p1; exact p1.elim
    | some ds =>
      rw [q] at p1
      simp only at p1
      obtain ⟨a, dx, vs, rfl, ha, h2, h3⟩ := ins_read r1 d1 q
      cases q2 : ds[i]? with
      | none => rw [q2] at p1; exact p1.elim
      | some old =>
        rw [q2] at p1
        obtain ⟨v, hv2, dv⟩ := h3.get q2
        refine ⟨a, _, dx, _, v, rfl, h2, T.cl, T.no f (List.mem_of_getElem? hi), by rw [zip_lookup T.nd hi]; exact hv2, ?_⟩
        refine ⟨ρ1, S1, E, r1, er.mono e1, (SPost.bind (R := DV X.K) (er.mono e1) p1).imp fun y H2 ⟨ρ2, S2, dy, r2, e2, d2, p2⟩ => ?_⟩
        cases q3 : g S2 old dy with
        | none => rw [q3] at p2; exact p2.elim
        | some z =>
          rw [q3] at p2
          simp only at p2
          cases q4 : insOf S2[n]? c N with
          | none => rw [q4] at p2; exact p2.elim
          | some ds2 =>
            rw [q4] at p2
            simp only at p2
            cases q5 : setI i z ds2 with
            | none => rw [q5] at p2; exact p2.elim
            | some es =>
              rw [q5] at p2
              refine hr _ _ _ _ ⟨ρ2, S2, old, dy, z, r2, DV.mono e2 _ _ dv, d2, q3, fun ρ3 H3 w r3 e3 d3 => ?_⟩
              have d4 : DV X.K ρ3 H3 (.loc n) (.ref a) := DV.mono e3 _ _ (DV.mono e2 _ _ d1)
              obtain ⟨a2, dx2, vs2, ea, ha2, h4, h5⟩ := ins_read r3 d4 q4
              cases ea
              obtain ⟨us, z1, z2⟩ := putF_zip d3 T.nd hi h5 q5
              have hex := Ext.writeI (K := X.K) (o := .ins (He.ga X.K c) dx2 (N.zip us)) (List.mem_of_getElem? ha2) h4
              refine ⟨dx2, _, h4, ?_, ?_⟩
              · have := T.few
                rw [List.length_zip]; omega
              · rw [z1]
                exact p2 ρ3 _ σ (r3.writeI ha2 h4 rfl z2) (e3.trans hex) ((((er.mono e1).mono e2).mono e3).mono hex)
  | _ => exact p1.elim
/-! calls of methods, where errors are wished for at the slots -/
section
variable {CX : CXT} {C f' : Addr} {fd : FuncData} {ps : List Str} {sp : Sp} {dvs : List V} {ds : List Value} {E : L2.St → XK} {ta : TE} {t : TA} {apos p : Pos} {x : Str}
def tMethSD (C : Addr) (m : Str) (sp : Sp) (dvs : List V) (E : L2.St → XK) (ta : TE) (t : TA) : TE := fun σ H Q => ta σ H fun x H1 => ∃ a dx fs, x = .ref a ∧ H1 a = some (.ins C dx fs) ∧ fs.lookup m = none ∧
  t σ H1 fun vs H2 => sp (x :: (vs ++ dvs)) H2 Q (E σ)
theorem pe_methSD {pl : Sem Bool} (he : PE X o ta) (c : Cls X.K C) (hm : Meth X.K C m f') (F : FnOk X.prog X.w X.K X.mg X.base CX k f' fd ps sp) (hr : Room k X.A) (hb : Binds X.K fd ps ds) (hd : Vals dvs ds) (hx : ∀ σ, PassesAt CX X σ (E σ)) (ha : PA X (e :: es) t)
    (hst : starEach (e :: es) X.env = (false, eval e X.env) :: starEach es X.env := by rfl) (hpl : (backTo pos (starEach es X.env)).any (·.1) = false := by rfl)
    (ht : eval (.Call (.Attribute o m apos) (e :: es) [] pos) X.env = (do
      let ov ← eval o X.env
      standAt apos.atName
      let (f, first) ← holding [ov] (getMethod ov m pl)
      callWith pos f first (backTo pos (starEach (e :: es) X.env)) (backToKw pos (keywordEach [] X.env))) := by rfl) :
    PE X (.Call (.Attribute o m apos) (e :: es) [] pos) (tMethSD C m sp dvs E ta t) := by
  refine ⟨fun pins s σ H Q I h => ?_⟩
  refine PySem.W.methodCall_KW (pl := pl) (thn (he.run pins s σ H _ I h) fun u s1 ⟨x, H1, I1, rx, a, dx, fs, ex, ea, l, q⟩ => ?_) ht
  subst ex
  obtain rfl : u = Value.ref a := rx
  refine getmeth_ok I1 ea c hm l ?_
  refine PySem.W.callWith_K (first := [.ref a]) (h₀ := X.base) I.ok.mod.kin hm.kp (thn (ha.run pos pins s1 σ H1 _ I1 q) fun us s2 ⟨vs, H2, I2, r, q2⟩ => ⟨I2.kIn, ?_⟩) hst hpl
  exact run_fnSD (us := .ref a :: us) (vs := .ref a :: vs) F hr hb hd (hx σ) I2 (.cons rfl r) q2
theorem pe_methSD0 {pl : Sem Bool} (he : PE X o ta) (c : Cls X.K C) (hm : Meth X.K C m f') (F : FnOk X.prog X.w X.K X.mg X.base CX k f' fd ps sp) (hr : Room k X.A) (hb : Binds X.K fd ps ds) (hd : Vals dvs ds) (hx : ∀ σ, PassesAt CX X σ (E σ))
    (ht : eval (.Call (.Attribute o m apos) [] [] pos) X.env = (do
      let ov ← eval o X.env
      standAt apos.atName
      let (f, first) ← holding [ov] (getMethod ov m pl)
      callWith pos f first (backTo pos (starEach [] X.env)) (backToKw pos (keywordEach [] X.env))) := by rfl) :
    PE X (.Call (.Attribute o m apos) [] [] pos) (tMethSD C m sp dvs E ta tNil) := by
  refine ⟨fun pins s σ H Q I h => ?_⟩
  refine PySem.W.methodCall_KW (pl := pl) (thn (he.run pins s σ H _ I h) fun u s1 ⟨x, H1, I1, rx, a, dx, fs, ex, ea, l, q⟩ => ?_) ht
  subst ex
  obtain rfl : u = Value.ref a := rx
  refine getmeth_ok I1 ea c hm l ?_
  exact PySem.W.callWith_K0 (first := [.ref a]) I1.kIn hm.kp (run_fnSD (us := [.ref a]) (vs := [.ref a]) F hr hb hd (hx σ) I1 (.cons rfl .nil) q)
theorem run_makeSD {pins : List (Addr × Obj)} {σ : L2.St} {H : Hp} {s : Shared} {Q : VK} {us : List Value} {vs : List V} (M : Mk X.K C f') (F : FnOk X.prog X.w X.K X.mg X.base CX k f' fd ps sp) (hr : Room (k + 1) X.A) (hb : Binds X.K fd ps ds) (hd : Vals dvs ds)
    (hx : PassesAt CX X σ (E σ)) (I : Inv X pins σ H s) (r : Vals vs us)
    (h : ∀ x dx, H x = none → H dx = none → dx ≠ x → sp (.ref x :: (vs ++ dvs)) (upd (upd H dx (.own x)) x (.ins C dx [])) (fun v H2 => v = .non ∧ Q (.ref x) H2) (E σ)) :
    wpAny (model X.prog X.w) X.A (call (.ref C) us) (EP X pins σ Q) X.xe s := by
  have hq := h (s.heap.objs.size + 1) s.heap.objs.size (I.hok.fresh (Nat.le_succ _)) (I.hok.fresh (Nat.le_refl _)) (Nat.ne_of_lt (Nat.lt_succ_self _))
  have I2 := Inv.made (C := C) I
  have r2 : Vals (V.ref (s.heap.objs.size + 1) :: (vs ++ dvs)) (Value.ref (s.heap.objs.size + 1) :: (us ++ ds)) := .cons rfl (r.append hd)
  have hl : (Value.ref (s.heap.objs.size + 1) :: us ++ ds).length = ps.length := by
    have e := r2.length
    rw [F.len _ _ _ _ hq] at e
    exact e.symm
  refine wpAny_call (make_map (f := f') I.kIn M.makes M.init (beq_iff_eq.mp M.fn) (codeAny_mono (F.run _ X.stack _ _ ⟨Value.ref (s.heap.objs.size + 1) :: us, []⟩ (Value.ref (s.heap.objs.size + 1) :: (us ++ ds)) _ _ (E σ) (hr.make C us [])
    (I2.env0.make C us []) (hb _ (Value.ref (s.heap.objs.size + 1) :: us) I2.kIn hl) r2 hq) fun r s' hq' => ?_))
  cases r with
  | error e => exact hx pins _ _ e s' I2 hq'
  | ok fl =>
    cases fl with
    | ret u =>
      obtain ⟨v, H', I3, rv, ev, q3⟩ := I2.after hq'
      subst ev
      exact ⟨rv, ⟨V.ref (s.heap.objs.size + 1), H', I3, rfl, q3⟩⟩
    | next => exact False.elim hq'
    | brk => exact False.elim hq'
    | cont => exact False.elim hq'
def tMakeSD (C : Addr) (sp : Sp) (dvs : List V) (E : L2.St → XK) (t : TA) : TE := fun σ H Q => t σ H fun vs H1 => ∀ x dx, H1 x = none → H1 dx = none → dx ≠ x →
  sp (.ref x :: (vs ++ dvs)) (upd (upd H1 dx (.own x)) x (.ins C dx [])) (fun v H2 => v = .non ∧ Q (.ref x) H2) (E σ)
theorem pe_makeSD (M : Mk X.K C f') (F : FnOk X.prog X.w X.K X.mg X.base CX k f' fd ps sp) (hr : Room (k + 1) X.A) (hg : Gl X x) (hm : X.mg x = some (.ref C)) (hb : Binds X.K fd ps ds) (hd : Vals dvs ds) (hx : ∀ σ, PassesAt CX X σ (E σ))
    (ha : PA X (e :: es) t) (hdb : (x == ("__debug__" : Str)) = false := by decide) (he : starEach (e :: es) X.env = (false, eval e X.env) :: starEach es X.env := by rfl) (hpl : (backTo pos (starEach es X.env)).any (·.1) = false := by rfl) :
    PE X (.Call (.Name x p) (e :: es) [] pos) (tMakeSD C sp dvs E t) := by
  refine ⟨fun pins s σ H Q I h => ?_⟩
  refine wpAny_Call_Name_kw (ld_glob I hg hm ?_ hdb)
  refine PySem.W.callWith_K (h₀ := X.base) I.ok.mod.kin M.kp (thn (ha.run pos pins s σ H _ I h) fun us s1 ⟨vs, H1, I1, r, q⟩ => ⟨I1.kIn, ?_⟩) he hpl
  exact run_makeSD M F hr hb hd (hx σ) I1 r q
theorem pe_makeSD0 (M : Mk X.K C f') (F : FnOk X.prog X.w X.K X.mg X.base CX k f' fd ps sp) (hr : Room (k + 1) X.A) (hg : Gl X x) (hm : X.mg x = some (.ref C)) (hb : Binds X.K fd ps ds) (hd : Vals dvs ds) (hx : ∀ σ, PassesAt CX X σ (E σ))
    (hdb : (x == ("__debug__" : Str)) = false := by decide) : PE X (.Call (.Name x p) [] [] pos) (tMakeSD C sp dvs E tNil) := by
  refine ⟨fun pins s σ H Q I h => ?_⟩
  refine wpAny_Call_Name_kw (ld_glob I hg hm ?_ hdb)
  exact PySem.W.callWith_K0 I.kIn M.kp (run_makeSD (us := []) M F hr hb hd (hx σ) I .nil h)
end
theorem meth_read {n : Nat} {sp : Unit} (hm : m ∉ N) : ∀ σ H Q ρ S E, Rel X.K ρ S H → ER X.K W ρ H E σ → (∀ E S ds S', ma E S = .ok ds S' → ds.length = n) → Post X.K (DV X.K) ρ H Q (fun c dx H' => W.w c dx σ H') (mMeth c N mf mo ma E S) →
    tMethSD (He.ga X.K c) m (spM X.K (n + 1) mf) [] (fun σ c dx H => W.w c dx σ H) (tE X.K W mo) (tA X.K W ma) σ H Q := by
  intro σ H Q ρ S E r er hl p
  refine ⟨ρ, S, E, r, er, (Post.bind (R := DV X.K) p).imp fun x H1 ⟨ρ1, S1, d, r1, e1, d1, p1⟩ => ?_⟩
  cases d with
  | loc nn =>
    simp only at p1
    cases q : insOf S1[nn]? c N with
    | none => rw [q] at p1; exact p1.elim
    | some ds =>
      rw [q] at p1
      simp only at p1
      obtain ⟨a, dx, vs, rfl, _, h2, h3⟩ := ins_read r1 d1 q
      refine ⟨a, dx, _, rfl, h2, zip_none hm, ρ1, S1, E, r1, er.mono e1, ?_⟩
      cases q2 : ma E S1 with
      | bad => rw [q2] at p1; exact p1.elim
      | ex e S' => rw [q2] at p1; exact p1
      | ok ds2 S' =>
        rw [q2] at p1
        have hn := hl E S1 ds2 S' q2
        intro ρ2 H2 us r2 e2 d2
        rw [List.append_nil]
        refine ⟨ρ2, S', .loc nn :: ds2, r2, ?_, by simp [hn], p1.start e2⟩
        simp only [DVs]
        exact ⟨_, _, rfl, DV.mono e2 _ _ d1, d2⟩
  | _ => exact p1.elim
theorem ed_meth {n : Nat} {apos : Pos} (T : ClsF X.K c N) (cm : CallG (Meth X.K (He.ga X.K c) m) X.prog X.w X.K X.mg X.base k (n + 1) mf) (hr : Room k X.A) (tk : Takes X W.w) (ho : ED X W o mo) (ha : AD X W (e :: es) ma) (hm : m ∉ N)
    (hl : ∀ E S ds S', ma E S = .ok ds S' → ds.length = n) (hst : starEach (e :: es) X.env = (false, eval e X.env) :: starEach es X.env := by rfl) (hpl : (backTo pos (starEach es X.env)).any (·.1) = false := by rfl) {pl : Sem Bool}
    (ht : eval (.Call (.Attribute o m apos) (e :: es) [] pos) X.env = (do
      let ov ← eval o X.env
      standAt apos.atName
      let (f, first) ← holding [ov] (getMethod ov m pl)
      callWith pos f first (backTo pos (starEach (e :: es) X.env)) (backToKw pos (keywordEach [] X.env))) := by rfl) :
    ED X W (.Call (.Attribute o m apos) (e :: es) [] pos) (mMeth c N mf mo ma) := by
  obtain ⟨f', fd, ps, F, hM, hb⟩ := cm.ex
  exact ed_of (pe_methSD (pl := pl) (E := fun σ c dx H => W.w c dx σ H) ho T.cl hM F hr hb .nil (fun σ => passAt tk σ) ha hst hpl ht) fun σ H Q ρ S E r er p => meth_read (sp := ()) hm σ H Q ρ S E r er hl p
theorem ed_meth0 {apos : Pos} (T : ClsF X.K c N) (cm : CallG (Meth X.K (He.ga X.K c) m) X.prog X.w X.K X.mg X.base k 1 mf) (hr : Room k X.A) (tk : Takes X W.w) (ho : ED X W o mo) (hm : m ∉ N) {pl : Sem Bool}
    (ht : eval (.Call (.Attribute o m apos) [] [] pos) X.env = (do
      let ov ← eval o X.env
      standAt apos.atName
      let (f, first) ← holding [ov] (getMethod ov m pl)
      callWith pos f first (backTo pos (starEach [] X.env)) (backToKw pos (keywordEach [] X.env))) := by rfl) :
    ED X W (.Call (.Attribute o m apos) [] [] pos) (mMeth c N mf mo mNil) := by
  obtain ⟨f', fd, ps, F, hM, hb⟩ := cm.ex
  refine ed_of (pe_methSD0 (pl := pl) (E := fun σ c dx H => W.w c dx σ H) ho T.cl hM F hr hb .nil (fun σ => passAt tk σ) ht) fun σ H Q ρ S E r er p => ?_
  have h := meth_read (X := X) (W := W) (mf := mf) (ma := mNil) (n := 0) (sp := ()) hm σ H Q ρ S E r er len_nil p
  refine tE_imp h fun x H1 ⟨a, dx, fs, ex, ea, l, z⟩ => ⟨a, dx, fs, ex, ea, l, ?_⟩
  obtain ⟨ρ1, S1, E1, r1, er1, z⟩ := z
  exact z ρ1 H1 [] r1 Ext.refl (by simp [DVs])
theorem ed_make {n : Nat} {p : Pos} (M : CallG (Mk X.K (He.ga X.K c)) X.prog X.w X.K X.mg X.base k (n + 1) mf) (hr : Room (k + 1) X.A) (tk : Takes X W.w) (hg : Gl X c) (hm : X.mg c = some (.ref (He.ga X.K c))) (ha : AD X W (e :: es) ma)
    (hl : ∀ E S ds S', ma E S = .ok ds S' → ds.length = n) (hdb : (c == ("__debug__" : Str)) = false := by decide) (he : starEach (e :: es) X.env = (false, eval e X.env) :: starEach es X.env := by rfl) (hpl : (backTo pos (starEach es X.env)).any (·.1) = false := by rfl) :
    ED X W (.Call (.Name c p) (e :: es) [] pos) (mMake c N mf ma) := by
  obtain ⟨f', fd, ps, F, hM, hb⟩ := M.ex
  refine ed_of (pe_makeSD (E := fun σ c dx H => W.w c dx σ H) hM F hr hg hm hb .nil (fun σ => passAt tk σ) ha hdb he hpl) fun σ H Q ρ S E r er p => ?_
  refine ⟨ρ, S, E, r, er, ?_⟩
  unfold mMake at p
  cases q : ma E S with
  | bad => rw [q] at p; exact p.elim
  | ex e S' => rw [q] at p; exact p
  | ok ds S1 =>
    rw [q, bind_ok] at p
    have hn := hl E S ds S1 q
    intro ρ1 H1 us r1 e1 d1 x dx hx hdx hne
    rw [List.append_nil]
    have r2 : Rel X.K ρ1 S1 (upd H1 dx (.own x)) := r1.new hdx
    have x2 : Ext X.K ρ1 H1 ρ1 (upd H1 dx (.own x)) := Ext.new hdx
    have hx2 : (upd H1 dx (.own x)) x = none := by rw [upd_ne (Ne.symm hne)]; exact hx
    have x3 := Ext.alloc (K := X.K) (ρ := ρ1) (o := .ins (He.ga X.K c) dx []) hx2
    have r3 : Rel X.K (ρ1 ++ [x]) (S1 ++ [.ins c N []]) (upd (upd H1 dx (.own x)) x (.ins (He.ga X.K c) dx [])) := r2.alloc hx2 ⟨dx, [], by rw [List.zip_nil_right]; exact upd_same, by simp [DVs]⟩
    have d3 : DV X.K (ρ1 ++ [x]) (upd (upd H1 dx (.own x)) x (.ins (He.ga X.K c) dx [])) (.loc S1.length) (.ref x) := dv_loc r2
    refine ⟨ρ1 ++ [x], S1 ++ [.ins c N []], .loc S1.length :: ds, r3, ?_, by simp [hn], ?_⟩
    · simp only [DVs]
      exact ⟨_, _, rfl, d3, DVs.mono (x2.trans x3) _ _ d1⟩
    · cases q2 : mf (.loc S1.length :: ds) (S1 ++ [.ins c N []]) with
      | bad => rw [q2] at p; exact p.elim
      | ex e S2 =>
        rw [q2] at p
        intro ρ4 H4 cc dd r4 e4 xr
        exact p ρ4 H4 cc dd r4 (e1.trans ((x2.trans x3).trans e4)) xr
      | ok d S2 =>
        rw [q2] at p
        cases d with
        | non =>
          intro ρ4 H4 v r4 e4 dv
          refine ⟨dv_non.mp dv, ?_⟩
          exact p ρ4 H4 _ r4 (e1.trans ((x2.trans x3).trans e4)) (DV.mono e4 _ _ d3)
        | _ => exact p.elim
theorem ed_make0 {p : Pos} (M : CallG (Mk X.K (He.ga X.K c)) X.prog X.w X.K X.mg X.base k 1 mf) (hr : Room (k + 1) X.A) (tk : Takes X W.w) (hg : Gl X c) (hm : X.mg c = some (.ref (He.ga X.K c)))
    (hdb : (c == ("__debug__" : Str)) = false := by decide) : ED X W (.Call (.Name c p) [] [] pos) (mMake c N mf mNil) := by
  obtain ⟨f', fd, ps, F, hM, hb⟩ := M.ex
  refine ed_of (pe_makeSD0 (E := fun σ c dx H => W.w c dx σ H) hM F hr hg hm hb .nil (fun σ => passAt tk σ) hdb) fun σ H Q ρ S E r er p => ?_
  intro x dx hx hdx hne
  have p : Post X.K (DV X.K) ρ H Q (fun c dx H' => W.w c dx σ H') (match mf [.loc S.length] (S ++ [.ins c N []]) with
    | .ok .non S2 => .ok (.loc S.length) S2
    | .ok _ _ => .bad
    | .ex e S2 => .ex e S2
    | .bad => .bad) := p
  have r2 : Rel X.K ρ S (upd H dx (.own x)) := r.new hdx
  have x2 : Ext X.K ρ H ρ (upd H dx (.own x)) := Ext.new hdx
  have hx2 : (upd H dx (.own x)) x = none := by rw [upd_ne (Ne.symm hne)]; exact hx
  have x3 := Ext.alloc (K := X.K) (ρ := ρ) (o := .ins (He.ga X.K c) dx []) hx2
  have r3 : Rel X.K (ρ ++ [x]) (S ++ [.ins c N []]) (upd (upd H dx (.own x)) x (.ins (He.ga X.K c) dx [])) := r2.alloc hx2 ⟨dx, [], by rw [List.zip_nil_right]; exact upd_same, by simp [DVs]⟩
  have d3 : DV X.K (ρ ++ [x]) (upd (upd H dx (.own x)) x (.ins (He.ga X.K c) dx [])) (.loc S.length) (.ref x) := dv_loc r2
  refine ⟨ρ ++ [x], S ++ [.ins c N []], [.loc S.length], r3, DVs.one d3, rfl, ?_⟩
  cases q2 : mf [.loc S.length] (S ++ [.ins c N []]) with
  | bad => rw [q2] at p; exact p.elim
  | ex e S2 =>
    rw [q2] at p
    intro ρ4 H4 cc dd r4 e4 xr
    exact p ρ4 H4 cc dd r4 ((x2.trans x3).trans e4) xr
  | ok d S2 =>
    rw [q2] at p
    cases d with
    | non =>
      intro ρ4 H4 v r4 e4 dv
      refine ⟨dv_non.mp dv, ?_⟩
      exact p ρ4 H4 _ r4 ((x2.trans x3).trans e4) (DV.mono e4 _ _ d3)
    | _ => exact p.elim
theorem ed_prop (T : ClsF X.K c N) (cp : CallG (fun g => ∃ p, PropOf X.K (He.ga X.K c) f p g) X.prog X.w X.K X.mg X.base k 1 mf) (hr : Room (k + 1) X.A) (hx : Passes (L2.CX X.prog X.w) X.nox fun _ _ _ => False) (ho : ED X W o mo)
    (hab : attributeBase o f X.env (eval o X.env) = eval o X.env := by rfl) : ED X W (.Attribute o f pos) (mProp c N mf mo) := by
  obtain ⟨g, fd, ps, F, ⟨pa, hp⟩, hb⟩ := cp.ex
  refine ed_of (pe_prop ho T.cl hp F hr hb .nil hx hab) fun σ H Q ρ S E r er p => ?_
  refine ⟨ρ, S, E, r, er, (Post.bind (R := DV X.K) p).imp fun x H1 ⟨ρ1, S1, d, r1, e1, d1, p1⟩ => ?_⟩
  cases d with
  | loc n =>
    simp only at p1
    cases q : insOf S1[n]? c N with
    | none => rw [q] at p1; exact p1.elim
    | some ds =>
      rw [q] at p1
      simp only at p1
      obtain ⟨a, dx, vs, rfl, _, h2, h3⟩ := ins_read r1 d1 q
      refine ⟨a, dx, _, rfl, h2, ρ1, S1, [.loc n], r1, DVs.one d1, rfl, ?_⟩
      cases q2 : mf [.loc n] S1 with
      | bad => rw [q2] at p1; exact p1.elim
      | ex e S2 => rw [q2] at p1; exact p1.elim
      | ok d2 S2 => rw [q2] at p1; exact p1
  | _ => exact p1.elim
end
/-! ### weakest preconditions -/
def OkIns (o : Option Ob) (c : Str) (N : List Str) (Q : List D → Prop) (_u : Tg Q Q := .mk) : Prop := match insOf o c N with
  | some ds => Q ds
  | none => False
def OkNon (d : D) (Q : Prop) : Prop := match d with
  | .non => Q
  | _ => False
section
variable {Q : D → Sto → Prop} {P P' : Prop} {N B C : EC} {R : D → Sto → Prop} {X : Exn → Sto → Prop} {XE : Exn → EC} {E : Evn} {S : Sto} {o v : ME} {ma : MA} {c : Str} {F : List Str} {i : Nat} {mf : MF}
theorem w_ins {ds : List D} {Q : List D → Prop} : OkIns (some (.ins c F ds)) c F Q = Q ds := by unfold OkIns; rw [insOf_ins]
theorem w_non {P : Prop} : OkNon .non P = P := rfl
theorem w_fld : OkO (mFld c F i o E S) Q X = OkO (o E S) (fun x S1 => OkLoc x fun n => OkIns S1[n]? c F fun ds => OkP ds[i]? fun d => Q d S1) X := by
  unfold mFld; simp only [w_bind]; refine OkO_fun fun x S1 => ?_
  cases x <;> first | rfl | skip
  simp only [OkLoc, OkIns]
  rename_i n
  cases insOf S1[n]? c F with
  | none => rfl
  | some ds => simp only; cases ds[i]? <;> rfl
theorem w_putF : OkS (mPutF c F i o v E S) N R XE B C = OkO (v E S) (fun y S1 => OkO (o E S1) (fun x S2 => OkLoc x fun n => OkIns S2[n]? c F fun ds => OkP (setI i y ds) fun es => OkN (S2.set n (.ins c F es)) fun S3 => N E S3) (fun e S1 => XE e E S1)) (fun e S1 => XE e E S1) := by
  unfold mPutF; simp only [w_toS]; refine OkO_fun fun y S1 => ?_; refine w_toS.trans (OkO_fun fun x S2 => ?_)
  cases x <;> first | rfl | skip
  simp only [OkLoc, OkIns]
  rename_i n
  cases insOf S2[n]? c F with
  | none => rfl
  | some ds => simp only; cases setI i y ds <;> rfl
theorem w_augF {g : Sto → D → D → Option D} : OkS (mAugF c F i g o v E S) N R XE B C = OkO (o E S) (fun x S1 => OkLoc x fun n => OkIns S1[n]? c F fun ds => OkP ds[i]? fun old => OkO (v E S1) (fun y S2 => OkP (g S2 old y) fun z => OkIns S2[n]? c F fun ds2 => OkP (setI i z ds2) fun es => OkN (S2.set n (.ins c F es)) fun S3 => N E S3) (fun e S1 => XE e E S1)) (fun e S1 => XE e E S1) := by
  unfold mAugF; simp only [w_toS]; refine OkO_fun fun x S1 => ?_
  cases x <;> first | rfl | skip
  simp only [OkLoc, OkIns]
  rename_i n
  cases insOf S1[n]? c F with
  | none => rfl
  | some ds =>
    simp only
    cases ds[i]? with
    | none => rfl
    | some old =>
      simp only [OkP, w_toS]
      refine OkO_fun fun y S2 => ?_
      cases g S2 old y with
      | none => rfl
      | some z =>
        simp only
        cases insOf S2[n]? c F with
        | none => rfl
        | some ds2 => simp only; cases setI i z ds2 <;> rfl
theorem w_meth : OkO (mMeth c F mf o ma E S) Q X = OkO (o E S) (fun x S1 => OkLoc x fun n => OkIns S1[n]? c F fun _ => OkO (ma E S1) (fun ds S2 => OkO (mf (.loc n :: ds) S2) Q X) X) X := by
  unfold mMeth; simp only [w_bind]; refine OkO_fun fun x S1 => ?_
  cases x <;> first | rfl | skip
  simp only [OkLoc, OkIns]
  rename_i n
  cases insOf S1[n]? c F with
  | none => rfl
  | some ds => simp only [w_bind]
theorem w_prop : OkO (mProp c F mf o E S) Q X = OkO (o E S) (fun x S1 => OkLoc x fun n => OkIns S1[n]? c F fun _ => OkO (mf [.loc n] S1) Q (fun _ _ => False)) X := by
  unfold mProp; simp only [w_bind]; refine OkO_fun fun x S1 => ?_
  cases x <;> first | rfl | skip
  simp only [OkLoc, OkIns]
  rename_i n
  cases insOf S1[n]? c F with
  | none => rfl
  | some ds => simp only; cases mf [.loc n] S1 <;> rfl
theorem w_make : OkO (mMake c F mf ma E S) Q X = OkO (ma E S) (fun ds S1 => OkN (S1 ++ [.ins c F []]) fun S2 => OkO (mf (.loc S1.length :: ds) S2) (fun d S3 => OkNon d (Q (.loc S1.length) S3)) X) X := by
  unfold mMake; simp only [w_bind]; refine OkO_fun fun ds S1 => ?_
  simp only [OkN]
  cases mf (.loc S1.length :: ds) (S1 ++ [.ins c F []]) with
  | bad => rfl
  | ex e S2 => rfl
  | ok d S2 => cases d <;> rfl
theorem setI_0n {y : D} : setI 0 y [] = some [y] := rfl
theorem setI_0c {y a : D} {r : List D} : setI 0 y (a :: r) = some (y :: r) := rfl
theorem setI_s {i : Nat} {y a : D} {r : List D} : setI (i + 1) y (a :: r) = (setI i y r).map (a :: ·) := rfl
end
end PD
namespace PD
open PySem PySem.Spec PyProof PyProof.Rows L2
/-- an operator in place, as an attribute's store wants it -/
theorem inopR {X : Cx} {op : Operator} {r : R2} (h : OpR X (inplaceOp op) r) : InOp X op r := fun pins s σ H x y u v Q I rx ry q => h pins s σ H x y u v Q I rx ry q
end PD

/-! PyG4: enumerate of a text. -/
namespace PD
open PySem PySem.Spec PyProof PyProof.Rows L2
theorem meets_enumB {v : Value} {o : Obj} {H : Heap → Prop} (B : Begins v o H) :
    Meets (Builtin.«enumerate.__new__» ⟨[.type "enumerate", v], []⟩) (fun _ R s => H s.heap ∧
      R (.ok (.ret (.ref (s.heap.push o).objs.size))) { s with heap := (s.heap.push o).push { cls := .type "enumerate", data := .fields #[.none, .bool false, .ref s.heap.objs.size, rawInt 0, .none, .none] } }) :=
  .of_wp fun prog w A R s h => by
    obtain ⟨hp, g, d, tk, os⟩ := s; obtain ⟨h1, h⟩ := h
    have hsub := sub_enumerate
    have q1 : ∀ {A' : Around} {E : Value → Shared → Prop} {Q : Value → Shared → Prop}, Q (.ref hp.objs.size) ⟨hp.push o, g, d, tk, os⟩ → wpAny (model prog w) A' (pyIter v) Q E ⟨hp, g, d, tk, os⟩ :=
      fun q => B.iter prog w _ _ ⟨hp, g, d, tk, os⟩ _ h1 q
    wp_walk using q1
    refine wpAny_stack_any fun st => wpAny_pure ?_
    split
    · rename_i c _ _ _ _ _
      cases (c == Value.type "enumerate")
      · wp_walk using q1
        exact ⟨_, rfl, h⟩
      · wp_walk using q1
        exact ⟨_, rfl, h⟩
    · wp_walk using q1
      exact ⟨_, rfl, h⟩
theorem call_enumB {prog : Program} {w : World} {A : Around} {E : Value → Shared → Prop} {s : Shared} {v : Value} {o : Obj} {H : Heap → Prop} {Q : Value → Shared → Prop} (B : Begins v o H) (h1 : H s.heap)
    (h : ∀ h', IsEnum h' (s.heap.objs.size + 1) s.heap.objs.size 0 .none → h'.get? s.heap.objs.size = some o → h'.objs.size = s.heap.objs.size + 2 →
      (∀ b o, s.heap.get? b = some o → h'.get? b = some o) → Q (.ref (s.heap.objs.size + 1)) { s with heap := h' }) :
    wpAny (model prog w) A (call (.type "enumerate") [v]) Q E s := by
  refine callType_new F.called_enumerate (by decide) (F.typeCall_enumerate_1 _) (F.newCall_enumerate_1 _) (fun obj => F.args_object_init_2 obj _) F.entry_enumerate_new
    (meets_enumB B) ⟨h1, ?_⟩
  have hz : (s.heap.push o).objs.size = s.heap.objs.size + 1 := Heap.size_push ..
  show _ ∧ _
  rw [hz]
  have he : IsEnum ((s.heap.push o).push { cls := .type "enumerate", data := .fields #[.none, .bool false, .ref s.heap.objs.size, rawInt 0, .none, .none] }) (s.heap.objs.size + 1) s.heap.objs.size 0 .none := by
    have := Heap.get?_push_size (s.heap.push o) (o := { cls := .type "enumerate", data := .fields #[.none, .bool false, .ref s.heap.objs.size, rawInt 0, .none, .none] }) rfl
    rw [hz] at this; exact this
  refine ⟨⟨_, he, rfl⟩, h _ he (Heap.get?_push_of_some _ (Heap.get?_push_size _ B.free)) (by rw [Heap.size_push, hz]) fun b o x => Heap.get?_push_of_some _ (Heap.get?_push_of_some _ x)⟩
/-- the signs of a text, each in a new pair -/
def ItS (x : Str) : It :=
  ⟨fun i _ => i < x.cps.size, fun i H v H' => ∃ T c, v = .ref T ∧ H T = none ∧ H' = upd H T (.tup [.int (i : Nat), .str ⟨#[c]⟩]) ∧ x.cps[i]? = some c, fun i _ => i = x.cps.size⟩
theorem turn_enumS {P : Program} {w : World} {K : PySem.W.Frag} {elts : List Expr} {kk : Nat} {tpos : Pos} {x : Str} {t : Tok} (e it : Addr) :
    Turn P w K (.Tuple elts kk tpos) (ItS x) [e, it] e (fun i h => (∃ old, IsEnum h e it ((i : Nat) : Int) old) ∧ h.IsStrIter it (strIterType x) x t i ∧ e ≠ it) where
  mem := by simp
  obj := fun i h st b hb => by
    obtain ⟨⟨old, he⟩, ⟨o, ho, hc, hd⟩, _⟩ := st
    have e' : b = e ∨ b = it := by simpa using hb
    rcases e' with z | z
    · rw [z]; exact ⟨_, he, fun v q => nomatch q⟩
    · rw [z]; exact ⟨o, ho, fun v q => by rw [hd] at q; cases q⟩
  keep := fun i h h' st k => let ⟨⟨old, he⟩, ⟨o, ho, hr⟩, hne⟩ := st; ⟨⟨old, k e (by simp) _ he⟩, ⟨o, k it (by simp) o ho, hr⟩, hne⟩
  item := by
    intro X hP hw hK hc i pins s σ H E I hf st hg
    subst hP hw hK
    obtain ⟨⟨old, he⟩, hit, hne⟩ := st
    have hlt : i < x.cps.size := hg
    have hel : e < s.heap.objs.size := Heap.lt_size he
    have hil : it < s.heap.objs.size := by obtain ⟨_, q, _⟩ := hit; exact Heap.lt_size q
    have D : Draws X.prog X.w X.A.in1 it [it] x.cps.size (fun i v => ∃ c u, x.cps[i]? = some c ∧ v = .str ⟨#[c]⟩ u) (fun i h => h.IsStrIter it (strIterType x) x t i) := Draws.text (by show X.A.handled = none; exact I.ok.hd hc) it x t
    refine wpAny_pyNext_enum_itemD D he hit hlt hne (by simp [hne]) fun y h' tk hP ho hst hT hsz hk => ?_
    obtain ⟨c, u, hcu, rfl⟩ := hP
    refine ⟨_, rfl, wpAny_letOwnedTupleGo_enum (s := { s with heap := h', toks := tk + 1 }) ho fun h'' he' sb => ?_⟩
    have hT2 : h''.get? s.heap.objs.size = some { cls := .type "tuple", data := .seq #[.int i tk, .str ⟨#[c]⟩ u] } := (sb.2 _ (Nat.ne_of_gt hel)).trans hT
    have new : ObjOk X.prog X.w (upd H s.heap.objs.size (.tup [.int (i : Nat), .str ⟨#[c]⟩])) h'' s.heap.objs.size (.tup [.int (i : Nat), .str ⟨#[c]⟩]) :=
      ⟨by show 2 ≤ sizeLine; decide, [.int i tk, .str ⟨#[c]⟩ u], .cons ⟨_, rfl⟩ (.cons ⟨_, rfl⟩ .nil), ⟨_, hT2, rfl, _, rfl⟩⟩
    have I1 : Inv X pins σ (upd H s.heap.objs.size (.tup [.int (i : Nat), .str ⟨#[c]⟩])) { s with heap := h'', toks := tk + 1 } :=
      I.turnedNew (ch := [e, it]) (fun b ob hb q => (sb.2 b (fun z => hb (by simp [z]))).trans (hk b ob (fun z => hb (by simp [z])) (fun z => hb (by simp [z])) q)) hf (Nat.le_refl _) new
    refine ⟨.ref s.heap.objs.size, _, I1, rfl, ⟨_, c, rfl, I.hok.fresh (Nat.le_refl _), rfl, hcu⟩, ⟨⟨.str ⟨#[c]⟩ u, ?_⟩, ?_, hne⟩, fun b hb => ?_⟩
    · have e1 : ((i + 1 : Nat) : Int) = (i : Int) + 1 := by omega
      rw [e1]; exact he'
    · obtain ⟨o, q1, q2⟩ := hst
      exact ⟨o, (sb.2 it (Ne.symm hne)).trans q1, q2⟩
    · have hb' : b < s.heap.objs.size := by
        have e' : b = e ∨ b = it := by simpa using hb
        rcases e' with z | z
        · rw [z]; exact hel
        · rw [z]; exact hil
      rw [upd_ne (Nat.ne_of_lt hb')]
      exact (hf b hb).1
  done := by
    intro X hP hw hK hc i pins s σ H E I hf st hg
    subst hP hw hK
    obtain ⟨⟨old, he⟩, hit, hne⟩ := st
    have hi : i = x.cps.size := hg
    subst hi
    obtain ⟨f0, f1, f2, f3, f4, f5⟩ := hf it (by simp)
    have D : Draws X.prog X.w X.A.in1 it [it] x.cps.size (fun i v => ∃ c u, x.cps[i]? = some c ∧ v = .str ⟨#[c]⟩ u) (fun i h => h.IsStrIter it (strIterType x) x t i) := Draws.text (by show X.A.handled = none; exact I.ok.hd hc) it x t
    exact wpAny_pyNext_enum_endD D he hit fun h' eb => ⟨rfl, I.turned (t' := s.toks) (fun b o hb q => eb b o hb q) f0 f1 f3 f4 f5⟩
  self := fun A i s Q E st h => let ⟨⟨_, he⟩, _⟩ := st; wpAny_pyIter_enum he h
def tEnumS (ta : TA) : TI := fun σ H R => ta σ H fun vs H1 => ∃ x, vs = [.str x] ∧ R (ItS x) H1
theorem pi_enumS {X : Cx} {e : Expr} {ta : TA} {p pos tpos : Pos} {elts : List Expr} {kk : Nat} (hg : Gl X "enumerate") (hm : X.mg "enumerate" = none) (ha : PA X [e] ta) (hs : starEach [e] X.env = [(false, eval e X.env)] := by rfl) :
    PI X (.Tuple elts kk tpos) (.Call (.Name "enumerate" p) [e] [] pos) (tEnumS ta) := by
  refine ⟨fun pins s σ H R I h => ?_⟩
  refine Call_ (ld_blt I hg hm boot_enumerate (PyProof.Rows.callWith_type1 (thn (ha.run pos pins s σ H _ I h) fun us s1 ⟨vs, H1, I1, r1, q1⟩ => ?_) hs rfl))
  obtain ⟨x, ex, q⟩ := q1
  subst ex
  cases r1 with
  | cons r rr =>
    cases rr
    obtain ⟨t, rfl⟩ := r
    refine call_enumB (begins_text x t) trivial fun h' he hit hsz hk => wpAny_pyIter_enum he ?_
    have I2 : Inv X pins σ H1 { s1 with heap := h' } := I1.kept (t' := s1.toks) hk
    refine ⟨s1.heap.objs.size + 1, [s1.heap.objs.size + 1, s1.heap.objs.size], _, _, H1, rfl, I2, turn_enumS (x := x) (t := t) (s1.heap.objs.size + 1) s1.heap.objs.size,
      ⟨⟨.none, he⟩, ⟨_, hit, rfl, rfl⟩, Nat.succ_ne_self _⟩, fun b hb => ?_, q⟩
    have e' : b = s1.heap.objs.size + 1 ∨ b = s1.heap.objs.size := by simpa using hb
    have hle : s1.heap.objs.size ≤ b := by
      rcases e' with z | z
      · rw [z]; exact Nat.le_add_right _ _
      · rw [z]; exact Nat.le_refl _
    exact I1.fpOk hle (I1.hok.fresh hle)
def iEnumS (ma : MA) : MI := fun E S => (ma E S).bind fun ds S1 => match ds with
  | [.str z] => .ok ⟨enumD (z.map fun c => .str [c]), none⟩ S1
  | _ => .bad
section
variable {X : Cx} {W : WW X.K} {pos : Pos}
theorem walks_enumS {ρ : List Addr} {H : Hp} {z : Tx} : Walks X.K ρ H ⟨enumD (z.map fun c => D.str [c]), none⟩ (ItS ⟨z.toArray⟩) := by
  intro ρ1 S H1 r e c
  refine ⟨fun i d hd => ?_, by show _ = z.toArray.size; rw [enumD_len]; simp⟩
  obtain ⟨x, hx, rfl⟩ := enumD_get hd
  rw [List.getElem?_map, Option.map_eq_some_iff] at hx
  obtain ⟨c, hc, rfl⟩ := hx
  have hi := (List.getElem?_eq_some_iff.mp hc).1
  refine ⟨by show i < z.toArray.size; simpa using hi, fun y H' hy => ?_⟩
  obtain ⟨T, c2, rfl, hT, rfl, hz⟩ := hy
  have e2 : c2 = c := by
    have h2 : z[i]? = some c2 := by simpa using hz
    rw [hc] at h2; exact (Option.some.inj h2).symm
  subst e2
  exact ⟨r.new hT, Ext.new hT, pair_ok r hT (by simp [DV, sv])⟩
theorem id_enumS {e : Expr} {ma : MA} {p tpos : Pos} {elts : List Expr} {kk : Nat} (hg : Gl X "enumerate") (hm : X.mg "enumerate" = none) (ha : AD X W [e] ma)
    (hs : starEach [e] X.env = [(false, eval e X.env)] := by rfl) : ID X W (.Tuple elts kk tpos) (.Call (.Name "enumerate" p) [e] [] pos) (iEnumS ma) := by
  refine PI.impI (pi_enumS hg hm ha hs) fun σ H R ρ S E r er p => ?_
  refine ⟨ρ, S, E, r, er, (Post.bind (R := DVs X.K) p).imp fun vs H1 ⟨ρ1, S1, ds, r1, e1, d1, p1⟩ => ?_⟩
  split at p1
  · obtain ⟨u, rfl, h1⟩ := dvs1 d1
    rw [dv_str] at h1; subst h1
    exact ⟨_, rfl, p1 ρ1 H1 _ r1 Ext.refl walks_enumS⟩
  · exact p1.elim
end
section
variable {QI : ItD → Sto → Prop} {X : Exn → Sto → Prop} {E : Evn} {S : Sto} {ma : MA}
def OkEnS (ds : List D) (Q : ItD → Prop) (_u : Tg Q Q := .mk) : Prop := match ds with
  | [.str z] => Q ⟨enumD (z.map fun c => .str [c]), none⟩
  | _ => False
theorem w_enumS : OkO (iEnumS ma E S) QI X = OkO (ma E S) (fun ds S1 => OkEnS ds fun i => QI i S1) X := by
  unfold iEnumS; simp only [w_bind]; refine OkO_fun fun ds S1 => ?_
  unfold OkEnS
  split <;> rfl
theorem w_enS {z : Tx} {Q : ItD → Prop} : OkEnS [.str z] Q = Q ⟨enumD (z.map fun c => .str [c]), none⟩ := rfl
end
end PD
namespace PD
open PySem PySem.Spec PyProof PyProof.Rows L2
/-! ### list(text) -/
def rListS : List V → Hp → VK → Prop := fun xs H Q => ∃ x : Str, xs = [.str x] ∧ x.cps.size ≤ sizeLine ∧ ∀ q, H q = none → Q (.ref q) (upd H q (.lst (x.cps.toList.map fun c => V.str ⟨#[c]⟩)))
theorem call_listS {X : Cx} (hc : X.calm = true) : CallR X (.type "list") rListS := by
  intro pins s σ H xs us Q I r h
  obtain ⟨x, e, hz, q⟩ := h
  subst e
  obtain ⟨u, eu, rx⟩ := vals1 r
  subst eu
  obtain ⟨t, rfl⟩ := (show ∃ t, u = Value.str x t from rx)
  refine call_list_str (I.ok.hd hc) x t (fun h' tk acc' c' hkeep hS hacc => ?_) hz
  refine ⟨.ref s.heap.objs.size, upd H s.heap.objs.size (.lst (x.cps.toList.map fun c => V.str ⟨#[c]⟩)), I.laid hkeep (Nat.le_refl _) (show ObjOk X.prog X.w _ _ _ (.lst (x.cps.toList.map fun c => V.str ⟨#[c]⟩)) from ⟨?_, acc'.toList, c', ?_, ?_⟩), rfl, q _ (I.hok.fresh (Nat.le_refl _))⟩
  · rw [List.length_map]; simpa using hz
  · have el : acc'.toList.length = acc'.size := by simp
    refine vals_of_at (by rw [List.length_map, el, hacc.1]; simp) fun j y w h1 h2 => ?_
    obtain ⟨c, u, hcu, rfl⟩ := hacc.2 j w (by rw [← Array.getElem?_toList]; exact h2)
    have e1 : y = V.str ⟨#[c]⟩ := by
      rw [List.getElem?_map] at h1
      have : x.cps.toList[j]? = some c := by rw [Array.getElem?_toList]; exact hcu
      rw [this] at h1
      exact (Option.some.inj h1).symm
    subst e1
    exact ⟨u, rfl⟩
  · simpa using hS
open Classical in
noncomputable def mListS (a : MA) : ME := fun E S => (a E S).bind fun ds S1 => match ds with
  | [.str z] => if sizeOk z.length then .ok (.loc S1.length) (S1 ++ [.lst (z.map fun c => .str [c])]) else .bad
  | _ => .bad
section
variable {X : Cx} {W : WW X.K} {pos : Pos}
theorem dvs_chars {K : PySem.W.Frag} {ρ : List Addr} {H : Hp} : ∀ z : Tx, DVs K ρ H (z.map fun c => D.str [c]) (z.map fun c => V.str ⟨#[c]⟩)
  | [] => by simp [DVs]
  | c :: z => by
    simp only [List.map_cons, DVs]
    exact ⟨_, _, rfl, by simp [DV, sv], dvs_chars z⟩
theorem ed_listS {x : Str} {e : Expr} {p : Pos} {ms : MA} (hx : x = "list") (hc : X.calm = true) (hg : Gl X x) (hm : X.mg x = none) (ha : AD X W [e] ms) (he : starEach [e] X.env = (false, eval e X.env) :: starEach [] X.env := by rfl) (hpl : (backTo pos (starEach [] X.env)).any (·.1) = false := by rfl) :
    ED X W (.Call (.Name x p) [e] [] pos) (mListS ms) := by
  subst hx
  refine ed_of (pe_callTy (es := []) (call_listS hc) hg hm boot_list ha (by decide) (by decide) he hpl) fun σ H Q ρ S E r er p => ?_
  refine ⟨ρ, S, E, r, er, (Post.bind (R := DVs X.K) p).imp fun vs H1 ⟨ρ1, S1, ds, r1, e1, d1, p1⟩ => ?_⟩
  split at p1
  · rename_i z
    obtain ⟨u, rfl, h1⟩ := dvs1 d1
    rw [dv_str] at h1; subst h1
    by_cases hl : sizeOk z.length
    · rw [if_pos hl] at p1
      refine ⟨⟨z.toArray⟩, rfl, by show z.toArray.size ≤ _; rw [List.size_toArray]; exact hl, fun q hq => ?_⟩
      have e1 : (z.toArray.toList.map fun c => V.str ⟨#[c]⟩) = z.map fun c => V.str ⟨#[c]⟩ := by simp
      show Q (.ref q) (upd H1 q (.lst (z.toArray.toList.map fun c => V.str ⟨#[c]⟩)))
      rw [e1]
      exact p1 (ρ1 ++ [q]) _ _ (r1.alloc hq ⟨_, upd_same, dvs_chars z⟩) (Ext.alloc hq) (dv_loc r1)
    · rw [if_neg hl] at p1; exact p1.elim
  · exact p1.elim
end
section
variable {Q : D → Sto → Prop} {X : Exn → Sto → Prop} {E : Evn} {S : Sto} {ma : MA}
def OkLs (ds : List D) (Q : Tx → Prop) (_u : Tg Q Q := .mk) : Prop := match ds with
  | [.str z] => Q z
  | _ => False
theorem w_listS : OkO (mListS ma E S) Q X = OkO (ma E S) (fun ds S1 => OkLs ds fun z => sizeOk z.length ∧ OkN (S1 ++ [.lst (z.map fun c => .str [c])]) fun S2 => Q (.loc S1.length) S2) X := by
  unfold mListS; simp only [w_bind]; refine OkO_fun fun ds S1 => ?_
  unfold OkLs
  split
  · exact w_itebad (inst := Classical.propDecidable _)
  · rfl
theorem w_ls {z : Tx} {Q : Tx → Prop} : OkLs [.str z] Q = Q z := rfl
end
end PD

/-! PyG5: own errors with fields: raised, read, asked for their class. -/
namespace PD
open PySem PySem.Spec PyProof PyProof.Rows L2
/-! ### what the written part says of such a class -/
def oexB (K : PySem.W.Frag) (C : Addr) : Bool := (match K.lookup C with
  | some ⟨.type "type", _, .cls cd, sl⟩ => (match cd.mro, sl.toList with
    | .ref C' :: bm, [_, _, _, _, some (.builtin n), _] => decide (C' = C) && (decide (n = "ValueError.__new__") && (!cd.hasDel && (cd.hasDict && PySem.HandSPX.refsVE bm)))
    | _, _ => false)
  | _ => false) && (decide (PySem.W.findIn K (.ref C) "__setattr__" = some (some (.builtin "object.__setattr__"))) && (decide (PySem.W.subIn K (.ref C) (.type "BaseException") = some true) &&
    (decide (PySem.W.typeIn K (.ref C) = some (.type "type")) && PySem.W.keepIn K (.ref C))))
theorem oexB_ok {K : PySem.W.Frag} {C : Addr} (h : oexB K C = true) : OexC K C := by
  unfold oexB at h
  obtain ⟨h1, h⟩ := He.ba h
  obtain ⟨h2, h⟩ := He.ba h
  obtain ⟨h3, h⟩ := He.ba h
  obtain ⟨h4, h5⟩ := He.ba h
  refine ⟨?_, of_decide_eq_true h2, of_decide_eq_true h3, of_decide_eq_true h4, h5⟩
  split at h1
  · rename_i dd cd sl ho
    split at h1
    · rename_i C' bm k0 k1 k2 k3 n k5 hm hs
      obtain ⟨q1, h1⟩ := He.ba h1
      obtain ⟨q2, h1⟩ := He.ba h1
      obtain ⟨q3, h1⟩ := He.ba h1
      obtain ⟨q4, q5⟩ := He.ba h1
      obtain rfl := of_decide_eq_true q1
      obtain rfl := of_decide_eq_true q2
      obtain ⟨nm, bs, mro, ns, qn, hd, sn, sub, ab, col, del⟩ := cd
      dsimp only at hm q3 q4
      simp only [Bool.not_eq_true'] at q3
      subst hm q3 q4
      have hsl : sl = #[k0, k1, k2, k3, some (.builtin "ValueError.__new__"), k5] := by
        obtain ⟨l⟩ := sl
        simp only at hs
        rw [hs]
      subst hsl
      exact ⟨nm, qn, ns, bs, bm, sn, sub, ab, col, dd, k0, k1, k2, k3, k5, ho, q5⟩
    · cases h1
  · cases h1
/-- a class with such an __init__: fields f1, f2 stored in this order; the dict holds N = [f2, f1] -/
structure ExX (K : PySem.W.Frag) (mg : Str → Option Value) (x : String) (N : List Str) (qual : Str) (params : Arguments) (body : List Stmt) (scope : Scope) (ps : List Str) : Prop where
  g : mg (x : Str) = some (.ref (He.ga K x))
  o : OexC K (He.ga K x)
  no : ∀ f ∈ N, PySem.W.findIn K (.ref (He.ga K x)) f = some none
  made : ∃ fI fd, PySem.W.findIn K (.ref (He.ga K x)) "__init__" = some (some (.ref fI)) ∧ PySem.W.typeIn K (.ref fI) = some (.type "function") ∧ FunD K "__init__" qual params body scope [] [] fI fd ∧ Binds K fd ps []
def spO1 (K : PySem.W.Frag) (C : Addr) (f1 : Str) : Sp := fun vs H Q _ => ∃ (a : Addr) (y1 : V), vs = [.ref a, y1] ∧ OexC K C ∧ PySem.W.findIn K (.ref C) f1 = some none ∧ H a = some (exo a C none) ∧
  ∀ d, H d = none → d ≠ a → Q .non (upd (upd H d (exd d [(f1, y1)])) a (exo a C (some d)))
def spO2 (K : PySem.W.Frag) (C : Addr) (f1 f2 : Str) : Sp := fun vs H Q _ => ∃ (a : Addr) (y1 y2 : V), vs = [.ref a, y1, y2] ∧ OexC K C ∧ PySem.W.findIn K (.ref C) f1 = some none ∧ PySem.W.findIn K (.ref C) f2 = some none ∧ H a = some (exo a C none) ∧
  ∀ d, H d = none → d ≠ a → Q .non (upd (upd (upd H d (exd d [(f1, y1)])) a (exo a C (some d))) d (exd d [(f2, y2), (f1, y1)]))
structure ExF (P : Program) (w : World) (K : PySem.W.Frag) (mg : Str → Option Value) (base : Heap) (x : String) (N : List Str) (sp : Sp) : Prop where
  g : mg (x : Str) = some (.ref (He.ga K x))
  o : OexC K (He.ga K x)
  no : ∀ f ∈ N, PySem.W.findIn K (.ref (He.ga K x)) f = some none
  made : ∃ fI fd ps, PySem.W.findIn K (.ref (He.ga K x)) "__init__" = some (some (.ref fI)) ∧ PySem.W.typeIn K (.ref fI) = some (.type "function") ∧ FnOk P w K mg base CX0 1 fI fd ps sp ∧ Binds K fd ps []
section
variable {P : Program} {w : World} {K : PySem.W.Frag} {mg : Str → Option Value} {base : Heap} {x : String} {qual : Str} {params : Arguments} {body : List Stmt} {scope : Scope} {f1 f2 a1 a2 : Str}
/-- def __init__(self, a1): self.f1 = a1 -/
theorem exF1_of (X : ExX K mg x [f1] qual params body scope ["self", a1]) (Sc : FnScope ["self", a1] ["self", a1] scope)
    (hs : ∀ (cdv : Value) (A : Around) (outer : List Env) (s : Shared) (H : Hp) (E : XK) (f : Addr), PSs (cxOf CX0 P w K mg base ["self", a1] qual scope f cdv A outer s H E) body (tOst K f1 (tVar 0) (tVar 1))) :
    ExF P w K mg base x [f1] (spO1 K (He.ga K x) f1) := by
  obtain ⟨g, o, no, fI, fd, h1, h2, F, B⟩ := X
  refine ⟨g, o, no, fI, fd, _, h1, h2, F.ok Sc (fun vs H Q E h => ?_) (fun cdv A outer s H vs Q E hr h => ?_), B⟩
  · obtain ⟨a, y1, rfl, _⟩ := h
    rfl
  · obtain ⟨a, y1, rfl, o1, n1, ha, q⟩ := h
    refine ⟨_, hs cdv A outer s H E fI, ?_⟩
    refine ⟨y1, rfl, .ref a, rfl, a, He.ga K x, rfl, o1, n1, .inl ⟨ha, fun dx hd hne => ?_⟩⟩
    exact q dx hd hne
theorem exF2_of (X : ExX K mg x [f2, f1] qual params body scope ["self", a1, a2]) (Sc : FnScope ["self", a1, a2] ["self", a1, a2] scope)
    (hs : ∀ (cdv : Value) (A : Around) (outer : List Env) (s : Shared) (H : Hp) (E : XK) (f : Addr), PSs (cxOf CX0 P w K mg base ["self", a1, a2] qual scope f cdv A outer s H E) body (tSeq (tOst K f1 (tVar 0) (tVar 1)) (tOst K f2 (tVar 0) (tVar 2)))) :
    ExF P w K mg base x [f2, f1] (spO2 K (He.ga K x) f1 f2) := by
  obtain ⟨g, o, no, fI, fd, h1, h2, F, B⟩ := X
  refine ⟨g, o, no, fI, fd, _, h1, h2, F.ok Sc (fun vs H Q E h => ?_) (fun cdv A outer s H vs Q E hr h => ?_), B⟩
  · obtain ⟨a, y1, y2, rfl, _⟩ := h
    rfl
  · obtain ⟨a, y1, y2, rfl, o1, n1, n2, ha, q⟩ := h
    refine ⟨_, hs cdv A outer s H E fI, ?_⟩
    refine ⟨y1, rfl, .ref a, rfl, a, He.ga K x, rfl, o1, n1, .inl ⟨ha, fun dx hd hne => ?_⟩⟩
    refine ⟨y2, rfl, .ref a, rfl, a, He.ga K x, rfl, o1, n2, .inr ⟨dx, [(f1, y1)], upd_same, ?_, by simp, ?_⟩⟩
    · rw [upd_ne hne, upd_same]
    · exact q dx hd hne
end
end PD
namespace PD
open PySem PySem.Spec PyProof PyProof.Rows L2
/-- raise X(..): the fields stand in the dict behind one another, the last one first -/
def mRaiseF (x : String) (N : List Str) (a : MA) : MS := fun E S => (a E S).toS E fun ds S1 => .ex ⟨.own x, some (N, ds.reverse)⟩ E S1
theorem dic_end {H : Hp} {a d C : Addr} {fs gs : List (Str × V)} (ha : H a = none) (hda : d ≠ a) : upd (del (upd (upd (upd H a (exo a C none)) d (exd d gs)) a (exo a C (some d))) a) d (.xd fs) = upd H d (.xd fs) := by
  funext b
  by_cases h1 : b = d
  · subst h1; rw [upd_same, upd_same]
  · rw [upd_ne h1, upd_ne h1]
    by_cases h2 : b = a
    · subst h2; rw [del_same, ha]
    · rw [del_ne h2, upd_ne h2, upd_ne h1, upd_ne h2]
theorem dic_end2 {H : Hp} {a d C : Addr} {fs gs hs : List (Str × V)} (ha : H a = none) (hda : d ≠ a) : upd (del (upd (upd (upd (upd H a (exo a C none)) d (exd d gs)) a (exo a C (some d))) d (exd d hs)) a) d (.xd fs) = upd H d (.xd fs) := by
  funext b
  by_cases h1 : b = d
  · subst h1; rw [upd_same, upd_same]
  · rw [upd_ne h1, upd_ne h1]
    by_cases h2 : b = a
    · subst h2; rw [del_same, ha]
    · rw [del_ne h2, upd_ne h1, upd_ne h2, upd_ne h1, upd_ne h2]
section
variable {X : Cx} {W : WW X.K} {pos : Pos} {x : String} {f1 f2 : Str} {e e2 : Expr} {es : List Expr} {ma : MA} {p p2 : Pos}
theorem dvs_one {K : PySem.W.Frag} {ρ : List Addr} {H : Hp} {ds : List D} {vs : List V} (h : DVs K ρ H ds vs) (hl : ds.length = 1) : ∃ d v, ds = [d] ∧ vs = [v] ∧ DV K ρ H d v := by
  match ds, hl with
  | [d], _ => obtain ⟨v, rfl, h1⟩ := dvs1 h; exact ⟨d, v, rfl, rfl, h1⟩
theorem dvs_two {K : PySem.W.Frag} {ρ : List Addr} {H : Hp} {ds : List D} {vs : List V} (h : DVs K ρ H ds vs) (hl : ds.length = 2) : ∃ d d2 v v2, ds = [d, d2] ∧ vs = [v, v2] ∧ DV K ρ H d v ∧ DV K ρ H d2 v2 := by
  match ds, hl with
  | [d, d2], _ => obtain ⟨v, v2, rfl, h1, h2⟩ := dvs2 h; exact ⟨d, d2, v, v2, rfl, rfl, h1, h2⟩
theorem sd_raiseF1 (c : ExF X.prog X.w X.K X.mg X.base x [f1] (spO1 X.K (He.ga X.K x) f1)) (hc : X.calm = true) (hr : Room 2 X.A) (tk : Takes X W.w) (hg : Gl X (x : Str)) (ha : AD X W [e] ma) (hl : ∀ E S ds S', ma E S = .ok ds S' → ds.length = 1)
    (hdb : ((x : Str) == ("__debug__" : Str)) = false := by decide) (he : starEach [e] X.env = (false, eval e X.env) :: starEach [] X.env := by rfl) (hpl : (backTo p2 (starEach [] X.env)).any (·.1) = false := by rfl) :
    SD X W (.Raise (some (.Call (.Name (x : Str) p) [e] [] p2)) none pos) (mRaiseF x [f1] ma) := by
  obtain ⟨g, o, no, fI, fd, ps, h1, h2, F, B⟩ := c
  refine sd_of (ps_raise hc tk (pmk_oex o h1 h2 F hr B .nil (pass0 (X := X)) hg g ha hdb he hpl)) fun D σ H ρ S E r er p => ?_
  refine ⟨ρ, S, E, r, er, ?_⟩
  unfold mRaiseF at p
  cases q : ma E S with
  | bad => rw [q] at p; exact p.elim
  | ex e S' => rw [q] at p; exact fun ρ' H' c dx r' x' xr => p ρ' H' σ c dx r' x' (er.mono x') xr
  | ok ds S1 =>
    rw [q] at p
    have hn := hl E S ds S1 q
    intro ρ1 H1 vs r1 x1 d1
    obtain ⟨dd, v, rfl, rfl, hv⟩ := dvs_one d1 hn
    refine ⟨by simp, fun a hfa => ?_⟩
    refine ⟨a, v, rfl, o, no f1 (by simp), upd_same, fun d hd hne => ?_⟩
    have hd1 : H1 d = none := by rw [upd_ne hne] at hd; exact hd
    refine ⟨rfl, d, [(f1, v)], upd_same, by rw [upd_ne hne, upd_same], hd1, ?_⟩
    rw [dic_end hfa hne]
    refine p ρ1 _ σ _ _ (r1.new hd1) (x1.trans (Ext.new hd1)) ((er.mono x1).mono (Ext.new hd1)) ⟨rfl, d, [v], rfl, ?_, ?_⟩
    · rw [upd_same]; rfl
    · exact DVs.one (DV.mono (Ext.new hd1) _ _ hv)
theorem sd_raiseF2 (c : ExF X.prog X.w X.K X.mg X.base x [f2, f1] (spO2 X.K (He.ga X.K x) f1 f2)) (hc : X.calm = true) (hr : Room 2 X.A) (tk : Takes X W.w) (hg : Gl X (x : Str)) (ha : AD X W (e :: es) ma) (hl : ∀ E S ds S', ma E S = .ok ds S' → ds.length = 2)
    (hdb : ((x : Str) == ("__debug__" : Str)) = false := by decide) (he : starEach (e :: es) X.env = (false, eval e X.env) :: starEach es X.env := by rfl) (hpl : (backTo p2 (starEach es X.env)).any (·.1) = false := by rfl) :
    SD X W (.Raise (some (.Call (.Name (x : Str) p) (e :: es) [] p2)) none pos) (mRaiseF x [f2, f1] ma) := by
  obtain ⟨g, o, no, fI, fd, ps, h1, h2, F, B⟩ := c
  refine sd_of (ps_raise hc tk (pmk_oex o h1 h2 F hr B .nil (pass0 (X := X)) hg g ha hdb he hpl)) fun D σ H ρ S E r er p => ?_
  refine ⟨ρ, S, E, r, er, ?_⟩
  unfold mRaiseF at p
  cases q : ma E S with
  | bad => rw [q] at p; exact p.elim
  | ex e S' => rw [q] at p; exact fun ρ' H' c dx r' x' xr => p ρ' H' σ c dx r' x' (er.mono x') xr
  | ok ds S1 =>
    rw [q] at p
    have hn := hl E S ds S1 q
    intro ρ1 H1 vs r1 x1 d1
    obtain ⟨dd, dd2, v, v2, rfl, rfl, hv, hv2⟩ := dvs_two d1 hn
    refine ⟨by simp, fun a hfa => ?_⟩
    refine ⟨a, v, v2, rfl, o, no f1 (by simp), no f2 (by simp), upd_same, fun d hd hne => ?_⟩
    have hd1 : H1 d = none := by rw [upd_ne hne] at hd; exact hd
    refine ⟨rfl, d, [(f2, v2), (f1, v)], by rw [upd_ne (Ne.symm hne), upd_same], upd_same, hd1, ?_⟩
    rw [dic_end2 hfa hne]
    refine p ρ1 _ σ _ _ (r1.new hd1) (x1.trans (Ext.new hd1)) ((er.mono x1).mono (Ext.new hd1)) ⟨rfl, d, [v2, v], rfl, ?_, ?_⟩
    · rw [upd_same]; rfl
    · show DVs X.K ρ1 _ [dd2, dd] [v2, v]
      simp only [DVs]
      exact ⟨v2, [v], rfl, DV.mono (Ext.new hd1) _ _ hv2, v, [], rfl, DV.mono (Ext.new hd1) _ _ hv, rfl⟩
end
/-! ### a field of the caught error -/
open Classical in
noncomputable def mExF (e : Exn) (x : String) (N : List Str) (i : Nat) : ME := fun _ S => match e.fs with
  | some (N', ds) => if e.cls = .own x ∧ N' = N then (match ds[i]? with
    | some d => .ok d S
    | none => .bad) else .bad
  | none => .bad
section
variable {X : Cx} {W : WW X.K} {pos : Pos}
theorem ed_exf {e : Exn} {d : Option Addr} {a : Addr} {oe : Obj} {pn : List (Addr × Obj)} {i j : Nat} {c : String} {N : List Str} {f : Str} {en : Expr} (hz : Zc (e.cls.val X.K) d oe) (hv : ∃ vs, oe.data = .fields vs) (T : XfC X.K (He.ga X.K c))
    (hN : N.Nodup) (hi : N[j]? = some f) (hno : PySem.W.findIn X.K (.ref (He.ga X.K c)) f = some none) (hn : PE (X.suite a ((a, oe) :: pn)) en (tVar i)) (hb : attributeBase en f X.env (eval en X.env) = eval en X.env := by rfl) :
    ED (X.suite a ((a, oe) :: pn)) (WS X W e (e.cls.val X.K) d (some (i, a)) : WW X.K) (.Attribute en f pos) (mExF e c N j) := by
  refine ⟨fun pins s σ H Q I h => ?_⟩
  obtain ⟨ρ, S, E, r, er, q⟩ := h
  unfold mExF at q
  cases q1 : e.fs with
  | none => rw [q1] at q; exact q.elim
  | some fs =>
    rw [q1] at q
    obtain ⟨N', ds⟩ := fs
    simp only at q
    by_cases hc : e.cls = .own c ∧ N' = N
    · rw [if_pos hc] at q
      obtain ⟨hcl, rfl⟩ := hc
      cases q2 : ds[j]? with
      | none => rw [q2] at q; exact q.elim
      | some d2 =>
        rw [q2] at q
        have h1 := er.1.1.2
        rw [q1] at h1
        obtain ⟨dd, vs, hd, hx, dv⟩ := h1
        obtain ⟨v, hv2, dv2⟩ := dv.get q2
        rw [hcl] at hz
        refine (pe_xf (X := X) (te := tVar i) (cls := .ref (He.ga X.K c)) (d := d) T hno hz hv hn hb).run pins s σ H Q I ?_
        exact ⟨.ref a, er.2.1 i a rfl, rfl, rfl, dd, _, v, hd, hx, by rw [zip_lookup hN hi]; exact hv2, q ρ H v r Ext.refl dv2⟩
    · rw [if_neg hc] at q; exact q.elim
end
/-! ### isinstance of a caught error that has a dict -/
end PD
namespace PySem.W
open PySem PySem.Spec PySem.Calls PyProof.Rows
section
variable {prog : Program} {w : World} {A : Around} {E : Value → Shared → Prop} {s : Shared} {K : Frag} {x D : Addr} {ox oD : Obj}
theorem kin_classD {Q : Option Value → Shared → Prop} (hga : findIn K (.ref D) "__getattribute__" = some (some (.builtin "BaseException.__getattribute__"))) (hgt : findIn K (.ref D) "__getattr__" = some none) (hsub : subIn K (.ref D) (.type "BaseException") = some true)
    (hdct : hasDictIn K D = true) (ha : findIn K (.ref D) "__class__" = some (some (.builtin "object.__class__")))
    (hn : specialIn K (.builtin "object.__class__") "__get__" = some (some (.builtin "getset_descriptor.__get__"))) (htk : takesIn K (.builtin "object.__class__") = some true) (hm : mroIn K D (.type "object") = some true)
    (X : K.In s.heap) (I : InstAt s.heap x ox D (some oD)) (h : Q (some (.ref D)) { s with toks := s.toks + 1 }) : wpAny (model prog w) A (getAttr? (.ref x) "__class__") Q E s := by
  have hf : findObj K D (some oD) "__class__" = some (.bind (.builtin "getset_descriptor.__get__") (.builtin "object.__class__")) := findObj_data (by obtain ⟨cd, hc, _⟩ := any_some hdct; rw [hc]; rfl) ha hn htk
  obtain ⟨hp, g, d, t, os⟩ := s
  have L0 := I.type (M := model prog w)
  have L1 := looks_findIn (M := model prog w) X hga
  have L2 := looks_findIn (M := model prog w) X hgt
  have L3 := looks_find (M := model prog w) X I hf
  have sub : Looks (model prog w) hp (isInstance (.ref x) (.type "BaseException")) true := L0.andThen (looks_subIn X hsub)
  have hx0 : (false && onTheHeap (Value.builtin "BaseException.__getattribute__")) = false := rfl
  have hx2 : (Value.builtin "BaseException.__getattribute__" == Value.builtin "object.__getattribute__") = false := by decide +kernel
  have hx1 : (onTheHeap (Value.ref D) && Value.builtin "BaseException.__getattribute__" == Value.builtin "object.__getattribute__") = false := by rw [hx2]; rfl
  unfold getAttr? getAttrBy? getAttrBy
  refine wpAny_bind (wpAny_mkText (wpAny_bind (wpAny_attempt (wpAny_holding (wpAny_bind (L0.at (wpAny_bind (L1.at ?_))))))))
  show wpAny _ _ (if (onTheHeap (Value.ref D) && Value.builtin "BaseException.__getattribute__" == Value.builtin "object.__getattribute__") = true then _ else _) _ _ _
  rw [hx1, if_neg Bool.false_ne_true]
  unfold getAttrByItsOwn hookBefore
  refine wpAny_bind ?_
  rw [if_pos (show onTheHeap (Value.ref D) = true from rfl)]
  refine L2.at ?_
  refine wpAny_bind (wpAny_attempt (wpAny_holding ?_))
  unfold callGetattribute
  rw [hx0, if_neg Bool.false_ne_true]
  unfold boundAndCalled
  rw [PySem.F.excAttr_ValueError.ga.bind (.ref x)]
  refine wpAny_bind (wpAny_pure ?_)
  show wpAny _ _ (call (.builtin "BaseException.__getattribute__") [.ref x, .str "__class__" t]) _ _ _
  refine wpAny_call (codeAny_call_builtin PySem.F.excAttr_ValueError.ga.plain PySem.F.entry_bexc_ga ?_)
  refine @check_slot (model prog w) _ _ ⟨hp, g, d, t + 1, os⟩ "BaseException.__getattribute__" "BaseException" "__getattribute__" (.ref x) [.str "__class__" t] [] _ (by decide +kernel) (by decide +kernel) sub (PySem.F.args_bexc_ga (.ref x) (.str "__class__" t)) ?_
  unfold Builtin.«object.__getattribute__»
  refine wpAny_bind (wpAny_of_eq (a := ((Value.ref x : Value), [Value.str "__class__" t])) (by first | rfl | (simp only [slotArgs]; rfl)) ?_)
  refine wpAny_bind (wpAny_pure (wpAny_bind (L0.at (wpAny_bind (L3.at ?_)))))
  show wpAny _ _ (holding [Value.builtin "object.__class__"] (call (.builtin "getset_descriptor.__get__") [.builtin "object.__class__", .ref x, .ref D]) >>= ret) _ _ _
  refine wpAny_bind (wpAny_holding (wpAny_call (class_get (s := ⟨hp, g, d, t + 1, os⟩) (ox := ox) (od := some oD) X I hm ?_)))
  refine wpAny_pure ?_
  show wpAny _ _ (handedOut (.ref D)) _ _ _
  rw [handedOut_of (v := .ref D) rfl]
  first
    | exact wpAny_pure (wpAny_pure h)
    | exact wpAny_pure h
    | exact wpAny_pure (wpAny_bind (wpAny_pure (wpAny_pure h)))
theorem handS_kitx_excD (hga : findIn K (.ref D) "__getattribute__" = some (some (.builtin "BaseException.__getattribute__"))) (hgt : findIn K (.ref D) "__getattr__" = some none) (hsub : subIn K (.ref D) (.type "BaseException") = some true) (hdct : hasDictIn K D = true) (ha : findIn K (.ref D) "__class__" = some (some (.builtin "object.__class__")))
    (hn : specialIn K (.builtin "object.__class__") "__get__" = some (some (.builtin "getset_descriptor.__get__"))) (htk : takesIn K (.builtin "object.__class__") = some true) (hm : mroIn K D (.type "object") = some true) :
    KitX K (.ref x) (.ref D) (fun h => InstAt h x ox D (some oD)) where
  ty := fun _ _ _ I => I.type
  it := fun _ _ X _ => by
    obtain ⟨cdD, hcD, _⟩ := any_some hdct
    unfold clsIn at hcD
    split at hcD
    · rename_i c' d' cd' sl' ho
      intro A' Q' E' s' k q
      unfold isType loadHead
      exact wpAny_bind (wpAny_loadPart (k _ _ (X _ _ ho)) (wpAny_pure q))
    · cases hcD
  ne := fun h tp dd its n sl X htp => by
    obtain ⟨cdD, hcD, _⟩ := any_some hdct
    refine Bool.eq_false_iff.mpr fun q => ?_
    have e : D = tp := Value.ref.inj (beq_iff_eq.mp q)
    subst e
    unfold clsIn at hcD
    split at hcD
    · rename_i c' d' cd' sl' ho
      have z := (X _ _ ho).symm.trans htp
      cases z
    · cases hcD
  ca := fun X I k => kin_classD hga hgt hsub hdct ha hn htk hm X I k
end
end PySem.W
namespace PD
open PySem PySem.Spec PyProof PyProof.Rows L2
def rIsDx (K : PySem.W.Frag) (D a dd : Addr) : List V → Hp → VK → Prop := fun xs H Q => ∃ (c : V) (cv : Value) (b : Bool) (fs : List (Str × V)), xs = [.ref a, c] ∧ (∀ u, RelV c u → u = cv) ∧ PySem.W.kitOne K (.ref D) cv = some b ∧ H dd = some (.xd fs) ∧ Q (.bl b) H
theorem call_isD {X : Cx} {a D dd : Addr} {oe : Obj} {pn : List (Addr × Obj)} (C : ExcC X.K D) (hz : Zc (.ref D) (some dd) oe) (hf : ∃ vs, oe.data = .fields vs) : CallR (X.suite a ((a, oe) :: pn)) (.builtin "isinstance") (rIsDx X.K D a dd) := by
  intro pins s σ H xs us Q I r h
  obtain ⟨c, cv, b, fs, rfl, hcv, e, hx, q⟩ := h
  cases r with
  | cons rx rr =>
    cases rr with
    | cons rt rr =>
      cases rr
      cases rx
      have ec := hcv _ rt
      subst ec
      obtain ⟨hget, _⟩ := I.pin (a, oe) (List.mem_append.mpr (.inl List.mem_cons_self))
      obtain ⟨vs, hv⟩ := hf
      have hx2 : ObjOk X.prog X.w H s.heap dd (.xd fs) := I.hok dd _ hx
      obtain ⟨mA, hns, hr⟩ := hx2
      obtain ⟨od, ho, hl⟩ := lookIn_ns hns
      have J : PySem.W.InstAt s.heap a oe D (some od) := ⟨hget, hz.1, by unfold PySem.W.notCls; rw [hv] <;> rfl, by rw [hz.2]; exact ho⟩
      exact PySem.W.kia_one (PySem.W.handS_kitx_excD C.hg C.hk C.hs C.hd C.ha C.hn C.ht C.hm) I.kIn J e (fun z => nomatch z) fun tk => ⟨.bl b, H, I.kept (t' := tk) fun _ _ z => z, rfl, q⟩
/-- isinstance of a caught error with fields, by a table -/
def mExIsD (e : Exn) (tbl : List (String × Bool)) : ME := fun _ S => match e.fs with
  | none => .bad
  | some _ => (match takesE tbl e with
    | some b => .ok (.bl b) S
    | none => .bad)
structure IsOkV (K : PySem.W.Frag) (cv : Value) (tbl : List (String × Bool)) : Prop where
  all : ∀ p ∈ tbl, ExcC K (He.ga K p.1) ∧ PySem.W.kitOne K (.ref (He.ga K p.1)) cv = some p.2
section
variable {X : Cx} {W : WW X.K} {pos : Pos}
theorem ed_exisD {e : Exn} {d : Option Addr} {a : Addr} {oe : Obj} {pn : List (Addr × Obj)} {i : Nat} {cV : V} {cv : Value} {tbl : List (String × Bool)} {en ec : Expr} {p : Pos} (hz : Zc (e.cls.val X.K) d oe) (hv : ∃ vs, oe.data = .fields vs) (ht : IsOkV X.K cv tbl)
    (hg : Gl X "isinstance") (hm : X.mg "isinstance" = none) (hn : PE (X.suite a ((a, oe) :: pn)) en (tVar i)) (hc : PE (X.suite a ((a, oe) :: pn)) ec (tC cV)) (hcv : ∀ u, RelV cV u → u = cv)
    (hs1 : starEach (en :: [ec]) X.env = (false, eval en X.env) :: starEach [ec] X.env := by rfl) (hs2 : starEach (ec :: []) X.env = (false, eval ec X.env) :: starEach [] X.env := by rfl) (hpl : (backTo pos (starEach [ec] X.env)).any (·.1) = false := by rfl) :
    ED (X.suite a ((a, oe) :: pn)) (WS X W e (e.cls.val X.K) d (some (i, a)) : WW X.K) (.Call (.Name "isinstance" p) [en, ec] [] pos) (mExIsD e tbl) := by
  refine ⟨fun pins s σ H Q I h => ?_⟩
  obtain ⟨ρ, S, E, r, er, q⟩ := h
  unfold mExIsD at q
  cases q1 : e.fs with
  | none => rw [q1] at q; exact q.elim
  | some fs =>
    rw [q1] at q
    cases q2 : takesE tbl e with
    | none => rw [q2] at q; exact q.elim
    | some b =>
      rw [q2] at q
      obtain ⟨y, hy, hmem⟩ := takesE_some q2
      obtain ⟨hC, hk⟩ := ht.all _ hmem
      have h1 := er.1.1.2
      rw [q1] at h1
      obtain ⟨dd, vs, hd, hx, dv⟩ := h1
      subst hd
      rw [hy] at hz
      have C : CallR (X.suite a ((a, oe) :: pn)) (.builtin "isinstance") (rIsDx X.K (He.ga X.K y) a dd) := call_isD hC hz hv
      refine PE.run (pe_callB (X := X.suite a ((a, oe) :: pn)) C hg hm boot_isinstance (pa_cons (X := X.suite a ((a, oe) :: pn)) hn (pa_cons (X := X.suite a ((a, oe) :: pn)) hc pa_nil hs2) hs1) (he := hs1) (hpl := hpl)) pins s σ H Q I ?_
      refine ⟨.ref a, er.2.1 i a rfl, ?_⟩
      exact ⟨cV, cv, b, _, rfl, hcv, hk, hx, q ρ H _ r Ext.refl (by simp [DV])⟩
end
/-! ### weakest preconditions -/
section
variable {Q : D → Sto → Prop} {N B C : EC} {R : D → Sto → Prop} {X : Exn → Sto → Prop} {XE : Exn → EC} {E : Evn} {S : Sto} {ma : MA} {x : String} {F : List Str} {i : Nat}
theorem w_raiseF : OkS (mRaiseF x F ma E S) N R XE B C = OkO (ma E S) (fun ds S1 => XE ⟨.own x, some (F, ds.reverse)⟩ E S1) (fun e S1 => XE e E S1) := by
  unfold mRaiseF; exact w_toS.trans rfl
theorem w_exf {ds : List D} : OkO (mExF ⟨.own x, some (F, ds)⟩ x F i E S) Q X = OkP ds[i]? fun d => Q d S := by
  unfold mExF
  simp only [and_self, if_true]
  cases ds[i]? <;> rfl
theorem w_exisD {tbl : List (String × Bool)} {p : List Str × List D} : OkO (mExIsD ⟨.own x, some p⟩ tbl E S) Q X = OkP (takesE tbl ⟨.own x, some p⟩) fun b => Q (.bl b) S := by
  unfold mExIsD
  simp only
  cases takesE tbl ⟨.own x, some p⟩ <;> rfl
theorem w_trimX {o : Out D} (h : OkO o (fun d S' => ∃ T, S' = S ++ T ∧ lb S.length d = true ∧ Q d S) (fun e S' => lbE S.length e ∧ ∃ T, S' = S ++ T ∧ X e S)) : OkO (trim S o) Q X := by
  cases o with
  | ok d S' =>
    obtain ⟨T, rfl, h1, h2⟩ := h
    rw [trim_ok h1]
    exact h2
  | ex e S' =>
    obtain ⟨h0, T, rfl, h2⟩ := h
    unfold trim
    simp only
    rw [if_pos ⟨by simp, h0⟩]
    exact h2
  | bad => exact h
end
end PD
namespace PD
open PySem PySem.Spec PyProof PyProof.Rows L2
section
variable {P : Program} {w : World} {K : PySem.W.Frag} {mg : Str → Option Value} {base : Heap} {k : Nat}
theorem callF_zeroN {x : Str} {params : Arguments} {body : List Stmt} {scope : Scope} {ps : List Str} {n : Nat} (F : FD K mg x params body scope ps) : CallF P w K mg base k x n (fun _ _ => .bad) := by
  obtain ⟨f, fd, F, hm, b⟩ := F.ex
  have no : ∀ vs H Q E, ¬ spM K n (fun _ _ => .bad) vs H Q E := fun vs H Q E h => by
    obtain ⟨ρ, S, ds, r, dv, hl, p⟩ := h
    exact p
  exact ⟨f, fd, ps, ⟨fun vs H Q E h => absurd h (no vs H Q E), fun A outer s H args us vs Q E _ _ _ _ h => absurd h (no vs H Q E)⟩, hm, F.kp, b⟩
theorem callG_zeroN {R : Addr → Prop} {x qual : Str} {params : Arguments} {body : List Stmt} {scope : Scope} {ps : List Str} {n : Nat} (F : FG R K x qual params body scope ps) : CallG R P w K mg base k n (fun _ _ => .bad) := by
  obtain ⟨f, fd, F, hm, b⟩ := F.ex
  have no : ∀ vs H Q E, ¬ spM K n (fun _ _ => .bad) vs H Q E := fun vs H Q E h => by
    obtain ⟨ρ, S, ds, r, dv, hl, p⟩ := h
    exact p
  exact ⟨f, fd, ps, ⟨fun vs H Q E h => absurd h (no vs H Q E), fun A outer s H args us vs Q E _ _ _ _ h => absurd h (no vs H Q E)⟩, hm, b⟩
end
theorem lv_ge : ∀ k, 2 ≤ lv k
  | 0 => Nat.le_refl _
  | k + 1 => by have := lv_ge k; show 2 ≤ lv k + 2; omega
end PD
namespace PD
open PySem PySem.Spec PyProof PyProof.Rows L2
def kitVB (K : PySem.W.Frag) (x : String) (cv : Value) (b : Bool) : Bool := decide (PySem.W.kitOne K (.ref (He.ga K x)) cv = some b)
theorem kitVB_ok {K : PySem.W.Frag} {x : String} {cv : Value} {b : Bool} (h : kitVB K x cv b = true) : PySem.W.kitOne K (.ref (He.ga K x)) cv = some b := of_decide_eq_true h
end PD

/-! PyG6: x.index(y) over lists of flat items; a token given out to the left of an operator, and ahead in a row. -/
namespace PD
open PySem PySem.Spec PyProof PyProof.Rows L2
/-! ### index -/
def gIdx (S : Sto) (x : D) (ds : List D) : Option D := match ds with
  | [y] => (match seqF S x with
    | some l => if flD y = true ∧ l.all flD = true then (l.findIdx? fun z => teq z y).map fun j => .int (j : Nat) else none
    | none => none)
  | _ => none
noncomputable def mIdx (o : ME) (a : MA) : ME := fun E S => (o E S).bind fun x S1 => match seqF S1 x with
  | some _ => (a E S1).bind fun ds S2 => (match gIdx S2 x ds with
    | some d => .ok d S2
    | none => .bad)
  | none => .bad
theorem fl_idx {K : PySem.W.Frag} {ρ : List Addr} {H : Hp} {y : D} {w : V} (fy : flD y = true) (dy : DV K ρ H y w) : ∀ {l : List D} {us : List V} {j : Nat}, l.all flD = true → DVs K ρ H l us → l.findIdx? (fun z => teq z y) = some j →
    us.all flatV = true ∧ ∃ z, us[j]? = some z ∧ eqV z w = true ∧ ∀ (m : Nat) (z' : V), m < j → us[m]? = some z' → eqV z' w = false
  | [], us, j, f, h, q => by simp at q
  | x :: l, us, j, f, h, q => by
    simp only [DVs] at h
    obtain ⟨u, r, rfl, h1, h2⟩ := h
    simp only [List.all_cons, Bool.and_eq_true] at f
    obtain ⟨c, e⟩ := fl_eq f.1 fy h1 dy
    have ha : r.all flatV = true := (fl_in fy dy f.2 h2).1
    rw [List.findIdx?_cons] at q
    cases hx : teq x y with
    | true =>
      rw [hx, if_pos rfl] at q
      cases q
      exact ⟨by simp [c, ha], u, rfl, by rw [e, hx], fun m z' hm => absurd hm (by omega)⟩
    | false =>
      rw [hx, if_neg (by simp)] at q
      cases hq : l.findIdx? (fun z => teq z y) with
      | none => rw [hq] at q; simp at q
      | some i =>
        rw [hq] at q
        simp only [Option.map_some, Option.some.injEq] at q
        subst q
        obtain ⟨a1, z, a2, a3, a4⟩ := fl_idx fy dy f.2 h2 hq
        refine ⟨by simp [c, a1], z, by simpa using a2, a3, ?_⟩
        intro m z' hm hz
        cases m with
        | zero => simp at hz; rw [← hz, e, hx]
        | succ m => exact a4 m z' (by omega) (by simpa using hz)
section
variable {X : Cx} {W : WW X.K} {pos : Pos} {o e a b : Expr} {es : List Expr} {mo m ma mb : ME} {mas ms : MA} {apos : Pos} {g : Sto → D → D → Option D}
theorem ed_idx (ho : ED X W o mo) (ha : AD X W (e :: es) mas)
    (hbase : attributeBase o "index" X.env (eval o X.env) = eval o X.env := by rfl)
    (hfew : ((backTo pos (starEach (e :: es) X.env)).all (fun x => !x.1) && (backToKw pos (keywordEach [] X.env)).all (fun x => x.1.isSome)
      && decide ((e :: es).length + ([] : List Keyword).length + (if ([] : List Keyword).isEmpty then 0 else 1) < 30)) = true := by rfl)
    (hline : (apos.endLine == pos.line) = true := by rfl) (hs : starEach (e :: es) X.env = (false, eval e X.env) :: starEach es X.env := by rfl) (hplain : (backTo pos (starEach es X.env)).any (·.1) = false := by rfl) :
    ED X W (.Call (.Attribute o "index" apos) (e :: es) [] pos) (mIdx mo mas) := by
  refine ed_of (pe_bm (T := "list") (PySem.F.plainAttrs_list) PySem.F.slot_list_index PySem.F.type_list_index mt_index ho ha hbase hfew hline hs hplain) fun σ H Q ρ S E r0 er p => ?_
  refine ⟨ρ, S, E, r0, er, (Post.bind (R := DV X.K) p).imp fun x H1 ⟨ρ1, S1, d, r1, e1, d1, p1⟩ => ?_⟩
  cases hq : seqF S1 d with
  | none => rw [hq] at p1; exact p1.elim
  | some l1 =>
    obtain ⟨ad, vs, rfl, sq, dvs⟩ := seqF_ok r1 d1 hq
    rw [hq] at p1
    refine ⟨.inl ⟨rfl, vs, sq⟩, ρ1, S1, E, r1, er.mono e1, (Post.bind (R := DVs X.K) p1).imp fun ws H2 ⟨ρ2, S2, ds, r2, e2, d2, p2⟩ => ?_⟩
    obtain ⟨u, hu, q⟩ := post_opt p2
    unfold gIdx at hu
    split at hu
    · rename_i y
      cases hq2 : seqF S2 d with
      | none => rw [hq2] at hu; cases hu
      | some l =>
        obtain ⟨ad2, us, e3, sq2, dvs2⟩ := seqF_ok r2 (DV.mono e2 _ _ d1) hq2
        cases e3
        rw [hq2] at hu
        simp only at hu
        split at hu
        · rename_i hf
          obtain ⟨w, rfl, h2⟩ := dvs1 d2
          rw [Option.map_eq_some_iff] at hu
          obtain ⟨j, hj, rfl⟩ := hu
          obtain ⟨a1, z, a2, a3, a4⟩ := fl_idx hf.1 h2 hf.2 dvs2 hj
          refine ⟨ad, us, w, j, z, rfl, rfl, sq2, ?_, a1, a2, a3, a4, ?_⟩
          · exact (fl_eq hf.1 hf.1 h2 h2).1
          · exact q ρ2 H2 _ r2 Ext.refl (by simp [DV])
        · cases hu
    · cases hu
/-! ### tokens -/
theorem ed_binK {op : Operator} {r : R2} (ho : OpR X (binaryOp op) r) (hr : ∀ x y H Q, rP X.K g x y H Q → r x y H Q) (ha : EKD X W a ma) (hb : EDT X W b mb) : ED X W (.BinOp a op b pos) (mBin g ma mb) := by
  refine ⟨?_⟩
  rintro pins s σ H Q I ⟨ρ, S, E, re, er, p⟩
  have h := bin_read (W := W) hr σ H Q ρ S E re er p
  refine wpAny_BinOp (wpAny_mono (ha.run pins s σ H _ I h) (fun v s1 q => ?_) fun _ _ z => z)
  obtain ⟨hk, x, H1, I1, r1, q1⟩ := q
  exact thn (hb pins s1 σ H1 _ hk I1 q1) fun u s2 ⟨y, H2, I2, r2, q2⟩ => ho pins s2 σ H2 x y v u Q I2 r1 r2 q2
theorem ad_consK (h : EKD X W e m) (hr : ADT X W es ms) (hs : starEach (e :: es) X.env = (false, eval e X.env) :: starEach es X.env := by rfl) : AD X W (e :: es) (mCons m ms) := by
  refine ⟨?_⟩
  rintro pos pins s σ H Q I ⟨ρ, S, E, r, er, p⟩
  have hq : tE X.K W m σ H fun x H1 => tA X.K W ms σ H1 fun xs H2 => Q (x :: xs) H2 := by
    refine ⟨ρ, S, E, r, er, (Post.bind (R := DV X.K) p).imp fun x H1 ⟨ρ1, S1, d, r1, e1, d1, p1⟩ => ?_⟩
    refine ⟨ρ1, S1, E, r1, er.mono e1, (Post.bind (R := DVs X.K) p1).imp fun xs H2 ⟨ρ2, S2, ds, r2, e2, d2, p2⟩ => ?_⟩
    exact p2 ρ2 H2 (x :: xs) r2 Ext.refl (by simp only [DVs]; exact ⟨x, xs, rfl, DV.mono e2 _ _ d1, d2⟩)
  rw [hs]
  show wpAny _ _ (spliced ((false, eval e X.env) :: backTo pos (starEach es X.env))) _ _ s
  refine Calls.spliced_cons (wpAny_mono (h.run pins s σ H _ I hq) (fun v s1 q => ?_) fun _ _ z => z)
  obtain ⟨hk, x, H1, I1, r1, q1⟩ := q
  exact thn (hr pos pins s1 σ H1 _ hk I1 q1) fun us s2 ⟨xs, H2, I2, r2, q2⟩ => ⟨x :: xs, H2, I2, .cons r1 r2, q2⟩
end
/-! ### the walk -/
theorem w_idx {E : Evn} {S : Sto} {o : ME} {ma : MA} {Q : D → Sto → Prop} {X : Exn → Sto → Prop} : OkO (mIdx o ma E S) Q X = OkO (o E S) (fun x S1 => OkP (seqF S1 x) fun _ => OkO (ma E S1) (fun xs S2 => OkP (gIdx S2 x xs) fun d => Q d S2) X) X := by
  unfold mIdx
  refine w_bind.trans (OkO_fun fun x S1 => ?_)
  cases seqF S1 x with
  | none => rfl
  | some l => exact w_bind.trans (OkO_fun fun _ _ => opt_ok)
theorem p_seqLoc {S : Sto} {n : Nat} {Q : List D → Prop} : OkP (seqF S (.loc n)) Q = OkT S[n]? Q := by
  simp only [seqF]
  cases S[n]? with
  | none => rfl
  | some o => cases o <;> rfl
theorem p_seqLst {S : Sto} {xs : List D} {Q : List D → Prop} : OkP (seqF S (.lst xs)) Q = Q xs := rfl
theorem p_idxLoc {S : Sto} {n : Nat} {y : D} {Q : D → Prop} : OkP (gIdx S (.loc n) [y]) Q = OkT S[n]? fun xs => OkP (gIdx S (.lst xs) [y]) Q := by
  unfold gIdx
  simp only [seqF]
  cases S[n]? with
  | none => rfl
  | some o => cases o <;> rfl
theorem p_idxL {S : Sto} {x : Tx} {xs : List D} {Q : D → Prop} (h : allStr xs = true) : OkP (gIdx S (.lst xs) [.str x]) Q = OkP ((strsOf xs).findIdx? fun z => decide (z = x)) fun j => Q (.int (j : Nat)) := by
  simp only [gIdx, seqF]
  rw [if_pos ⟨rfl, flD_all h⟩]
  have e : ∀ xs : List D, allStr xs = true → xs.findIdx? (fun z => teq z (.str x)) = (strsOf xs).findIdx? fun z => decide (z = x) := by
    intro xs
    induction xs with
    | nil => intro _; rfl
    | cons y r ih =>
      intro h
      cases y with
      | str z =>
        rw [allStr_cons] at h
        rw [strsOf_cons, List.findIdx?_cons, List.findIdx?_cons, ih h]
        simp only [teq]
        first | rfl | (congr; done) | skip
      | _ => simp [allStr] at h
  rw [e xs h]
  cases (strsOf xs).findIdx? fun z => decide (z = x) with
  | none => rfl
  | some j => rfl
end PD

/-! PyG7: the sum of two lists as a list that may change. -/
namespace PD
open PySem PySem.Spec PyProof PyProof.Rows L2
open Classical in
noncomputable def mCatL (a b : ME) : ME := fun E S => (a E S).bind fun x S1 => (b E S1).bind fun y S2 => match seqL S2 x, seqL S2 y with
  | some xs, some ys => if sizeOk (xs.length + ys.length) then .ok (.loc S2.length) (S2 ++ [.lst (xs ++ ys)]) else .bad
  | _, _ => .bad
section
variable {X : Cx} {W : WW X.K} {pos : Pos} {a b : Expr} {ma mb : ME}
theorem ed_catL (ha : ED X W a ma) (hb : ED X W b mb) : ED X W (.BinOp a .Add b pos) (mCatL ma mb) := by
  refine ed_of (pe_op op_addD ha hb) fun σ H Q ρ S E re er p => ?_
  refine ⟨ρ, S, E, re, er, (Post.bind (R := DV X.K) p).imp fun x H1 ⟨ρ1, S1, dx, r1, e1, d1, p1⟩ => ?_⟩
  refine ⟨ρ1, S1, E, r1, er.mono e1, (Post.bind (R := DV X.K) p1).imp fun y H2 ⟨ρ2, S2, dy, r2, e2, d2, p2⟩ => ?_⟩
  cases h1 : seqL S2 dx with
  | none => simp only [h1] at p2; exact p2.elim
  | some xs =>
    cases h2 : seqL S2 dy with
    | none => simp only [h1, h2] at p2; exact p2.elim
    | some ys =>
      simp only [h1, h2] at p2
      by_cases hl : sizeOk (xs.length + ys.length)
      · rw [if_pos hl] at p2
        obtain ⟨q1, vs, rfl, g1, k1⟩ := seqL_ok r2 (DV.mono e2 _ _ d1) h1
        obtain ⟨q2, us, rfl, g2, k2⟩ := seqL_ok r2 d2 h2
        exact .inr (.inr (.inr ⟨q1, q2, vs, us, rfl, rfl, g1, g2, by rw [← k1.length, ← k2.length]; exact hl, fun t ht => p2 (ρ2 ++ [t]) _ _ (r2.alloc ht ⟨vs ++ us, upd_same, DVs.mono (Ext.alloc ht) _ _ (k1.append k2)⟩) (Ext.alloc ht) (dv_loc r2)⟩))
      · rw [if_neg hl] at p2; exact p2.elim
end
theorem w_catL {E : Evn} {S : Sto} {a b : ME} {Q : D → Sto → Prop} {X : Exn → Sto → Prop} : OkO (mCatL a b E S) Q X = OkO (a E S) (fun x S1 => OkO (b E S1) (fun y S2 => OkP (seqL S2 x) fun xs => OkP (seqL S2 y) fun ys => sizeOk (xs.length + ys.length) ∧ OkN (S2 ++ [.lst (xs ++ ys)]) fun S3 => Q (.loc S2.length) S3) X) X := by
  unfold mCatL
  refine w_bind.trans (OkO_fun fun x S1 => ?_)
  refine w_bind.trans (OkO_fun fun y S2 => ?_)
  cases seqL S2 x with
  | none => rfl
  | some xs =>
    cases seqL S2 y with
    | none => rfl
    | some ys =>
      simp only [w_some]
      exact w_itebad (inst := Classical.propDecidable _)
theorem p_seqLLoc {S : Sto} {n : Nat} {Q : List D → Prop} : OkP (seqL S (.loc n)) Q = OkT S[n]? Q := by
  simp only [seqL]
  cases S[n]? with
  | none => rfl
  | some o => cases o <;> rfl
theorem p_seqLLst {S : Sto} {xs : List D} {Q : List D → Prop} : OkP (seqL S (.lst xs)) Q = Q xs := rfl
end PD

/-! PyG8: sets of whole numbers: set(), x.add(i), sorted(x). WB.b: whether sets are walked in the order of the text. -/
namespace PD
open PySem PySem.Spec PyProof PyProof.Rows L2
class WB where
  b : Bool
theorem setRB_of {w : World} {h : Heap} {a : Addr} {S : Int → Bool} {n : Nat} (r : SetR w h a S n) : SetRB (w.params.followText "set-order") h a S n := ⟨w, rfl, r⟩
theorem setRB_to {w : World} {h : Heap} {a : Addr} {S : Int → Bool} {n : Nat} {b : Bool} (hb : w.params.followText "set-order" = b) (r : SetRB b h a S n) : SetR w h a S n := by
  obtain ⟨w', h1, o, es, ep, t, a1, a2, a3, a4, a5, a6, a7, a8, a9, a10, a11⟩ := r
  exact ⟨o, es, ep, t, a1, a2, a3, a4, a5, a6, a7, a8, a9, a10, by rw [hb, ← h1]; exact a11⟩
theorem setO_ok {P : Program} {w : World} {H : Hp} {h : Heap} {a : Addr} {S : Int → Bool} {n : Nat} {b : Bool} (hb : w.params.followText "set-order" = b) (r : SetR w h a S n) : ObjOk P w H h a (SetHO b a S n) := by
  subst hb
  have r0 := setRB_of r
  obtain ⟨o, es, ep, t, a1, _⟩ := r
  exact ⟨r0, ⟨o, a1⟩, fun h1 h2 ⟨w', e, r'⟩ k => ⟨w', e, r'.at k⟩⟩
theorem setO_get {X : Cx} {pins : List (Addr × Obj)} {σ : L2.St} {H : Hp} {s : Shared} {a : Addr} {S : Int → Bool} {n : Nat} {b : Bool} (I : Inv X pins σ H s) (e : H a = some (SetHO b a S n)) : SetRB b s.heap a S n := (I.hok a _ e).1
theorem Inv.same {X : Cx} {pins : List (Addr × Obj)} {σ : L2.St} {H : Hp} {s s' : Shared} (I : Inv X pins σ H s) (h1 : s'.heap = s.heap) (h2 : s'.gens = s.gens) (h3 : s'.os = s.os) : Inv X pins σ H s' :=
  ⟨I.ok, by rw [h3]; exact I.os, by rw [h2]; exact I.bare, by rw [h1]; exact I.base, by rw [h1]; exact I.loc, by rw [h1]; exact I.cell, I.free, I.freeC, by rw [h1]; exact I.pin, by rw [h1]; exact I.hok, I.len⟩
def rSet0 (b : Bool) : List V → Hp → VK → Prop := fun xs H Q => xs = [] ∧ ∀ p, H p = none → Q (.ref p) (upd H p (SetHO b p (fun _ => false) 0))
theorem cr_set0 {X : Cx} {b : Bool} (hb : X.w.params.followText "set-order" = b) : CallR X (.type "set") (rSet0 b) := by
  rintro pins s σ H xs us Q I r ⟨e, q⟩
  subst e
  cases r
  refine L2.setR_new fun hR => ?_
  exact ⟨.ref s.heap.objs.size, upd H s.heap.objs.size (SetHO b s.heap.objs.size (fun _ => false) 0), I.laid (fun c u e => Heap.get?_push_of_some _ e) (Nat.le_refl _) (setO_ok hb hR), rfl, q _ (I.hok.fresh (Nat.le_refl _))⟩
def rSAdd (b : Bool) : V → List V → Hp → VK → Prop := fun x xs H Q => ∃ (a : Addr) (k : Int) (S : Int → Bool) (n : Nat), x = .ref a ∧ xs = [.int k] ∧ H a = some (SetHO b a S n) ∧ n + 1 < scanBound ∧ Q .non (upd H a (SetHO b a (fun j => S j || decide (j = k)) (if S k = true then n else n + 1)))
theorem mt_sadd {X : Cx} {b : Bool} (hb : X.w.params.followText "set-order" = b) : MtR X "set.add" (rSAdd b) := by
  rintro pins s σ H x xs v us Q I rv r ⟨a, k, S, n, ex, exs, ha, hn, q⟩
  subst ex exs
  cases rv
  obtain ⟨u, eu, ru⟩ := vals1 r
  subst eu
  obtain ⟨tk, rfl⟩ := (show ∃ t, u = Value.int k t from ru)
  refine L2.setR_add (setRB_to hb (setO_get I ha)) hn fun h' hs hR => ?_
  have hR2 : ∃ u, h'.get? a = some u := by
    obtain ⟨o, es, ep, t, a1, _⟩ := hR
    exact ⟨o, a1⟩
  exact ⟨.non, upd H a (SetHO b a (fun j => S j || decide (j = k)) (if S k = true then n else n + 1)), I.write (x := a) (e := a) (by rw [ha]; trivial) (.inl rfl) (fun c u hne e => by rw [hs.2 c hne]; exact e) hR2 (setO_ok hb hR), rfl, q⟩
def rSortSet (b : Bool) : List V → Hp → VK → Prop := fun xs H Q => ∃ (a : Addr) (S : Int → Bool) (n : Nat), xs = [.ref a] ∧ H a = some (SetHO b a S n) ∧ n < 64 ∧ ∀ (p : Addr) (ns : List Int), H p = none → ns.Pairwise (· < ·) → (∀ k, k ∈ ns ↔ S k = true) → ns.length = n → Q (.ref p) (upd H p (.lst (ns.map V.int)))
theorem cr_sortSet {X : Cx} {b : Bool} (calm : X.calm = true) (hb : X.w.params.followText "set-order" = b) : CallR X (.builtin "sorted") (rSortSet b) := by
  rintro pins s σ H xs us Q I r ⟨a, S, n, e, ha, hn, q⟩
  subst e
  obtain ⟨u, rfl, rx⟩ := vals1 r
  cases rx
  refine L2.sorted_set (setRB_to hb (setO_get I ha)) (I.ok.hd calm) hn fun s' p out c ns hk hg ho hp hO hI hpw hmem hlen => ?_
  have hsz : (ns.map V.int).length ≤ sizeLine := by
    rw [List.length_map, hlen]
    have : (64 : Nat) ≤ sizeLine := by decide
    omega
  refine ⟨.ref p, upd H p (.lst (ns.map V.int)), ?_, rfl, q p ns (I.hok.fresh hp) hpw hmem hlen⟩
  have J := I.laid (h' := s'.heap) (a := p) (o := .lst (ns.map V.int)) (t' := s'.toks) hk hp ⟨hsz, out.toList, c, vals_of_ints hI, by simpa using hO⟩
  exact Inv.same J rfl hg ho
/-! ### the meanings -/
def IsSrt (f : Int → Bool) (n : Nat) (ns : List Int) : Prop := ns.Pairwise (· < ·) ∧ (∀ k, k ∈ ns ↔ f k = true) ∧ ns.length = n
theorem srt_uniq {f : Int → Bool} {n m : Nat} {a b : List Int} (h : IsSrt f n a) (g : IsSrt f m b) : a = b := by
  obtain ⟨h1, h2, _⟩ := h
  obtain ⟨g1, g2, _⟩ := g
  have key : ∀ (a b : List Int), a.Pairwise (· < ·) → b.Pairwise (· < ·) → (∀ k, k ∈ a ↔ k ∈ b) → a = b := by
    intro a
    induction a with
    | nil =>
      intro b _ _ h
      cases b with
      | nil => rfl
      | cons y b => exact absurd ((h y).mpr List.mem_cons_self) (by simp)
    | cons x a ih =>
      intro b ha hb h
      cases b with
      | nil => exact absurd ((h x).mp List.mem_cons_self) (by simp)
      | cons y b =>
        rw [List.pairwise_cons] at ha hb
        have e : x = y := by
          have h3 := (h x).mp List.mem_cons_self
          have h4 := (h y).mpr List.mem_cons_self
          rcases List.mem_cons.mp h3 with q | q
          · exact q
          · rcases List.mem_cons.mp h4 with p | p
            · exact p.symm
            · have := hb.1 x q
              have := ha.1 y p
              omega
        subst e
        rw [ih b ha.2 hb.2 fun k => ?_]
        have := h k
        rw [List.mem_cons, List.mem_cons] at this
        constructor
        · intro q
          have q1 := ha.1 k q
          rcases this.mp (.inr q) with p | p
          · omega
          · exact p
        · intro q
          have q1 := hb.1 k q
          rcases this.mpr (.inr q) with p | p
          · omega
          · exact p
  exact key a b h1 g1 fun k => (h2 k).trans (g2 k).symm
open Classical in
noncomputable def srtOf (f : Int → Bool) (n : Nat) : Option (List Int) := if h : ∃ ns, IsSrt f n ns then some (Classical.choose h) else none
theorem srtOf_eq {f : Int → Bool} {n : Nat} {ns : List Int} (h : IsSrt f n ns) : srtOf f n = some ns := by
  have h0 : ∃ ns, IsSrt f n ns := ⟨ns, h⟩
  unfold srtOf
  rw [dif_pos h0, srt_uniq (Classical.choose_spec h0) h]
def mSet0 (b : Bool) : ME := fun _ S => .ok (.loc S.length) (S ++ [.set b (fun _ => false) 0])
def setAt (b : Bool) (S : Sto) (x : D) : Option (Nat × (Int → Bool) × Nat) := match x with
  | .loc m => (match S[m]? with
    | some (.set b' f n) => if b' = b then some (m, f, n) else none
    | _ => none)
  | _ => none
def mSAdd (b : Bool) (o : ME) (a : MA) : ME := fun E S => (o E S).bind fun x S1 => match setAt b S1 x with
  | some _ => (a E S1).bind fun ds S2 => (match ds with
    | [.int k] => (match setAt b S2 x with
      | some (m, f, n) => if n + 1 < scanBound then .ok .non (S2.set m (.set b (fun j => f j || decide (j = k)) (if f k = true then n else n + 1))) else .bad
      | none => .bad)
    | _ => .bad)
  | none => .bad
noncomputable def mSortSet (b : Bool) (a : MA) : ME := fun E S => (a E S).bind fun ds S1 => match ds with
  | [x] => (match setAt b S1 x with
    | some (_, f, n) => if n < 64 then (match srtOf f n with
      | some ns => .ok (.lst (intL ns)) S1
      | none => .bad) else .bad
    | none => .bad)
  | _ => .bad
theorem setAt_ok {K : PySem.W.Frag} {ρ : List Addr} {S : Sto} {H : Hp} {b : Bool} (r : Rel K ρ S H) {x : D} {v : V} (dx : DV K ρ H x v) {m : Nat} {f : Int → Bool} {n : Nat} (h : setAt b S x = some (m, f, n)) :
    ∃ a, v = .ref a ∧ ρ[m]? = some a ∧ S[m]? = some (.set b f n) ∧ H a = some (SetHO b a f n) ∧ x = .loc m := by
  unfold setAt at h
  cases x with
  | loc j =>
    simp only at h
    cases e : S[j]? with
    | none => rw [e] at h; cases h
    | some o =>
      cases o with
      | set b' g c =>
        rw [e] at h
        simp only at h
        split at h
        · rename_i hb
          cases h
          subst hb
          simp only [DV] at dx
          obtain ⟨a, rfl, ha⟩ := dx
          exact ⟨a, rfl, ha, e, r.at_ _ _ _ e ha, rfl⟩
        · cases h
      | _ => rw [e] at h; cases h
  | _ => cases h
theorem Ext.writeS {K : PySem.W.Frag} {ρ : List Addr} {H : Hp} {a : Addr} {b : Bool} {f : Int → Bool} {n : Nat} {o : HO} (ha : a ∈ ρ) (h : H a = some (SetHO b a f n)) : Ext K ρ H ρ (upd H a o) := by
  unfold SetHO at h
  refine ⟨⟨[], by simp⟩, fun b ws hb => ?_, fun b ws hb hw => ⟨hb, ?_⟩, fun b o ws hb => ?_, fun b fs hb => ?_⟩
  · refine hb.imp (fun hb => Rd.upd (fun z => ?_) hb) id
    subst z
    rcases hb with hb | ⟨o, hb⟩ <;> rw [h] at hb <;> cases hb
  · rw [upd_ne (fun z => by subst z; exact hb ha)]; exact hw
  · rw [upd_ne (fun z => by subst z; rw [h] at hb; cases hb)]; exact hb
  · rw [upd_ne (fun z => by subst z; rw [h] at hb; cases hb)]; exact hb
theorem Rel.writeS {K : PySem.W.Frag} {ρ : List Addr} {S : Sto} {H : Hp} (r : Rel K ρ S H) {m : Nat} {a : Addr} {b : Bool} {f g : Int → Bool} {n c : Nat} (ha : ρ[m]? = some a) (hs : S[m]? = some (.set b f n)) (h : H a = some (SetHO b a f n)) :
    Rel K ρ (S.set m (.set b g c)) (upd H a (SetHO b a g c)) := by
  have e := Ext.writeS (K := K) (o := SetHO b a g c) (List.mem_of_getElem? ha) h
  refine ⟨by simpa using r.len, r.nd, fun j o d h1 h2 => ?_⟩
  by_cases hm : m = j
  · subst hm
    rw [ha] at h2; cases h2
    have hl := (List.getElem?_eq_some_iff.mp hs).1
    rw [List.getElem?_set_self hl] at h1
    cases h1
    exact upd_same
  · rw [List.getElem?_set_ne hm] at h1
    have hb : d ≠ a := fun z => by subst z; exact hm (nodup_at r.nd ha h2)
    exact (r.at_ j o d h1 h2).mono e fun u hu => by rw [upd_ne hb]; exact hu
section
variable {X : Cx} {W : WW X.K} {pos apos : Pos} {e o : Expr} {es : List Expr} {mo : ME} {ma : MA}
theorem ed_set0 {b : Bool} {x : Str} {p : Pos} (hb : X.w.params.followText "set-order" = b) (hx : x = "set") (hg : Gl X x) (hm : X.mg x = none) :
    ED X W (.Call (.Name x p) [] [] pos) (mSet0 b) := by
  subst hx
  refine ed_of (pe_callTy0 (cr_set0 hb) hg hm PyProof.Rows.boot_set (by decide) (by decide)) fun σ H Q ρ S E r er q => ?_
  exact ⟨rfl, fun a ha => q (ρ ++ [a]) _ _ (r.alloc (u := .set b (fun _ => false) 0) ha upd_same) (Ext.alloc ha) (dv_loc r)⟩
theorem ed_sadd {b : Bool} (hb : X.w.params.followText "set-order" = b) (ho : ED X W o mo) (ha : AD X W (e :: es) ma)
    (hbase : attributeBase o "add" X.env (eval o X.env) = eval o X.env := by rfl)
    (hfew : ((backTo pos (starEach (e :: es) X.env)).all (fun x => !x.1) && (backToKw pos (keywordEach [] X.env)).all (fun x => x.1.isSome)
      && decide ((e :: es).length + ([] : List Keyword).length + (if ([] : List Keyword).isEmpty then 0 else 1) < 30)) = true := by rfl)
    (hline : (apos.endLine == pos.line) = true := by rfl) (hs : starEach (e :: es) X.env = (false, eval e X.env) :: starEach es X.env := by rfl) (hplain : (backTo pos (starEach es X.env)).any (·.1) = false := by rfl) :
    ED X W (.Call (.Attribute o "add" apos) (e :: es) [] pos) (mSAdd b mo ma) := by
  refine ⟨?_⟩
  rintro pins s σ H Q I ⟨ρ, S, E, r0, er, p⟩
  have h : tE X.K W mo σ H fun x H1 => (∃ a S n, x = .ref a ∧ H1 a = some (SetHO b a S n)) ∧ tA X.K W ma σ H1 fun vs H2 => rSAdd b x vs H2 Q := by
    refine ⟨ρ, S, E, r0, er, (Post.bind (R := DV X.K) p).imp fun x H1 ⟨ρ1, S1, d, r1, e1, d1, p1⟩ => ?_⟩
    cases q : setAt b S1 d with
    | none => rw [q] at p1; exact p1.elim
    | some t =>
      obtain ⟨m, f, n⟩ := t
      rw [q] at p1
      obtain ⟨a, rfl, ha1, _, hH, rfl⟩ := setAt_ok r1 d1 q
      refine ⟨⟨a, f, n, rfl, hH⟩, ρ1, S1, E, r1, er.mono e1, (Post.bind (R := DVs X.K) p1).imp fun vs H2 ⟨ρ2, S2, ds, r2, e2, d2, p2⟩ => ?_⟩
      split at p2
      · rename_i k
        cases hq : setAt b S2 (.loc m) with
        | none => rw [hq] at p2; exact p2.elim
        | some t2 =>
        obtain ⟨m', f', n'⟩ := t2
        rw [hq] at p2
        simp only at p2
        obtain ⟨a', e3, ha2, hS2, hH2, e4⟩ := setAt_ok r2 (DV.mono e2 _ _ d1) hq
        cases e4
        cases e3
        obtain ⟨u, rfl, h1⟩ := dvs1 d2
        rw [dv_int] at h1; subst h1
        by_cases hl : n' + 1 < scanBound
        · rw [if_pos hl] at p2
          exact ⟨a, k, f', n', rfl, rfl, hH2, hl, p2 ρ2 _ .non (r2.writeS ha2 hS2 hH2) (Ext.writeS (List.mem_of_getElem? ha2) hH2) (by simp [DV])⟩
        · rw [if_neg hl] at p2; exact p2.elim
      · exact p2.elim
  refine wpAny_Call_method_late hbase hfew hline rfl (wpAny_mono (PE.run ho pins s σ H _ I h) (fun v s1 q => ?_) fun _ _ z => z)
  obtain ⟨x, H1, I1, r1, ⟨a, f, n, rfl, hH⟩, q1⟩ := q
  cases r1
  have hso := (setRB_to hb (setO_get I1 hH)).setOf (P := X.prog)
  refine ⟨"set", "set.add", F.plainAttrs_set, F.slot_set_add, F.type_set_add, hso.typeIs, hso.noDict, ?_⟩
  have hA := PA.run ha pos pins s1 σ H1 _ I1 q1
  rw [hs] at hA ⊢
  refine Calls.callWith_builtin (by show (false || (backTo pos (starEach es X.env)).any (·.1)) = false; rw [hplain] <;> rfl) (Calls.evalArgs_plain ?_)
  refine wpAny_mono hA (fun us s2 ⟨vs, H2, I2, r2, q2⟩ => ?_) fun _ _ z => z
  exact mt_sadd hb pins s2 σ H2 (.ref a) vs _ us Q I2 rfl r2 q2
theorem ed_sortSet {b : Bool} {x : Str} {p : Pos} (calm : X.calm = true) (hb : X.w.params.followText "set-order" = b) (hx : x = "sorted") (hg : Gl X x) (hm : X.mg x = none) (ha : AD X W [e] ma) (he : starEach [e] X.env = (false, eval e X.env) :: starEach [] X.env := by rfl) (hpl : (backTo pos (starEach [] X.env)).any (·.1) = false := by rfl) :
    ED X W (.Call (.Name x p) [e] [] pos) (mSortSet b ma) := by
  subst hx
  refine ed_of (pe_callB (es := []) (cr_sortSet calm hb) hg hm (by rfl) ha (by decide) (by decide) he hpl) fun σ H Q ρ S E r er p => ?_
  refine ⟨ρ, S, E, r, er, (Post.bind (R := DVs X.K) p).imp fun vs H1 ⟨ρ1, S1, ds, r1, e1, d1, p1⟩ => ?_⟩
  split at p1
  · rename_i d
    cases q : setAt b S1 d with
    | none => rw [q] at p1; exact p1.elim
    | some t =>
      obtain ⟨m, f, n⟩ := t
      rw [q] at p1
      simp only at p1
      obtain ⟨u, rfl, h1⟩ := dvs1 d1
      obtain ⟨a, rfl, ha1, _, hH, rfl⟩ := setAt_ok r1 h1 q
      by_cases hn : n < 64
      · rw [if_pos hn] at p1
        refine ⟨a, f, n, rfl, hH, hn, fun c ns hc hpw hmem hlen => ?_⟩
        rw [srtOf_eq ⟨hpw, hmem, hlen⟩] at p1
        exact post_lst r1 hc (dvs_ints _) p1
      · rw [if_neg hn] at p1; exact p1.elim
  · exact p1.elim
end
/-! ### the walk -/
section
variable {Q : D → Sto → Prop} {X : Exn → Sto → Prop} {E : Evn} {S : Sto} {mo : ME} {ma : MA} {b : Bool}
def OkSet (x : Option Ob) (b : Bool) (Q : (Int → Bool) → Nat → Prop) (_u : Tg Q Q := .mk) : Prop := match x with
  | some (.set b' f n) => b' = b ∧ Q f n
  | _ => False
theorem w_oset {f : Int → Bool} {n : Nat} {Q : (Int → Bool) → Nat → Prop} : OkSet (some (.set b f n)) b Q = Q f n := by simp [OkSet]
theorem w_set0 : OkO (mSet0 b E S) Q X = OkN (S ++ [.set b (fun _ => false) 0]) fun S1 => Q (.loc S.length) S1 := rfl
def OkArg1 (ds : List D) (Q : D → Prop) (_u : Tg Q Q := .mk) : Prop := match ds with
  | [d] => Q d
  | _ => False
theorem w_arg1 {d : D} {Q : D → Prop} : OkArg1 [d] Q = Q d := rfl
theorem setAt_eq {m : Nat} : setAt b S (.loc m) = (match S[m]? with | some (.set b' f n) => if b' = b then some (m, f, n) else none | _ => none) := rfl
theorem w_sadd : OkO (mSAdd b mo ma E S) Q X = OkO (mo E S) (fun x S1 => OkLoc x fun m => OkSet S1[m]? b fun _ _ => OkO (ma E S1) (fun ds S2 => OkArg1 ds fun d => OkInt d fun k => OkSet S2[m]? b fun f n => n + 1 < scanBound ∧ OkN (S2.set m (.set b (fun j => f j || decide (j = k)) (if f k = true then n else n + 1))) fun S3 => Q .non S3) X) X := by
  unfold mSAdd
  refine w_bind.trans (OkO_fun fun x S1 => ?_)
  cases x with
  | loc m =>
    simp only [setAt_eq, OkLoc]
    cases h : S1[m]? with
    | none => rfl
    | some o =>
      cases o with
      | set b' f n =>
        simp only [OkSet]
        by_cases hb : b' = b
        · subst hb
          simp only [if_pos rfl, true_and]
          refine w_bind.trans (OkO_fun fun ds S2 => ?_)
          cases ds with
          | nil => rfl
          | cons d ds =>
            cases ds with
            | cons _ _ => cases d <;> rfl
            | nil =>
              cases d with
              | int k =>
                simp only [OkArg1, OkInt]
                cases h2 : S2[m]? with
                | none => rfl
                | some o2 =>
                  cases o2 with
                  | set b2 g c =>
                    by_cases hb2 : b2 = b'
                    · subst hb2
                      simp only [if_pos rfl, true_and]
                      exact w_itebad
                    · simp only [if_neg hb2, hb2, false_and]
                      rfl
                  | _ => rfl
              | _ => rfl
        · simp only [if_neg hb, hb, false_and]
          rfl
      | _ => rfl
  | _ => rfl
theorem w_sortSet : OkO (mSortSet b ma E S) Q X = OkO (ma E S) (fun ds S1 => OkArg1 ds fun x => OkLoc x fun m => OkSet S1[m]? b fun f n => n < 64 ∧ OkP (srtOf f n) fun ns => Q (.lst (intL ns)) S1) X := by
  unfold mSortSet
  refine w_bind.trans (OkO_fun fun ds S1 => ?_)
  unfold OkArg1
  split
  · rename_i x
    cases x with
    | loc m =>
      simp only [setAt_eq, OkLoc]
      cases h : S1[m]? with
      | none => rfl
      | some o =>
        cases o with
        | set b' f n =>
          simp only [OkSet]
          by_cases hb : b' = b
          · subst hb
            simp only [if_true, true_and]
            by_cases hn : n < 64
            · rw [if_pos hn]
              cases srtOf f n with
              | none => simp only [OkP]; exact propext ⟨fun h => h.elim, fun h => h.2.elim⟩
              | some ns => simp only [hn, true_and]; rfl
            · rw [if_neg hn]
              exact propext ⟨fun h => h.elim, fun h => absurd h.1 hn⟩
          · simp only [if_neg hb, hb, false_and]
            rfl
        | _ => rfl
    | _ => rfl
  · rfl
end
theorem w_stN4 {i j k l : Nat} {a b c : D} {E : Evn} : stN false [i, j, k, l] (.tup [a, .tup [b, c]]) E = some (((E.set i (some a)).set j (some b)).set k (some c)) := rfl
/-! ### name = {k: v for ..} on one line -/
section
variable {X : Cx} {W : WW X.K}
theorem ps_setDc {i : Nat} {y : Str} {py pos spos : Pos} {kx vx tg iter : Expr} {ifs : List Expr} {scope : Scope} {own : List (Str × Nat)} {wi : TI} {g : TG} {tt : TT} {tk tv : TE} (hc : X.calm = true) (hN : X.N.Nodup) (hy : X.N[i]? = some y) (hyl : X.env.scope.names.lookup y = some .local)
    (hsw : swapsWith (.DictComp kx vx [⟨tg, iter, ifs, 0⟩] scope pos) (some (.Name y py)) spos.line X.env = pure true) (hi : PI X tg iter wi) (ok : BlkOk X.N X.env.scope scope own)
    (hg : ∀ (s : Shared) (H : Hp) (C : Addr) (cl : List (Str × Addr)) (fp : List Addr), PG (X.blk s H scope (compEnvC scope cl C X.env) fp) tg g)
    (ht : ∀ (s : Shared) (H : Hp) (C : Addr) (cl : List (Str × Addr)) (fp : List Addr), PTs (X.blk s H scope (compEnvC scope cl C X.env) fp) ifs tt)
    (hk : ∀ (s : Shared) (H : Hp) (C : Addr) (cl : List (Str × Addr)) (fp : List Addr), PE (X.blk s H scope (compEnvC scope cl C X.env) fp) kx tk)
    (hv : ∀ (s : Shared) (H : Hp) (C : Addr) (cl : List (Str × Addr)) (fp : List Addr), PE (X.blk s H scope (compEnvC scope cl C X.env) fp) vx tv)
    (hs : ∀ x, foldedSetIterable iter X.env x = pure x) :
    PS X (.Assign [.Name y py] (.DictComp kx vx [⟨tg, iter, ifs, 0⟩] scope pos) spos) (tAsg (tDc wi g tt tk tv (own.map (·.2))) (gName i)) := by
  refine ⟨?_⟩
  intro pins s σ H D I h
  rw [exec_Assign_Name_used y py _ spos hsw]
  refine wpAny_bind (wpAny_standAt ?_)
  refine wpAny_bind ?_
  show wpAny _ _ (do let _ ← comprehension (.DictComp kx vx [⟨tg, iter, ifs, 0⟩] scope pos) scope X.env (firstIterPos [⟨tg, iter, ifs, 0⟩] pos) newDict (firstAsync [⟨tg, iter, ifs, 0⟩]) (firstIter [⟨tg, iter, ifs, 0⟩] X.env) (some (assign (.Name y py) X.env)); pure ()) _ _ s
  refine wpAny_bind (dc_core (Q := fun x H1 => gName i x σ H1 D.nx) hc hN I hi ok hg ht hk hv hs h fun Dd C s' m H' I' q' n' fp => ?_)
  refine wpAny_assign_Name (store_ok2 (v := .ref Dd) I' hN hy (.inl hyl) rfl (fun s2 I2 hsb => ?_) (.inr hyl))
  obtain ⟨a, hsb, ha⟩ := hsb
  obtain ⟨f1, f2, f3, f4, f5, f6⟩ := fp
  have hCa : C ≠ a := by
    rcases ha with rfl | ha
    · exact f2
    · exact (f5 _ _ ha).symm
  exact ⟨m, n'.sameBut hsb hCa, fun h' hs2 => wpAny_pure (wpAny_pure ⟨_, H', I2.turned (t' := s2.toks) (it := C) (fun b o hb e => by rw [hs2.2 b hb]; exact e) f1 f2 f4 f5 f6, q'⟩)⟩
theorem sd_setDc {i : Nat} {y : Str} {py pos spos : Pos} {ek ev tg iter : Expr} {ifs : List Expr} {scope : Scope} {own : List (Str × Nat)} {mi : MI} {one : Bool} {is : List Nat} {mt : MT} {mk mv : ME} (hc : X.calm = true) (hN : X.N.Nodup) (hy : X.N[i]? = some y) (hyl : X.env.scope.names.lookup y = some .local)
    (hi : ID X W tg iter mi) (ok : BlkOk X.N X.env.scope scope own) (hw : W.fix = none) (hv : ∀ i ∈ is, i ∈ own.map (·.2))
    (hg : ∀ (s : Shared) (H : Hp) (C : Addr) (cl : List (Str × Addr)) (fp : List Addr), PG (X.blk s H scope (compEnvC scope cl C X.env) fp) tg (gN1 X.K one is))
    (ht : ∀ (s : Shared) (H : Hp) (C : Addr) (cl : List (Str × Addr)) (fp : List Addr), PD' (X.blk s H scope (compEnvC scope cl C X.env) fp) ifs mt)
    (hk : ∀ (s : Shared) (H : Hp) (C : Addr) (cl : List (Str × Addr)) (fp : List Addr), ED (X.blk s H scope (compEnvC scope cl C X.env) fp) (W0 X.K) ek mk)
    (he : ∀ (s : Shared) (H : Hp) (C : Addr) (cl : List (Str × Addr)) (fp : List Addr), ED (X.blk s H scope (compEnvC scope cl C X.env) fp) (W0 X.K) ev mv)
    (hsw : swapsWith (.DictComp ek ev [⟨tg, iter, ifs, 0⟩] scope pos) (some (.Name y py)) spos.line X.env = pure true := by rfl) (hs : ∀ x, foldedSetIterable iter X.env x = pure x := by intro _; rfl) :
    SD X W (.Assign [.Name y py] (.DictComp ek ev [⟨tg, iter, ifs, 0⟩] scope pos) spos) (mSet i (mDc mi one is (own.map (·.2)) mt mk mv)) := by
  refine sd_of (ps_setDc (tt := tT X.K (W0 X.K) mt) (tk := tE X.K (W0 X.K) mk) (tv := tE X.K (W0 X.K) mv) hc hN hy hyl hsw hi ok hg ht hk he hs) fun D σ H ρ S E r er p => ?_
  exact dc_read hw hv σ H _ ρ S E r er ((SPost.bind (R := DV X.K) er p).imp fun x H1 ⟨ρ1, S1, d, r1, e1, d1, p1⟩ => p1 ρ1 H1 _ r1 Ext.refl ((er.mono e1).set hw i d1))
end
/-! ### a law whose meaning asks for the order -/
theorem walk_WB {l : PySem.W.OpenLaw} {n k : Nat} {q : Program} {loose : List Str} {XP : (Str → Option Value) → Heap → Prop} {YP : World → Heap → Prop} {d : DefRec} {x : Str} {m : Bool → MF}
    (hn : l.most = some n) (hn2 : n ≤ sizeLine) (hdf : d.params.defaults = []) (hr : Room k callerA)
    (F : ∀ (w : World) (mg : Str → Option Value) (fa : Addr) (h : Heap), YP w h → h.Ns mainGlobals mg → mg d.name = some (.ref fa) →
      ∃ (K : PySem.W.Frag) (fd : FuncData), K.In h ∧ (∀ (s : Shared) (u : Value), BindsTo s fd ⟨[u], []⟩ [(x, u)]) ∧
        ∀ base : Heap, K.In base → base.Ns mainGlobals mg → FnOk l.prog w K mg base (L2.CX l.prog w) k fa fd [x] (spM K 1 (m (w.params.followText "set-order"))))
    (hm : ∀ (b : Bool) (ns : List Int), ns.length ≤ n → ∃ S', m b [.fz (ns.map D.int)] [] = .ok (.bl true) S') :
    PySem.W.WalkO q loose XP YP l.row.toRowW d [] (fun f vs => PySem.call f vs) := by
  refine Att.attach_call hn hdf fun w s₀ s₁ mg mb fa o pm cd doc a vs ns G Y ho hd hcd hmg hobj hints hlen hg => ?_
  obtain ⟨K, fd, KX, hb, hF⟩ := F w mg fa _ Y G.T.g hmg
  exact law_call KX G.T.g G.T.b G.T.builtins G.T.nolimit hg hobj hints (Nat.le_trans hlen hn2) hr hF hb (fun H hO hS => law_sp hO hS (hm (w.params.followText "set-order") ns hlen)) fun H e s' => cx_end H s₁ e s'
end PD

namespace Law
open PySem PySem.Spec PyProof.Rows L2 PD
/-! ### the text by places -/
def top (i : Nat) : Stmt := PySem.Challenge.pw_cardwright_k40_performed_paragraphs.main.body.getD i (.Pass ⟨0, 0, 0, 0⟩)
abbrev s_performed : Stmt := top 1
abbrev s_graph_of : Stmt := top 2
abbrev s__law_draws : Stmt := top 4
abbrev s__law_draw : Stmt := top 5
abbrev s__law_same : Stmt := top 6
abbrev s__law_reserved : Stmt := top 7
abbrev s__law_name : Stmt := top 8
abbrev s__law_names : Stmt := top 9
abbrev s__law_perform : Stmt := top 10
abbrev s__law_block : Stmt := top 11
abbrev s__law_statement : Stmt := top 12
abbrev s_law : Stmt := top 13
/-- the defs as plain functions -/
structure Tab where
  performed : MF
  graph_of : MF
  _law_draws : MF
  _law_draw : MF
  _law_same : MF
  _law_reserved : MF
  _law_name : MF
  _law_names : MF
  _law_perform : MF
  _law_block : MF
  _law_statement : MF
  law : MF
def Tab.bad : Tab := ⟨fun _ _ => .bad, fun _ _ => .bad, fun _ _ => .bad, fun _ _ => .bad, fun _ _ => .bad, fun _ _ => .bad, fun _ _ => .bad, fun _ _ => .bad, fun _ _ => .bad, fun _ _ => .bad, fun _ _ => .bad, fun _ _ => .bad⟩
section WBS
variable [WB]
/- ['statements', 'pairs', 'statement'] -/
noncomputable def l_performed_1 (C : Tab) : MS := (mIf (asB (mBin gEq (mBin gIx (mVar 2) (mC (.int 0))) (mC (.str [112, 101, 114, 102, 111, 114, 109])))) (mDrop (mLM gAppend (mVar 1) (mCons (mTup (mCons (mBin gIx (mVar 2) (mC (.int 1))) (mCons (mBin gIx (mVar 2) (mC (.int 2))) mNil))) mNil))) (mIf (asB (mBin gIn (mBin gIx (mVar 2) (mC (.int 0))) (mTup (mCons (mC (.str [105, 102])) (mCons (mC (.str [114, 101, 97, 100])) mNil))))) (mDrop (mLM gExtend (mVar 1) (mCons (mBin gAdd (mCall C.performed (mCons (mBin gIx (mVar 2) (mC (.int 2))) mNil)) (mCall C.performed (mCons (mBin gIx (mVar 2) (mC (.int 3))) mNil))) mNil))) (mIf (asB (mBin gIn (mBin gIx (mVar 2) (mC (.int 0))) (mTup (mCons (mC (.str [115, 101, 116])) (mCons (mC (.str [100, 105, 118, 105, 100, 101])) mNil))))) (mDrop (mLM gExtend (mVar 1) (mCons (mCall C.performed (mCons (mBin gIx (mVar 2) (mUn gNeg (mC (.int 1)))) mNil)) mNil))) mSkip)))
noncomputable def b_performed (C : Tab) : MS := (mSeq (mSet 1 (mLoc mNil))
    (mSeq (mFor (iAny (mVar 0)) (gN 2) (l_performed_1 C))
    (mRet (mVar 1))))
/- ['paragraphs', 'places', 'rows', '_', 'statements', 'found', 'start', 'last', 'index', 'name'] -/
noncomputable def l_graph_of_1 (C : Tab) : MS := (mDrop (mSAdd WB.b (mVar 5) (mCons (mVar 8) mNil)))
noncomputable def l_graph_of_2 (C : Tab) : MS := (mFor (iRange2 (mCons (mBin gDget (mVar 1) (mVar 6)) (mCons (mBin gAdd (mBin gDget (mVar 1) (mVar 7)) (mC (.int 1))) mNil))) (gN 8) (l_graph_of_1 C))
noncomputable def l_graph_of_3 (C : Tab) : MS := (mSeq (mSet 5 (mSet0 WB.b))
    (mSeq (mFor (iAny (mCall C.performed (mCons (mVar 4) mNil))) (gT 2 (gsCons (gN 6) (gsCons (gN 7) gsNil))) (l_graph_of_2 C))
    (mDrop (mLM gAppend (mVar 2) (mCons (mB gTuple (mCons (mSortSet WB.b (mCons (mVar 5) mNil)) mNil)) mNil)))))
noncomputable def b_graph_of (C : Tab) : MS := (mSeq (mSet 1 (mDc (iEnumD (mCons (mVar 0) mNil)) false [8, 9, 3, 3] [8, 9, 3] mYes (mVar 9) (mVar 8)))
    (mSeq (mSet 2 (mLoc mNil))
    (mSeq (mFor (iAny (mVar 0)) (gT 2 (gsCons (gN 3) (gsCons (gN 4) gsNil))) (l_graph_of_3 C))
    (mRet (mB gTuple (mCons (mVar 2) mNil))))))
/- ['script'] -/
noncomputable def b__law_draws (C : Tab) : MS := (mRet (mLoc (mCons (mB gList (mCons (mVar 0) mNil)) (mCons (mC (.int 0)) (mCons (mC (.int 0)) (mCons (mC (.int 1)) mNil))))))
/- ['draws', 'limit', 'cell', 'value'] -/
noncomputable def b__law_draw (C : Tab) : MS := (mSeq (mIf (mAnd (asB (mBin gEq (mBin gIx (mVar 0) (mC (.int 2))) (mC (.int 0)))) (asB (mBin gLt (mBin gIx (mVar 0) (mC (.int 1))) (mB gLen (mCons (mBin gIx (mVar 0) (mC (.int 0))) mNil))))) (mSeq (mSet 2 (mBin gIx (mBin gIx (mVar 0) (mC (.int 0))) (mBin gIx (mVar 0) (mC (.int 1)))))
    (mSeq (mAsg (mBin gAdd (mBin gIx (mVar 0) (mC (.int 1))) (mC (.int 1))) (gI (mVar 0) (mC (.int 1))))
    (mSeq (mIf (asB (mBin gGe (mVar 2) (mBin gPow (mC (.int 10)) (mC (.int 18))))) (mAsg (mVar 2) (gI (mVar 0) (mC (.int 2)))) mSkip)
    (mAsg (mBin gMod (mB gIntA (mCons (mBin gAdd (mBin gAdd (mBin gMulA (mBin gIx (mVar 0) (mC (.int 3))) (mC (.int 48271))) (mVar 2)) (mC (.int 13))) mNil)) (mC (.int 2147483647))) (gI (mVar 0) (mC (.int 3))))))) mSkip)
    (mSeq (mIf (asB (mBin gGt (mBin gIx (mVar 0) (mC (.int 2))) (mC (.int 0)))) (mSeq (mSet 3 (mBin gMod (mB gIntA (mCons (mBin gIx (mVar 0) (mC (.int 2))) mNil)) (mVar 1)))
    (mSeq (mAsg (mBin gDiv (mBin gIx (mVar 0) (mC (.int 2))) (mVar 1)) (gI (mVar 0) (mC (.int 2))))
    (mRet (mVar 3)))) mSkip)
    (mSeq (mAsg (mBin gMod (mB gIntA (mCons (mBin gAdd (mBin gMulA (mBin gIx (mVar 0) (mC (.int 3))) (mC (.int 69621))) (mC (.int 7))) mNil)) (mC (.int 2147483629))) (gI (mVar 0) (mC (.int 3))))
    (mRet (mBin gMod (mB gIntA (mCons (mBin gDiv (mBin gIx (mVar 0) (mC (.int 3))) (mC (.int 11))) mNil)) (mVar 1))))))
/- ['actual', 'expected', 'k'] -/
noncomputable def l__law_same_1 (C : Tab) : MS := (mIf (mNot (asB (mCall C._law_same (mCons (mBin gIx (mVar 0) (mVar 2)) (mCons (mBin gIx (mVar 1) (mVar 2)) mNil))))) (mRet (mC (.bl false))) mSkip)
noncomputable def b__law_same (C : Tab) : MS := (mSeq (mIf (asB (mB gIsi (mCons (mVar 1) (mCons (mC (.ty "tuple")) mNil)))) (mSeq (mIf (mOr (mNot (asB (mB gIsi (mCons (mVar 0) (mCons (mC (.ty "tuple")) mNil))))) (asB (mBin gNe (mB gLen (mCons (mVar 0) mNil)) (mB gLen (mCons (mVar 1) mNil))))) (mRet (mC (.bl false))) mSkip)
    (mSeq (mFor (iRange1 (mCons (mB gLen (mCons (mVar 1) mNil)) mNil)) (gN 2) (l__law_same_1 C))
    (mRet (mC (.bl true))))) mSkip)
    (mSeq (mIf (asB (mB gIsi (mCons (mVar 1) (mCons (mC (.ty "str")) mNil)))) (mRet (mAndV (mB gIsi (mCons (mVar 0) (mCons (mC (.ty "str")) mNil))) (mBin gEq (mVar 0) (mVar 1)))) mSkip)
    (mSeq (mIf (asB (mBin gIsN (mVar 1) (mC .non))) (mRet (mBin gIsN (mVar 0) (mC .non))) mSkip)
    (mSeq (mIf (mOr (asB (mB gIsi (mCons (mVar 1) (mCons (mC (.ty "bool")) mNil)))) (asB (mB gIsi (mCons (mVar 0) (mCons (mC (.ty "bool")) mNil))))) (mRet (mAndV (mB gIsi (mCons (mVar 1) (mCons (mC (.ty "bool")) mNil))) (mAndV (mB gIsi (mCons (mVar 0) (mCons (mC (.ty "bool")) mNil))) (mBin gEq (mVar 0) (mVar 1))))) mSkip)
    (mRet (mAndV (mB gIsi (mCons (mVar 0) (mCons (mC (.ty "int")) mNil))) (mBin gEq (mVar 0) (mVar 1))))))))
/- ['words'] -/
noncomputable def b__law_reserved (C : Tab) : MS := (mSeq (mSet 0 (mLst (mCons (mC (.str [112, 114, 111, 103, 114, 97, 109])) (mCons (mC (.str [100, 97, 116, 97])) (mCons (mC (.str [102, 105, 108, 101, 115])) (mCons (mC (.str [112, 114, 111, 99, 101, 100, 117, 114, 101])) (mCons (mC (.str [112, 105, 99, 116, 117, 114, 101])) (mCons (mC (.str [111, 99, 99, 117, 114, 115])) (mCons (mC (.str [118, 97, 108, 117, 101])) (mCons (mC (.str [105, 110, 112, 117, 116])) (mCons (mC (.str [111, 117, 116, 112, 117, 116])) (mCons (mC (.str [114, 101, 99, 111, 114, 100])) (mCons (mC (.str [109, 111, 118, 101])) (mCons (mC (.str [116, 111])) mNil))))))))))))))
    (mSeq (mSet 0 (mBin gAdd (mVar 0) (mLst (mCons (mC (.str [115, 101, 116])) (mCons (mC (.str [114, 111, 117, 110, 100, 101, 100])) (mCons (mC (.str [101, 108, 115, 101])) (mCons (mC (.str [101, 110, 100])) (mCons (mC (.str [100, 105, 118, 105, 100, 101])) (mCons (mC (.str [98, 121])) (mCons (mC (.str [103, 105, 118, 105, 110, 103])) (mCons (mC (.str [114, 101, 109, 97, 105, 110, 100, 101, 114])) (mCons (mC (.str [105, 102])) (mCons (mC (.str [116, 104, 101, 110])) (mCons (mC (.str [112, 101, 114, 102, 111, 114, 109])) (mCons (mC (.str [116, 104, 114, 117])) mNil)))))))))))))))
    (mSeq (mSet 0 (mBin gAdd (mVar 0) (mLst (mCons (mC (.str [116, 105, 109, 101, 115])) (mCons (mC (.str [117, 110, 116, 105, 108])) (mCons (mC (.str [118, 97, 114, 121, 105, 110, 103])) (mCons (mC (.str [102, 114, 111, 109])) (mCons (mC (.str [114, 101, 97, 100])) (mCons (mC (.str [97, 116])) (mCons (mC (.str [98, 97, 100])) (mCons (mC (.str [119, 114, 105, 116, 101])) (mCons (mC (.str [115, 104, 111, 119])) (mCons (mC (.str [115, 111, 114, 116])) (mCons (mC (.str [100, 101, 115, 99, 101, 110, 100, 105, 110, 103])) (mCons (mC (.str [99, 108, 101, 97, 114])) mNil)))))))))))))))
    (mRet (mBin gAdd (mVar 0) (mLst (mCons (mC (.str [115, 116, 111, 112])) (mCons (mC (.str [110, 111, 116])) (mCons (mC (.str [97, 110, 100])) (mCons (mC (.str [111, 114])) (mCons (mC (.str [100, 105, 103, 105, 116, 115])) (mCons (mC (.str [116, 101, 120, 116])) mNil))))))))))))
/- ['draws', 'letters', 'size', 'name', 'k', 'marks'] -/
noncomputable def l__law_name_1 (C : Tab) : MS := (mSeq (mSet 5 (mBin gAdd (mVar 1) (mC (.str [48, 49, 50, 51, 52, 53, 54, 55, 56, 57]))))
    (mSeq (mIf (asB (mBin gLt (mVar 4) (mBin gMns (mVar 2) (mC (.int 2))))) (mSet 5 (mBin gAdd (mVar 5) (mC (.str [45])))) mSkip)
    (mSet 3 (mBin gAdd (mVar 3) (mBin gIx (mVar 5) (mCall C._law_draw (mCons (mVar 0) (mCons (mB gLen (mCons (mVar 5) mNil)) mNil))))))))
noncomputable def q__law_name_1 (C : Tab) : MS := (mSeq (mFor (iRange1 (mCons (mBin gMns (mVar 2) (mC (.int 1))) mNil)) (gN 4) (l__law_name_1 C))
    (mSeq (mIf (asB (mBin gIn (mVar 3) (mCall C._law_reserved mNil))) (mRet (mBin gAdd (mVar 3) (mC (.str [48])))) mSkip)
    (mRet (mVar 3))))
noncomputable def b__law_name (C : Tab) : MS := (mSeq (mSet 1 (mC (.str [97, 98, 99, 100, 101, 102, 103, 104, 105, 106, 107, 108, 109, 110, 111, 112, 113, 114, 115, 116, 117, 118, 119, 120, 121, 122])))
    (mSeq (mSet 2 (mBin gAdd (mC (.int 1)) (mCall C._law_draw (mCons (mVar 0) (mCons (mC (.int 4)) mNil)))))
    (mSeq (mIf (asB (mBin gEq (mCall C._law_draw (mCons (mVar 0) (mCons (mC (.int 6)) mNil))) (mC (.int 0)))) (mSet 2 (mBin gAdd (mC (.int 1)) (mCall C._law_draw (mCons (mVar 0) (mCons (mC (.int 20)) mNil))))) mSkip)
    (mSeq (mSet 3 (mBin gIx (mVar 1) (mCall C._law_draw (mCons (mVar 0) (mCons (mC (.int 26)) mNil)))))
    (q__law_name_1 C)))))
/- ['draws', 'count', 'names', 'k', 'name', 'j'] -/
noncomputable def l__law_names_1 (C : Tab) : MS := (mIf (asB (mBin gIn (mVar 4) (mVar 2))) (mSet 4 (mBin gAdd (mSl gSl (mVar 4) mNoPart (mPart (mC (.int 16)))) (mB gStr (mCons (mVar 5) mNil)))) mSkip)
noncomputable def l__law_names_2 (C : Tab) : MS := (mSeq (mSet 4 (mCall C._law_name (mCons (mVar 0) mNil)))
    (mSeq (mFor (iRange1 (mCons (mBin gAdd (mVar 1) (mC (.int 1))) mNil)) (gN 5) (l__law_names_1 C))
    (mDrop (mLM gAppend (mVar 2) (mCons (mVar 4) mNil)))))
noncomputable def b__law_names (C : Tab) : MS := (mSeq (mSet 2 (mLoc mNil))
    (mSeq (mFor (iRange1 (mCons (mVar 1) mNil)) (gN 3) (l__law_names_2 C))
    (mRet (mVar 2))))
/- ['draws', 'names', 'found', 'first', 'last', 'condition', 'ways'] -/
noncomputable def q__law_perform_1 (C : Tab) : MS := (mSeq (mSet 6 (mLoc (mCons (mTup (mCons (mC (.str [111, 110, 99, 101])) mNil)) (mCons (mTup (mCons (mC (.str [116, 105, 109, 101, 115])) (mCons (mTup (mCons (mC (.str [110, 117, 109, 98, 101, 114])) (mCons (mTup (mCons (mC (.int 3)) (mCons (mC (.int 0)) mNil))) mNil))) mNil))) (mCons (mTup (mCons (mC (.str [117, 110, 116, 105, 108])) (mCons (mVar 5) mNil))) mNil)))))
    (mSeq (mDrop (mLM gAppend (mVar 6) (mCons (mTup (mCons (mC (.str [118, 97, 114, 121, 105, 110, 103])) (mCons (mTup (mCons (mC (.str [97])) (mCons (mTup mNil) mNil))) (mCons (mTup (mCons (mC (.str [110, 117, 109, 98, 101, 114])) (mCons (mTup (mCons (mC (.int 1)) (mCons (mC (.int 0)) mNil))) mNil))) (mCons (mTup (mCons (mC (.str [110, 117, 109, 98, 101, 114])) (mCons (mTup (mCons (mC (.int 1)) (mCons (mC (.int 0)) mNil))) mNil))) (mCons (mVar 5) mNil)))))) mNil)))
    (mRet (mTup (mCons (mC (.str [112, 101, 114, 102, 111, 114, 109])) (mCons (mBin gIx (mVar 1) (mVar 3)) (mCons (mBin gIx (mVar 1) (mVar 4)) (mCons (mBin gIx (mVar 6) (mCall C._law_draw (mCons (mVar 0) (mCons (mC (.int 4)) mNil)))) mNil))))))))
noncomputable def b__law_perform (C : Tab) : MS := (mSeq (mSet 3 (mCall C._law_draw (mCons (mVar 0) (mCons (mB gLen (mCons (mVar 1) mNil)) mNil))))
    (mSeq (mSet 4 (mBin gAdd (mVar 3) (mBin gIx (mLst (mCons (mC (.int 0)) (mCons (mCall C._law_draw (mCons (mVar 0) (mCons (mBin gMns (mB gLen (mCons (mVar 1) mNil)) (mVar 3)) mNil))) mNil))) (mCall C._law_draw (mCons (mVar 0) (mCons (mC (.int 2)) mNil))))))
    (mSeq (mDrop (mLM gAppend (mVar 2) (mCons (mTup (mCons (mBin gIx (mVar 1) (mVar 3)) (mCons (mBin gIx (mVar 1) (mVar 4)) mNil))) mNil)))
    (mSeq (mSet 5 (mTup (mCons (mC (.str [99, 111, 109, 112, 97, 114, 101])) (mCons (mC (.str [61])) (mCons (mTup (mCons (mC (.str [114, 101, 102])) (mCons (mTup (mCons (mC (.str [97])) (mCons (mTup mNil) mNil))) mNil))) (mCons (mTup (mCons (mC (.str [110, 117, 109, 98, 101, 114])) (mCons (mTup (mCons (mC (.int 1)) (mCons (mC (.int 0)) mNil))) mNil))) mNil))))))
    (q__law_perform_1 C)))))
/- ['draws', 'names', 'found', 'levels', 'least', 'statements', 'k'] -/
noncomputable def l__law_block_1 (C : Tab) : MS := (mDrop (mLM gAppend (mVar 5) (mCons (mCall C._law_statement (mCons (mVar 0) (mCons (mVar 1) (mCons (mVar 2) (mCons (mVar 3) mNil))))) mNil)))
noncomputable def b__law_block (C : Tab) : MS := (mSeq (mSet 5 (mLoc mNil))
    (mSeq (mFor (iRange1 (mCons (mB gMax2 (mCons (mVar 4) (mCons (mBin gMns (mCall C._law_draw (mCons (mVar 0) (mCons (mC (.int 4)) mNil))) (mC (.int 1))) mNil))) mNil)) (gN 6) (l__law_block_1 C))
    (mRet (mB gTuple (mCons (mVar 5) mNil)))))
/- ['draws', 'names', 'found', 'levels', 'kind', 'inner', 'others', 'then', 'at_end'] -/
noncomputable def q__law_statement_1 (C : Tab) : MS := (mSeq (mIf (asB (mBin gEq (mVar 4) (mC (.int 6)))) (mSeq (mSet 8 (mCall C._law_block (mCons (mVar 0) (mCons (mVar 1) (mCons (mVar 2) (mCons (mBin gMns (mVar 3) (mC (.int 1))) (mCons (mC (.int 0)) mNil)))))))
    (mRet (mTup (mCons (mC (.str [114, 101, 97, 100])) (mCons (mC (.str [102])) (mCons (mVar 8) (mCons (mCall C._law_block (mCons (mVar 0) (mCons (mVar 1) (mCons (mVar 2) (mCons (mBin gMns (mVar 3) (mC (.int 1))) (mCons (mC (.int 0)) mNil)))))) mNil))))))) mSkip)
    (mSeq (mSet 5 (mCall C._law_block (mCons (mVar 0) (mCons (mVar 1) (mCons (mVar 2) (mCons (mBin gMns (mVar 3) (mC (.int 1))) (mCons (mC (.int 0)) mNil)))))))
    (mSeq (mIf (asB (mBin gEq (mVar 4) (mC (.int 7)))) (mRet (mTup (mCons (mC (.str [115, 101, 116])) (mCons (mTup (mCons (mC (.str [97])) (mCons (mTup mNil) mNil))) (mCons (mC (.bl false)) (mCons (mTup (mCons (mC (.str [110, 117, 109, 98, 101, 114])) (mCons (mTup (mCons (mC (.int 5)) (mCons (mC (.int 0)) mNil))) mNil))) (mCons (mVar 5) mNil))))))) mSkip)
    (mRet (mTup (mCons (mC (.str [100, 105, 118, 105, 100, 101])) (mCons (mTup (mCons (mC (.str [110, 117, 109, 98, 101, 114])) (mCons (mTup (mCons (mC (.int 5)) (mCons (mC (.int 0)) mNil))) mNil))) (mCons (mTup (mCons (mC (.str [110, 117, 109, 98, 101, 114])) (mCons (mTup (mCons (mC (.int 2)) (mCons (mC (.int 0)) mNil))) mNil))) (mCons (mTup (mCons (mC (.str [97])) (mCons (mTup mNil) mNil))) (mCons (mC (.bl true)) (mCons (mBin gIx (mLst (mCons (mC .non) (mCons (mTup (mCons (mC (.str [98])) (mCons (mTup mNil) mNil))) mNil))) (mCall C._law_draw (mCons (mVar 0) (mCons (mC (.int 2)) mNil)))) (mCons (mVar 5) mNil))))))))))))
noncomputable def b__law_statement (C : Tab) : MS := (mSeq (mSet 4 (mCall C._law_draw (mCons (mVar 0) (mCons (mC (.int 9)) mNil))))
    (mSeq (mIf (asB (mBin gLt (mVar 4) (mC (.int 3)))) (mRet (mCall C._law_perform (mCons (mVar 0) (mCons (mVar 1) (mCons (mVar 2) mNil))))) mSkip)
    (mSeq (mIf (mOr (asB (mBin gLt (mVar 4) (mC (.int 5)))) (asB (mBin gEq (mVar 3) (mC (.int 1))))) (mSeq (mSet 6 (mLst (mCons (mTup (mCons (mC (.str [115, 116, 111, 112])) mNil)) (mCons (mTup (mCons (mC (.str [119, 114, 105, 116, 101])) (mCons (mC (.str [102])) mNil))) (mCons (mTup (mCons (mC (.str [99, 108, 101, 97, 114])) (mCons (mTup (mCons (mC (.str [97])) (mCons (mTup mNil) mNil))) mNil))) (mCons (mTup (mCons (mC (.str [115, 104, 111, 119])) (mCons (mTup (mCons (mTup (mCons (mC (.str [116, 101, 120, 116])) (mCons (mC (.str [112, 101, 114, 102, 111, 114, 109])) mNil))) mNil)) mNil))) (mCons (mTup (mCons (mC (.str [115, 111, 114, 116])) (mCons (mC (.str [116])) (mCons (mC (.str [107])) (mCons (mC (.bl true)) mNil))))) mNil)))))))
    (mRet (mBin gIx (mBin gAdd (mVar 6) (mLst (mCons (mTup (mCons (mC (.str [109, 111, 118, 101])) (mCons (mTup (mCons (mC (.str [110, 117, 109, 98, 101, 114])) (mCons (mTup (mCons (mC (.int 1)) (mCons (mC (.int 0)) mNil))) mNil))) (mCons (mTup (mCons (mC (.str [97])) (mCons (mTup mNil) mNil))) mNil)))) mNil))) (mCall C._law_draw (mCons (mVar 0) (mCons (mC (.int 6)) mNil)))))) mSkip)
    (mSeq (mIf (asB (mBin gEq (mVar 4) (mC (.int 5)))) (mSeq (mSet 7 (mCall C._law_block (mCons (mVar 0) (mCons (mVar 1) (mCons (mVar 2) (mCons (mBin gMns (mVar 3) (mC (.int 1))) (mCons (mC (.int 1)) mNil)))))))
    (mRet (mTup (mCons (mC (.str [105, 102])) (mCons (mTup (mCons (mC (.str [100, 105, 103, 105, 116, 115])) (mCons (mTup (mCons (mC (.str [97])) (mCons (mTup mNil) mNil))) mNil))) (mCons (mVar 7) (mCons (mCall C._law_block (mCons (mVar 0) (mCons (mVar 1) (mCons (mVar 2) (mCons (mBin gMns (mVar 3) (mC (.int 1))) (mCons (mC (.int 0)) mNil)))))) mNil))))))) mSkip)
    (q__law_statement_1 C)))))
/- ['script', 'draws', 'count', 'names', 'paragraphs', 'due', 'k', 'found', 'statements', 'pairs', 'places', 'j', 'first', 'last'] -/
noncomputable def l_law_1 (C : Tab) : MS := (mIf (asB (mBin gGt (mB gLen (mCons (mComp (iAny (mVar 7)) false [12, 13] [12, 13] (mAnd (asB (mBin gLe (mIdx (mVar 3) (mCons (mVar 12) mNil)) (mVar 11))) (asB (mBin gLe (mVar 11) (mIdx (mVar 3) (mCons (mVar 13) mNil))))) (mC (.int 1))) mNil)) (mC (.int 0)))) (mDrop (mLM gAppend (mVar 10) (mCons (mVar 11) mNil))) mSkip)
noncomputable def q_law_1 (C : Tab) : MS := (mSeq (mIf (mOr (mNot (asB (mB gIsi (mCons (mVar 9) (mCons (mC (.ty "list")) mNil))))) (mNot (asB (mCall C._law_same (mCons (mB gTuple (mCons (mVar 9) mNil)) (mCons (mB gTuple (mCons (mVar 7) mNil)) mNil)))))) (mRet (mC (.bl false))) mSkip)
    (mSeq (mSet 10 (mLoc mNil))
    (mSeq (mFor (iRange1 (mCons (mVar 2) mNil)) (gN 11) (l_law_1 C))
    (mDrop (mLM gAppend (mVar 5) (mCons (mB gTuple (mCons (mVar 10) mNil)) mNil))))))
noncomputable def l_law_2 (C : Tab) : MS := (mSeq (mSet 7 (mLoc mNil))
    (mSeq (mSet 8 (mB gTuple (mCons (mCompL (iRange1 (mCons (mCall C._law_draw (mCons (mVar 1) (mCons (mC (.int 5)) mNil))) mNil)) true [11] [11] mYes (mCall C._law_statement (mCons (mVar 1) (mCons (mVar 3) (mCons (mVar 7) (mCons (mC (.int 4)) mNil)))))) mNil)))
    (mSeq (mDrop (mLM gAppend (mVar 4) (mCons (mTup (mCons (mBin gIx (mVar 3) (mVar 6)) (mCons (mVar 8) mNil))) mNil)))
    (mSeq (mSet 9 (mCall C.performed (mCons (mVar 8) mNil)))
    (q_law_1 C)))))
noncomputable def q_law_2 (C : Tab) : MS := (mSeq (mSet 5 (mLoc mNil))
    (mSeq (mFor (iRange1 (mCons (mVar 2) mNil)) (gN 6) (l_law_2 C))
    (mRet (mCall C._law_same (mCons (mCall C.graph_of (mCons (mB gTuple (mCons (mVar 4) mNil)) mNil)) (mCons (mB gTuple (mCons (mVar 5) mNil)) mNil))))))
noncomputable def b_law (C : Tab) : MS := (mSeq (mSet 1 (mCall C._law_draws (mCons (mVar 0) mNil)))
    (mSeq (mSet 2 (mBin gAdd (mC (.int 1)) (mCall C._law_draw (mCons (mVar 1) (mCons (mBin gIx (mLst (mCons (mC (.int 9)) (mCons (mC (.int 40)) mNil))) (mB gIntA (mCons (mBin gEq (mCall C._law_draw (mCons (mVar 1) (mCons (mC (.int 5)) mNil))) (mC (.int 0))) mNil))) mNil)))))
    (mSeq (mSet 3 (mCall C._law_names (mCons (mVar 1) (mCons (mVar 2) mNil))))
    (mSeq (mSet 4 (mLoc mNil))
    (q_law_2 C)))))
noncomputable def step (C : Tab) : Tab where
  performed := runT 3 (b_performed C)
  graph_of := runT 10 (b_graph_of C)
  _law_draws := runT 1 (b__law_draws C)
  _law_draw := runB 4 (b__law_draw C)
  _law_same := runB 3 (b__law_same C)
  _law_reserved := runB 1 (b__law_reserved C)
  _law_name := runB 6 (b__law_name C)
  _law_names := runT 6 (b__law_names C)
  _law_perform := runT 7 (b__law_perform C)
  _law_block := runT 7 (b__law_block C)
  _law_statement := runB 9 (b__law_statement C)
  law := runB 14 (b_law C)
noncomputable def T : Nat → Tab
  | 0 => Tab.bad
  | k + 1 => step (T k)
theorem T_succ (k : Nat) : T (k + 1) = step (T k) := rfl
theorem T_performed (k : Nat) : (T (k + 1)).performed = runT 3 (b_performed (T k)) := by rw [T_succ]; unfold step; rfl
theorem T_graph_of (k : Nat) : (T (k + 1)).graph_of = runT 10 (b_graph_of (T k)) := by rw [T_succ]; unfold step; rfl
theorem T__law_draws (k : Nat) : (T (k + 1))._law_draws = runT 1 (b__law_draws (T k)) := by rw [T_succ]; unfold step; rfl
theorem T__law_draw (k : Nat) : (T (k + 1))._law_draw = runB 4 (b__law_draw (T k)) := by rw [T_succ]; unfold step; rfl
theorem T__law_same (k : Nat) : (T (k + 1))._law_same = runB 3 (b__law_same (T k)) := by rw [T_succ]; unfold step; rfl
theorem T__law_reserved (k : Nat) : (T (k + 1))._law_reserved = runB 1 (b__law_reserved (T k)) := by rw [T_succ]; unfold step; rfl
theorem T__law_name (k : Nat) : (T (k + 1))._law_name = runB 6 (b__law_name (T k)) := by rw [T_succ]; unfold step; rfl
theorem T__law_names (k : Nat) : (T (k + 1))._law_names = runT 6 (b__law_names (T k)) := by rw [T_succ]; unfold step; rfl
theorem T__law_perform (k : Nat) : (T (k + 1))._law_perform = runT 7 (b__law_perform (T k)) := by rw [T_succ]; unfold step; rfl
theorem T__law_block (k : Nat) : (T (k + 1))._law_block = runT 7 (b__law_block (T k)) := by rw [T_succ]; unfold step; rfl
theorem T__law_statement (k : Nat) : (T (k + 1))._law_statement = runB 9 (b__law_statement (T k)) := by rw [T_succ]; unfold step; rfl
theorem T_law (k : Nat) : (T (k + 1)).law = runB 14 (b_law (T k)) := by rw [T_succ]; unfold step; rfl
/-- what the module's names stand for -/
structure Gs (P : Program) (w : World) (K : PySem.W.Frag) (mg : Str → Option Value) (base : Heap) (k : Nat) (C : Tab) : Prop where
  wb : w.params.followText "set-order" = WB.b
  c_performed : CallF P w K mg base k "performed" 1 C.performed
  c_graph_of : CallF P w K mg base k "graph_of" 1 C.graph_of
  c__law_draws : CallF P w K mg base k "_law_draws" 1 C._law_draws
  c__law_draw : CallF P w K mg base k "_law_draw" 2 C._law_draw
  c__law_same : CallF P w K mg base k "_law_same" 2 C._law_same
  c__law_reserved : CallF P w K mg base k "_law_reserved" 0 C._law_reserved
  c__law_name : CallF P w K mg base k "_law_name" 1 C._law_name
  c__law_names : CallF P w K mg base k "_law_names" 2 C._law_names
  c__law_perform : CallF P w K mg base k "_law_perform" 3 C._law_perform
  c__law_block : CallF P w K mg base k "_law_block" 5 C._law_block
  c__law_statement : CallF P w K mg base k "_law_statement" 4 C._law_statement
  c_law : CallF P w K mg base k "law" 1 C.law
  f_bool : mg "bool" = none
  f_enumerate : mg "enumerate" = none
  f_int : mg "int" = none
  f_isinstance : mg "isinstance" = none
  f_len : mg "len" = none
  f_list : mg "list" = none
  f_max : mg "max" = none
  f_range : mg "range" = none
  f_set : mg "set" = none
  f_sorted : mg "sorted" = none
  f_str : mg "str" = none
  f_tuple : mg "tuple" = none
theorem sc_performed : FnScope ["statements", "pairs", "statement"] ["statements"] (defScope s_performed) := ⟨rfl, rfl, rfl, by decide +kernel, rfl, by decide +kernel, by decide +kernel⟩
theorem d_performed {P : Program} {w : World} {K : PySem.W.Frag} {mg : Str → Option Value} {base : Heap} {k : Nat} {C : Tab} {f : Addr} {cdv : Value} {A : Around} {outer : List Env} {s : Shared} {H : Hp} {E : XK}
    (g : Gs P w K mg base k C) (hk : 2 ≤ k) (hr1 : Room (k + 1) (A.deeper (envOfC "performed" (defScope s_performed) s.heap.objs.size f cdv))) :
    BD (cxOf (L2.CX P w) P w K mg base ["statements", "pairs", "statement"] "performed" (defScope s_performed) f cdv A outer s H E) (WW.of (K := K) fun c d _ H => E c d H) (defBody s_performed) (b_performed C) := by
  have sc := sc_performed
  have hr := hr1.mono (Nat.le_succ k)
  have hr2 := hr.mono hk
  have tk : Takes (cxOf (L2.CX P w) P w K mg base ["statements", "pairs", "statement"] "performed" (defScope s_performed) f cdv A outer s H E) (fun c d _ H => E c d H) := takes_of rfl rfl rfl rfl
  have po := passes_of (X := cxOf (L2.CX P w) P w K mg base ["statements", "pairs", "statement"] "performed" (defScope s_performed) f cdv A outer s H E) rfl
  have hu := hr.units
  have hv := room65 hr
  have hd := room1 hr
  exact (bd_cons (sd_set (i := 1) sc.nd rfl (Or.inl rfl) (ed_loc ad_nil))
    (bd_cons (sd_for po rfl (id_any (ed_var (pv 0))) (gd_name (pg_name (i := 2) sc.nd rfl (Or.inl rfl))) (bd_one (sd_if (td_cmp (op_eqA hu) rp_eq (ed_ix ix_seq rp_ix (ed_var (pv 2)) ed_int (fun _ _ => rfl)) (ed_str (c := [112, 101, 114, 102, 111, 114, 109]) rfl) (nomark _)) (bd_one (sd_expr (ed_lm PySem.F.slot_list_append PySem.F.type_list_append mt_append rp_append (ed_var (pv 1)) (ad_cons (ed_tup (ad_cons (ed_ix ix_seq rp_ix (ed_var (pv 2)) ed_int (fun _ _ => rfl)) (ad_cons (ed_ix ix_seq rp_ix (ed_var (pv 2)) ed_int (fun _ _ => rfl)) ad_nil))) ad_nil)))) (bd_one (sd_if (td_cmp (op_inA hv) rp_in (ed_ix ix_seq rp_ix (ed_var (pv 2)) ed_int (fun _ _ => rfl)) (ed_tup (ad_cons (ed_str (c := [105, 102]) rfl) (ad_cons (ed_str (c := [114, 101, 97, 100]) rfl) ad_nil))) rfl) (bd_one (sd_expr (ed_lm PySem.F.slot_list_extend PySem.F.type_list_extend mt_extend rp_extend (ed_var (pv 1)) (ad_cons (ed_bin op_addD rp_add (ed_call g.c_performed hr tk rfl (ad_cons (ed_ix ix_seq rp_ix (ed_var (pv 2)) ed_int (fun _ _ => rfl)) ad_nil) (len_cons len_nil)) (ed_call g.c_performed hr tk rfl (ad_cons (ed_ix ix_seq rp_ix (ed_var (pv 2)) ed_int (fun _ _ => rfl)) ad_nil) (len_cons len_nil))) ad_nil)))) (bd_one (sd_if (td_cmp (op_inA hv) rp_in (ed_ix ix_seq rp_ix (ed_var (pv 2)) ed_int (fun _ _ => rfl)) (ed_tup (ad_cons (ed_str (c := [115, 101, 116]) rfl) (ad_cons (ed_str (c := [100, 105, 118, 105, 100, 101]) rfl) ad_nil))) rfl) (bd_one (sd_expr (ed_lm PySem.F.slot_list_extend PySem.F.type_list_extend mt_extend rp_extend (ed_var (pv 1)) (ad_cons (ed_call g.c_performed hr tk rfl (ad_cons (ed_ix ix_seq rp_ix (ed_var (pv 2)) (ed_un un_neg rp_neg ed_int) (fun _ _ => rfl)) ad_nil) (len_cons len_nil)) ad_nil)))) bd_nil)))))))
    (bd_one (sd_ret (ed_var (pv 1))))))
theorem sc_graph_of : FnScope ["paragraphs", "places", "rows", "_", "statements", "found", "start", "last", "index", "name"] ["paragraphs"] (defScope s_graph_of) := ⟨rfl, rfl, rfl, by decide +kernel, rfl, by decide +kernel, by decide +kernel⟩
theorem d_graph_of {P : Program} {w : World} {K : PySem.W.Frag} {mg : Str → Option Value} {base : Heap} {k : Nat} {C : Tab} {f : Addr} {cdv : Value} {A : Around} {outer : List Env} {s : Shared} {H : Hp} {E : XK}
    (g : Gs P w K mg base k C) (hk : 2 ≤ k) (hr1 : Room (k + 1) (A.deeper (envOfC "graph_of" (defScope s_graph_of) s.heap.objs.size f cdv))) :
    BD (cxOf (L2.CX P w) P w K mg base ["paragraphs", "places", "rows", "_", "statements", "found", "start", "last", "index", "name"] "graph_of" (defScope s_graph_of) f cdv A outer s H E) (WW.of (K := K) fun c d _ H => E c d H) (defBody s_graph_of) (b_graph_of C) := by
  have sc := sc_graph_of
  have hr := hr1.mono (Nat.le_succ k)
  have hr2 := hr.mono hk
  have tk : Takes (cxOf (L2.CX P w) P w K mg base ["paragraphs", "places", "rows", "_", "statements", "found", "start", "last", "index", "name"] "graph_of" (defScope s_graph_of) f cdv A outer s H E) (fun c d _ H => E c d H) := takes_of rfl rfl rfl rfl
  have po := passes_of (X := cxOf (L2.CX P w) P w K mg base ["paragraphs", "places", "rows", "_", "statements", "found", "start", "last", "index", "name"] "graph_of" (defScope s_graph_of) f cdv A outer s H E) rfl
  have hu := hr.units
  have hv := room65 hr
  have hd := room1 hr
  exact (bd_cons (sd_setDc (i := 1) (own := [("index", 8), ("name", 9), ("_", 3)]) rfl sc.nd rfl rfl (id_enum rfl g.f_enumerate (ad_cons (ed_var (pv 0)) ad_nil)) (blkOk_by (N := ["paragraphs", "places", "rows", "_", "statements", "found", "start", "last", "index", "name"]) (sc := defScope s_graph_of) (by decide +kernel)) rfl (by decide) (fun s_ H_ C_ cl_ fp_ => (pg_tup rfl (pgs_cons (pg_name (i := 8) sc.nd rfl (Or.inl rfl)) (pgs_cons (pg_tup rfl (pgs_cons (pg_name (i := 9) sc.nd rfl (Or.inl rfl)) (pgs_cons (pg_name (i := 3) sc.nd rfl (Or.inl rfl)) pgs_nil))) pgs_nil)))) (fun s_ H_ C_ cl_ fp_ => pd_nil) (fun s_ H_ C_ cl_ fp_ => (ed_var (pv 9))) (fun s_ H_ C_ cl_ fp_ => (ed_var (pv 8))))
    (bd_cons (sd_set (i := 2) sc.nd rfl (Or.inl rfl) (ed_loc ad_nil))
    (bd_cons (sd_for po rfl (id_any (ed_var (pv 0))) (gd_tup rfl (gds_cons (gd_name (pg_name (i := 3) sc.nd rfl (Or.inl rfl))) (gds_cons (gd_name (pg_name (i := 4) sc.nd rfl (Or.inl rfl))) gds_nil))) (bd_cons (sd_set (i := 5) sc.nd rfl (Or.inl rfl) (ed_set0 g.wb rfl rfl g.f_set))
    (bd_cons (sd_for po rfl (id_any (ed_call g.c_performed hr tk rfl (ad_cons (ed_var (pv 4)) ad_nil) (len_cons len_nil))) (gd_tup rfl (gds_cons (gd_name (pg_name (i := 6) sc.nd rfl (Or.inl rfl))) (gds_cons (gd_name (pg_name (i := 7) sc.nd rfl (Or.inl rfl))) gds_nil))) (bd_one (sd_for po rfl (id_range2 rfl g.f_range (ad_cons (ed_dget hd (ed_var (pv 1)) (ed_var (pv 6)) (fun _ _ => rfl)) (ad_cons (ed_bin op_addD rp_add (ed_dget hd (ed_var (pv 1)) (ed_var (pv 7)) (fun _ _ => rfl)) ed_int) ad_nil))) (gd_name (pg_name (i := 8) sc.nd rfl (Or.inl rfl))) (bd_one (sd_expr (ed_sadd g.wb (ed_var (pv 5)) (ad_cons (ed_var (pv 8)) ad_nil)))))))
    (bd_one (sd_expr (ed_lm PySem.F.slot_list_append PySem.F.type_list_append mt_append rp_append (ed_var (pv 2)) (ad_cons (ed_callTy call_tuple_of rp_tuple rfl g.f_tuple boot_tuple (ad_cons (ed_sortSet rfl g.wb rfl rfl g.f_sorted (ad_cons (ed_var (pv 5)) ad_nil)) ad_nil)) ad_nil)))))))
    (bd_one (sd_ret (ed_callTy call_tuple_of rp_tuple rfl g.f_tuple boot_tuple (ad_cons (ed_var (pv 2)) ad_nil)))))))
theorem sc__law_draws : FnScope ["script"] ["script"] (defScope s__law_draws) := ⟨rfl, rfl, rfl, by decide +kernel, rfl, by decide +kernel, by decide +kernel⟩
theorem d__law_draws {P : Program} {w : World} {K : PySem.W.Frag} {mg : Str → Option Value} {base : Heap} {k : Nat} {C : Tab} {f : Addr} {cdv : Value} {A : Around} {outer : List Env} {s : Shared} {H : Hp} {E : XK}
    (g : Gs P w K mg base k C) (hk : 2 ≤ k) (hr1 : Room (k + 1) (A.deeper (envOfC "_law_draws" (defScope s__law_draws) s.heap.objs.size f cdv))) :
    BD (cxOf (L2.CX P w) P w K mg base ["script"] "_law_draws" (defScope s__law_draws) f cdv A outer s H E) (WW.of (K := K) fun c d _ H => E c d H) (defBody s__law_draws) (b__law_draws C) := by
  have sc := sc__law_draws
  have hr := hr1.mono (Nat.le_succ k)
  have hr2 := hr.mono hk
  have tk : Takes (cxOf (L2.CX P w) P w K mg base ["script"] "_law_draws" (defScope s__law_draws) f cdv A outer s H E) (fun c d _ H => E c d H) := takes_of rfl rfl rfl rfl
  have po := passes_of (X := cxOf (L2.CX P w) P w K mg base ["script"] "_law_draws" (defScope s__law_draws) f cdv A outer s H E) rfl
  have hu := hr.units
  have hv := room65 hr
  have hd := room1 hr
  exact (bd_one (sd_ret (ed_loc (ad_cons (ed_callTy call_list_of rp_list rfl g.f_list boot_list (ad_cons (ed_var (pv 0)) ad_nil)) (ad_cons ed_int (ad_cons ed_int (ad_cons ed_int ad_nil)))))))
theorem sc__law_draw : FnScope ["draws", "limit", "cell", "value"] ["draws", "limit"] (defScope s__law_draw) := ⟨rfl, rfl, rfl, by decide +kernel, rfl, by decide +kernel, by decide +kernel⟩
theorem d__law_draw {P : Program} {w : World} {K : PySem.W.Frag} {mg : Str → Option Value} {base : Heap} {k : Nat} {C : Tab} {f : Addr} {cdv : Value} {A : Around} {outer : List Env} {s : Shared} {H : Hp} {E : XK}
    (g : Gs P w K mg base k C) (hk : 2 ≤ k) (hr1 : Room (k + 1) (A.deeper (envOfC "_law_draw" (defScope s__law_draw) s.heap.objs.size f cdv))) :
    BD (cxOf (L2.CX P w) P w K mg base ["draws", "limit", "cell", "value"] "_law_draw" (defScope s__law_draw) f cdv A outer s H E) (WW.of (K := K) fun c d _ H => E c d H) (defBody s__law_draw) (b__law_draw C) := by
  have sc := sc__law_draw
  have hr := hr1.mono (Nat.le_succ k)
  have hr2 := hr.mono hk
  have tk : Takes (cxOf (L2.CX P w) P w K mg base ["draws", "limit", "cell", "value"] "_law_draw" (defScope s__law_draw) f cdv A outer s H E) (fun c d _ H => E c d H) := takes_of rfl rfl rfl rfl
  have po := passes_of (X := cxOf (L2.CX P w) P w K mg base ["draws", "limit", "cell", "value"] "_law_draw" (defScope s__law_draw) f cdv A outer s H E) rfl
  have hu := hr.units
  have hv := room65 hr
  have hd := room1 hr
  exact (bd_cons (sd_if (td_w (wd_and (td_cmp (op_eqA hu) rp_eq (ed_ix ix_seq rp_ix (ed_var (pv 0)) ed_int (fun _ _ => rfl)) ed_int (nomark _)) (wd_and1 (td_cmp op_ltD rp_lt (ed_ix ix_seq rp_ix (ed_var (pv 0)) ed_int (fun _ _ => rfl)) (ed_callB call_len rp_len rfl g.f_len boot_len (ad_cons (ed_ix ix_seq rp_ix (ed_var (pv 0)) ed_int (fun _ _ => rfl)) ad_nil)) (nomark _))))) (bd_cons (sd_set (i := 2) sc.nd rfl (Or.inl rfl) (ed_ix ix_seq rp_ix (ed_ix ix_seq rp_ix (ed_var (pv 0)) ed_int (fun _ _ => rfl)) (ed_ix ix_seq rp_ix (ed_var (pv 0)) ed_int (fun _ _ => rfl)) (fun _ _ => rfl)))
    (bd_cons (sd_asg (ed_bin op_addD rp_add (ed_ix ix_seq rp_ix (ed_var (pv 0)) ed_int (fun _ _ => rfl)) ed_int) (gd_sub (ed_var (pv 0)) ed_int))
    (bd_cons (sd_if (td_cmp op_geD rp_ge (ed_var (pv 2)) (ed_bin op_pow rp_pow ed_int ed_int) (nomark _)) (bd_one (sd_asg (ed_var (pv 2)) (gd_sub (ed_var (pv 0)) ed_int))) bd_nil)
    (bd_one (sd_asg (ed_bin op_mod rp_mod (ed_callTy (call_int_str.or call_int1) rp_intA rfl g.f_int boot_int (ad_cons (ed_bin op_addD rp_add (ed_bin op_addD rp_add (ed_bin op_mulA rp_mulA (ed_ix ix_seq rp_ix (ed_var (pv 0)) ed_int (fun _ _ => rfl)) ed_int) (ed_var (pv 2))) ed_int) ad_nil)) ed_int) (gd_sub (ed_var (pv 0)) ed_int)))))) bd_nil)
    (bd_cons (sd_if (td_cmp op_gtD rp_gt (ed_ix ix_seq rp_ix (ed_var (pv 0)) ed_int (fun _ _ => rfl)) ed_int (nomark _)) (bd_cons (sd_set (i := 3) sc.nd rfl (Or.inl rfl) (ed_bin op_mod rp_mod (ed_callTy (call_int_str.or call_int1) rp_intA rfl g.f_int boot_int (ad_cons (ed_ix ix_seq rp_ix (ed_var (pv 0)) ed_int (fun _ _ => rfl)) ad_nil)) (ed_var (pv 1))))
    (bd_cons (sd_asg (ed_bin op_fdivW rp_div (ed_ix ix_seq rp_ix (ed_var (pv 0)) ed_int (fun _ _ => rfl)) (ed_var (pv 1))) (gd_sub (ed_var (pv 0)) ed_int))
    (bd_one (sd_ret (ed_var (pv 3)))))) bd_nil)
    (bd_cons (sd_asg (ed_bin op_mod rp_mod (ed_callTy (call_int_str.or call_int1) rp_intA rfl g.f_int boot_int (ad_cons (ed_bin op_addD rp_add (ed_bin op_mulA rp_mulA (ed_ix ix_seq rp_ix (ed_var (pv 0)) ed_int (fun _ _ => rfl)) ed_int) ed_int) ad_nil)) ed_int) (gd_sub (ed_var (pv 0)) ed_int))
    (bd_one (sd_ret (ed_bin op_mod rp_mod (ed_callTy (call_int_str.or call_int1) rp_intA rfl g.f_int boot_int (ad_cons (ed_bin op_fdivW rp_div (ed_ix ix_seq rp_ix (ed_var (pv 0)) ed_int (fun _ _ => rfl)) ed_int) ad_nil)) (ed_var (pv 1))))))))
theorem sc__law_same : FnScope ["actual", "expected", "k"] ["actual", "expected"] (defScope s__law_same) := ⟨rfl, rfl, rfl, by decide +kernel, rfl, by decide +kernel, by decide +kernel⟩
theorem d__law_same {P : Program} {w : World} {K : PySem.W.Frag} {mg : Str → Option Value} {base : Heap} {k : Nat} {C : Tab} {f : Addr} {cdv : Value} {A : Around} {outer : List Env} {s : Shared} {H : Hp} {E : XK}
    (g : Gs P w K mg base k C) (hk : 2 ≤ k) (hr1 : Room (k + 1) (A.deeper (envOfC "_law_same" (defScope s__law_same) s.heap.objs.size f cdv))) :
    BD (cxOf (L2.CX P w) P w K mg base ["actual", "expected", "k"] "_law_same" (defScope s__law_same) f cdv A outer s H E) (WW.of (K := K) fun c d _ H => E c d H) (defBody s__law_same) (b__law_same C) := by
  have sc := sc__law_same
  have hr := hr1.mono (Nat.le_succ k)
  have hr2 := hr.mono hk
  have tk : Takes (cxOf (L2.CX P w) P w K mg base ["actual", "expected", "k"] "_law_same" (defScope s__law_same) f cdv A outer s H E) (fun c d _ H => E c d H) := takes_of rfl rfl rfl rfl
  have po := passes_of (X := cxOf (L2.CX P w) P w K mg base ["actual", "expected", "k"] "_law_same" (defScope s__law_same) f cdv A outer s H E) rfl
  have hu := hr.units
  have hv := room65 hr
  have hd := room1 hr
  exact (bd_cons (sd_if (td_val (ed_callB call_isi rp_isi rfl g.f_isinstance boot_isinstance (ad_cons (ed_var (pv 1)) (ad_cons (ed_ty rfl g.f_tuple boot_tuple) ad_nil)))) (bd_cons (sd_if (td_w (wd_or (td_not (td_val (ed_callB call_isi rp_isi rfl g.f_isinstance boot_isinstance (ad_cons (ed_var (pv 0)) (ad_cons (ed_ty rfl g.f_tuple boot_tuple) ad_nil))))) (wd_or1 (td_cmp (op_neA hu) rp_ne (ed_callB call_len rp_len rfl g.f_len boot_len (ad_cons (ed_var (pv 0)) ad_nil)) (ed_callB call_len rp_len rfl g.f_len boot_len (ad_cons (ed_var (pv 1)) ad_nil)) (nomark _))))) (bd_one (sd_ret ed_bl)) bd_nil)
    (bd_cons (sd_for po rfl (id_range1 rfl g.f_range (ad_cons (ed_callB call_len rp_len rfl g.f_len boot_len (ad_cons (ed_var (pv 1)) ad_nil)) ad_nil)) (gd_name (pg_name (i := 2) sc.nd rfl (Or.inl rfl))) (bd_one (sd_if (td_not (td_val (ed_call g.c__law_same hr tk rfl (ad_cons (ed_ix ix_seq rp_ix (ed_var (pv 0)) (ed_var (pv 2)) (fun _ _ => rfl)) (ad_cons (ed_ix ix_seq rp_ix (ed_var (pv 1)) (ed_var (pv 2)) (fun _ _ => rfl)) ad_nil)) (len_cons (len_cons len_nil))))) (bd_one (sd_ret ed_bl)) bd_nil)))
    (bd_one (sd_ret ed_bl)))) bd_nil)
    (bd_cons (sd_if (td_val (ed_callB call_isi rp_isi rfl g.f_isinstance boot_isinstance (ad_cons (ed_var (pv 1)) (ad_cons (ed_ty rfl g.f_str boot_str) ad_nil)))) (bd_one (sd_ret (ed_and (ed_callB call_isi rp_isi rfl g.f_isinstance boot_isinstance (ad_cons (ed_var (pv 0)) (ad_cons (ed_ty rfl g.f_str boot_str) ad_nil))) (ed_one (ed_cmp (op_eqA hu) rp_eq (ed_var (pv 0)) (ed_var (pv 1)) (nomark _)))))) bd_nil)
    (bd_cons (sd_if (td_cmp op_isN rp_isN (ed_var (pv 1)) ed_non (nomark _)) (bd_one (sd_ret (ed_cmp op_isN rp_isN (ed_var (pv 0)) ed_non (nomark _)))) bd_nil)
    (bd_cons (sd_if (td_w (wd_or (td_val (ed_callB call_isi rp_isi rfl g.f_isinstance boot_isinstance (ad_cons (ed_var (pv 1)) (ad_cons (ed_ty rfl g.f_bool boot_bool) ad_nil)))) (wd_or1 (td_val (ed_callB call_isi rp_isi rfl g.f_isinstance boot_isinstance (ad_cons (ed_var (pv 0)) (ad_cons (ed_ty rfl g.f_bool boot_bool) ad_nil))))))) (bd_one (sd_ret (ed_and (ed_callB call_isi rp_isi rfl g.f_isinstance boot_isinstance (ad_cons (ed_var (pv 1)) (ad_cons (ed_ty rfl g.f_bool boot_bool) ad_nil))) (ed_and (ed_callB call_isi rp_isi rfl g.f_isinstance boot_isinstance (ad_cons (ed_var (pv 0)) (ad_cons (ed_ty rfl g.f_bool boot_bool) ad_nil))) (ed_one (ed_cmp (op_eqA hu) rp_eq (ed_var (pv 0)) (ed_var (pv 1)) (nomark _))))))) bd_nil)
    (bd_one (sd_ret (ed_and (ed_callB call_isi rp_isi rfl g.f_isinstance boot_isinstance (ad_cons (ed_var (pv 0)) (ad_cons (ed_ty rfl g.f_int boot_int) ad_nil))) (ed_one (ed_cmp (op_eqA hu) rp_eq (ed_var (pv 0)) (ed_var (pv 1)) (nomark _))))))))))
theorem sc__law_reserved : FnScope ["words"] [] (defScope s__law_reserved) := ⟨rfl, rfl, rfl, by decide +kernel, rfl, by decide +kernel, by decide +kernel⟩
theorem d__law_reserved {P : Program} {w : World} {K : PySem.W.Frag} {mg : Str → Option Value} {base : Heap} {k : Nat} {C : Tab} {f : Addr} {cdv : Value} {A : Around} {outer : List Env} {s : Shared} {H : Hp} {E : XK}
    (g : Gs P w K mg base k C) (hk : 2 ≤ k) (hr1 : Room (k + 1) (A.deeper (envOfC "_law_reserved" (defScope s__law_reserved) s.heap.objs.size f cdv))) :
    BD (cxOf (L2.CX P w) P w K mg base ["words"] "_law_reserved" (defScope s__law_reserved) f cdv A outer s H E) (WW.of (K := K) fun c d _ H => E c d H) (defBody s__law_reserved) (b__law_reserved C) := by
  have sc := sc__law_reserved
  have hr := hr1.mono (Nat.le_succ k)
  have hr2 := hr.mono hk
  have tk : Takes (cxOf (L2.CX P w) P w K mg base ["words"] "_law_reserved" (defScope s__law_reserved) f cdv A outer s H E) (fun c d _ H => E c d H) := takes_of rfl rfl rfl rfl
  have po := passes_of (X := cxOf (L2.CX P w) P w K mg base ["words"] "_law_reserved" (defScope s__law_reserved) f cdv A outer s H E) rfl
  have hu := hr.units
  have hv := room65 hr
  have hd := room1 hr
  exact (bd_cons (sd_set (i := 0) sc.nd rfl (Or.inl rfl) (ed_lst (ad_cons (ed_str (c := [112, 114, 111, 103, 114, 97, 109]) rfl) (ad_cons (ed_str (c := [100, 97, 116, 97]) rfl) (ad_cons (ed_str (c := [102, 105, 108, 101, 115]) rfl) (ad_cons (ed_str (c := [112, 114, 111, 99, 101, 100, 117, 114, 101]) rfl) (ad_cons (ed_str (c := [112, 105, 99, 116, 117, 114, 101]) rfl) (ad_cons (ed_str (c := [111, 99, 99, 117, 114, 115]) rfl) (ad_cons (ed_str (c := [118, 97, 108, 117, 101]) rfl) (ad_cons (ed_str (c := [105, 110, 112, 117, 116]) rfl) (ad_cons (ed_str (c := [111, 117, 116, 112, 117, 116]) rfl) (ad_cons (ed_str (c := [114, 101, 99, 111, 114, 100]) rfl) (ad_cons (ed_str (c := [109, 111, 118, 101]) rfl) (ad_cons (ed_str (c := [116, 111]) rfl) ad_nil))))))))))))))
    (bd_cons (sd_set (i := 0) sc.nd rfl (Or.inl rfl) (ed_bin op_addD rp_add (ed_var (pv 0)) (ed_lst (ad_cons (ed_str (c := [115, 101, 116]) rfl) (ad_cons (ed_str (c := [114, 111, 117, 110, 100, 101, 100]) rfl) (ad_cons (ed_str (c := [101, 108, 115, 101]) rfl) (ad_cons (ed_str (c := [101, 110, 100]) rfl) (ad_cons (ed_str (c := [100, 105, 118, 105, 100, 101]) rfl) (ad_cons (ed_str (c := [98, 121]) rfl) (ad_cons (ed_str (c := [103, 105, 118, 105, 110, 103]) rfl) (ad_cons (ed_str (c := [114, 101, 109, 97, 105, 110, 100, 101, 114]) rfl) (ad_cons (ed_str (c := [105, 102]) rfl) (ad_cons (ed_str (c := [116, 104, 101, 110]) rfl) (ad_cons (ed_str (c := [112, 101, 114, 102, 111, 114, 109]) rfl) (ad_cons (ed_str (c := [116, 104, 114, 117]) rfl) ad_nil)))))))))))))))
    (bd_cons (sd_set (i := 0) sc.nd rfl (Or.inl rfl) (ed_bin op_addD rp_add (ed_var (pv 0)) (ed_lst (ad_cons (ed_str (c := [116, 105, 109, 101, 115]) rfl) (ad_cons (ed_str (c := [117, 110, 116, 105, 108]) rfl) (ad_cons (ed_str (c := [118, 97, 114, 121, 105, 110, 103]) rfl) (ad_cons (ed_str (c := [102, 114, 111, 109]) rfl) (ad_cons (ed_str (c := [114, 101, 97, 100]) rfl) (ad_cons (ed_str (c := [97, 116]) rfl) (ad_cons (ed_str (c := [98, 97, 100]) rfl) (ad_cons (ed_str (c := [119, 114, 105, 116, 101]) rfl) (ad_cons (ed_str (c := [115, 104, 111, 119]) rfl) (ad_cons (ed_str (c := [115, 111, 114, 116]) rfl) (ad_cons (ed_str (c := [100, 101, 115, 99, 101, 110, 100, 105, 110, 103]) rfl) (ad_cons (ed_str (c := [99, 108, 101, 97, 114]) rfl) ad_nil)))))))))))))))
    (bd_one (sd_ret (ed_bin op_addD rp_add (ed_var (pv 0)) (ed_lst (ad_cons (ed_str (c := [115, 116, 111, 112]) rfl) (ad_cons (ed_str (c := [110, 111, 116]) rfl) (ad_cons (ed_str (c := [97, 110, 100]) rfl) (ad_cons (ed_str (c := [111, 114]) rfl) (ad_cons (ed_str (c := [100, 105, 103, 105, 116, 115]) rfl) (ad_cons (ed_str (c := [116, 101, 120, 116]) rfl) ad_nil)))))))))))))
theorem sc__law_name : FnScope ["draws", "letters", "size", "name", "k", "marks"] ["draws"] (defScope s__law_name) := ⟨rfl, rfl, rfl, by decide +kernel, rfl, by decide +kernel, by decide +kernel⟩
theorem d__law_name {P : Program} {w : World} {K : PySem.W.Frag} {mg : Str → Option Value} {base : Heap} {k : Nat} {C : Tab} {f : Addr} {cdv : Value} {A : Around} {outer : List Env} {s : Shared} {H : Hp} {E : XK}
    (g : Gs P w K mg base k C) (hk : 2 ≤ k) (hr1 : Room (k + 1) (A.deeper (envOfC "_law_name" (defScope s__law_name) s.heap.objs.size f cdv))) :
    BD (cxOf (L2.CX P w) P w K mg base ["draws", "letters", "size", "name", "k", "marks"] "_law_name" (defScope s__law_name) f cdv A outer s H E) (WW.of (K := K) fun c d _ H => E c d H) (defBody s__law_name) (b__law_name C) := by
  have sc := sc__law_name
  have hr := hr1.mono (Nat.le_succ k)
  have hr2 := hr.mono hk
  have tk : Takes (cxOf (L2.CX P w) P w K mg base ["draws", "letters", "size", "name", "k", "marks"] "_law_name" (defScope s__law_name) f cdv A outer s H E) (fun c d _ H => E c d H) := takes_of rfl rfl rfl rfl
  have po := passes_of (X := cxOf (L2.CX P w) P w K mg base ["draws", "letters", "size", "name", "k", "marks"] "_law_name" (defScope s__law_name) f cdv A outer s H E) rfl
  have hu := hr.units
  have hv := room65 hr
  have hd := room1 hr
  exact (bd_cons (sd_set (i := 1) sc.nd rfl (Or.inl rfl) (ed_str (c := [97, 98, 99, 100, 101, 102, 103, 104, 105, 106, 107, 108, 109, 110, 111, 112, 113, 114, 115, 116, 117, 118, 119, 120, 121, 122]) rfl))
    (bd_cons (sd_set (i := 2) sc.nd rfl (Or.inl rfl) (ed_bin op_addD rp_add ed_int (ed_call g.c__law_draw hr tk rfl (ad_cons (ed_var (pv 0)) (ad_cons ed_int ad_nil)) (len_cons (len_cons len_nil)))))
    (bd_cons (sd_if (td_cmp (op_eqA hu) rp_eq (ed_call g.c__law_draw hr tk rfl (ad_cons (ed_var (pv 0)) (ad_cons ed_int ad_nil)) (len_cons (len_cons len_nil))) ed_int (nomark _)) (bd_one (sd_set (i := 2) sc.nd rfl (Or.inl rfl) (ed_bin op_addD rp_add ed_int (ed_call g.c__law_draw hr tk rfl (ad_cons (ed_var (pv 0)) (ad_cons ed_int ad_nil)) (len_cons (len_cons len_nil)))))) bd_nil)
    (bd_cons (sd_set (i := 3) sc.nd rfl (Or.inl rfl) (ed_ix ix_seq rp_ix (ed_var (pv 1)) (ed_call g.c__law_draw hr tk rfl (ad_cons (ed_var (pv 0)) (ad_cons ed_int ad_nil)) (len_cons (len_cons len_nil))) (fun _ _ => rfl)))
    (bd_cons (sd_for po rfl (id_range1 rfl g.f_range (ad_cons (ed_bin op_sub rp_sub (ed_var (pv 2)) ed_int) ad_nil)) (gd_name (pg_name (i := 4) sc.nd rfl (Or.inl rfl))) (bd_cons (sd_set (i := 5) sc.nd rfl (Or.inl rfl) (ed_bin op_addD rp_add (ed_var (pv 1)) (ed_str (c := [48, 49, 50, 51, 52, 53, 54, 55, 56, 57]) rfl)))
    (bd_cons (sd_if (td_cmp op_ltD rp_lt (ed_var (pv 4)) (ed_bin op_sub rp_sub (ed_var (pv 2)) ed_int) (nomark _)) (bd_one (sd_set (i := 5) sc.nd rfl (Or.inl rfl) (ed_bin op_addD rp_add (ed_var (pv 5)) (ed_str (c := [45]) rfl)))) bd_nil)
    (bd_one (sd_set (i := 3) sc.nd rfl (Or.inl rfl) (ed_bin op_addD rp_add (ed_var (pv 3)) (ed_ix ix_seq rp_ix (ed_var (pv 5)) (ed_call g.c__law_draw hr tk rfl (ad_cons (ed_var (pv 0)) (ad_cons (ed_callB call_len rp_len rfl g.f_len boot_len (ad_cons (ed_var (pv 5)) ad_nil)) ad_nil)) (len_cons (len_cons len_nil))) (fun _ _ => rfl))))))))
    (bd_cons (sd_if (td_cmp (op_inA hv) rp_in (ed_var (pv 3)) (ed_call0 g.c__law_reserved hr tk rfl) rfl) (bd_one (sd_ret (ed_bin op_addD rp_add (ed_var (pv 3)) (ed_str (c := [48]) rfl)))) bd_nil)
    (bd_one (sd_ret (ed_var (pv 3))))))))))
theorem sc__law_names : FnScope ["draws", "count", "names", "k", "name", "j"] ["draws", "count"] (defScope s__law_names) := ⟨rfl, rfl, rfl, by decide +kernel, rfl, by decide +kernel, by decide +kernel⟩
theorem d__law_names {P : Program} {w : World} {K : PySem.W.Frag} {mg : Str → Option Value} {base : Heap} {k : Nat} {C : Tab} {f : Addr} {cdv : Value} {A : Around} {outer : List Env} {s : Shared} {H : Hp} {E : XK}
    (g : Gs P w K mg base k C) (hk : 2 ≤ k) (hr1 : Room (k + 1) (A.deeper (envOfC "_law_names" (defScope s__law_names) s.heap.objs.size f cdv))) :
    BD (cxOf (L2.CX P w) P w K mg base ["draws", "count", "names", "k", "name", "j"] "_law_names" (defScope s__law_names) f cdv A outer s H E) (WW.of (K := K) fun c d _ H => E c d H) (defBody s__law_names) (b__law_names C) := by
  have sc := sc__law_names
  have hr := hr1.mono (Nat.le_succ k)
  have hr2 := hr.mono hk
  have tk : Takes (cxOf (L2.CX P w) P w K mg base ["draws", "count", "names", "k", "name", "j"] "_law_names" (defScope s__law_names) f cdv A outer s H E) (fun c d _ H => E c d H) := takes_of rfl rfl rfl rfl
  have po := passes_of (X := cxOf (L2.CX P w) P w K mg base ["draws", "count", "names", "k", "name", "j"] "_law_names" (defScope s__law_names) f cdv A outer s H E) rfl
  have hu := hr.units
  have hv := room65 hr
  have hd := room1 hr
  exact (bd_cons (sd_set (i := 2) sc.nd rfl (Or.inl rfl) (ed_loc ad_nil))
    (bd_cons (sd_for po rfl (id_range1 rfl g.f_range (ad_cons (ed_var (pv 1)) ad_nil)) (gd_name (pg_name (i := 3) sc.nd rfl (Or.inl rfl))) (bd_cons (sd_set (i := 4) sc.nd rfl (Or.inl rfl) (ed_call g.c__law_name hr tk rfl (ad_cons (ed_var (pv 0)) ad_nil) (len_cons len_nil)))
    (bd_cons (sd_for po rfl (id_range1 rfl g.f_range (ad_cons (ed_bin op_addD rp_add (ed_var (pv 1)) ed_int) ad_nil)) (gd_name (pg_name (i := 5) sc.nd rfl (Or.inl rfl))) (bd_one (sd_if (td_cmp (op_inA hv) rp_in (ed_var (pv 4)) (ed_var (pv 2)) rfl) (bd_one (sd_set (i := 4) sc.nd rfl (Or.inl rfl) (ed_bin op_addD rp_add (ed_sl sl_any rp_sl (ed_var (pv 4)) od_none (od_some ed_int)) (ed_callTy call_str_int rp_str rfl g.f_str boot_str (ad_cons (ed_var (pv 5)) ad_nil))))) bd_nil)))
    (bd_one (sd_expr (ed_lm PySem.F.slot_list_append PySem.F.type_list_append mt_append rp_append (ed_var (pv 2)) (ad_cons (ed_var (pv 4)) ad_nil)))))))
    (bd_one (sd_ret (ed_var (pv 2))))))
theorem sc__law_perform : FnScope ["draws", "names", "found", "first", "last", "condition", "ways"] ["draws", "names", "found"] (defScope s__law_perform) := ⟨rfl, rfl, rfl, by decide +kernel, rfl, by decide +kernel, by decide +kernel⟩
theorem d__law_perform {P : Program} {w : World} {K : PySem.W.Frag} {mg : Str → Option Value} {base : Heap} {k : Nat} {C : Tab} {f : Addr} {cdv : Value} {A : Around} {outer : List Env} {s : Shared} {H : Hp} {E : XK}
    (g : Gs P w K mg base k C) (hk : 2 ≤ k) (hr1 : Room (k + 1) (A.deeper (envOfC "_law_perform" (defScope s__law_perform) s.heap.objs.size f cdv))) :
    BD (cxOf (L2.CX P w) P w K mg base ["draws", "names", "found", "first", "last", "condition", "ways"] "_law_perform" (defScope s__law_perform) f cdv A outer s H E) (WW.of (K := K) fun c d _ H => E c d H) (defBody s__law_perform) (b__law_perform C) := by
  have sc := sc__law_perform
  have hr := hr1.mono (Nat.le_succ k)
  have hr2 := hr.mono hk
  have tk : Takes (cxOf (L2.CX P w) P w K mg base ["draws", "names", "found", "first", "last", "condition", "ways"] "_law_perform" (defScope s__law_perform) f cdv A outer s H E) (fun c d _ H => E c d H) := takes_of rfl rfl rfl rfl
  have po := passes_of (X := cxOf (L2.CX P w) P w K mg base ["draws", "names", "found", "first", "last", "condition", "ways"] "_law_perform" (defScope s__law_perform) f cdv A outer s H E) rfl
  have hu := hr.units
  have hv := room65 hr
  have hd := room1 hr
  exact (bd_cons (sd_set (i := 3) sc.nd rfl (Or.inl rfl) (ed_call g.c__law_draw hr tk rfl (ad_cons (ed_var (pv 0)) (ad_cons (ed_callB call_len rp_len rfl g.f_len boot_len (ad_cons (ed_var (pv 1)) ad_nil)) ad_nil)) (len_cons (len_cons len_nil))))
    (bd_cons (sd_set (i := 4) sc.nd rfl (Or.inl rfl) (ed_bin op_addD rp_add (ed_var (pv 3)) (ed_ix ix_seq rp_ix (ed_lst (ad_cons ed_int (ad_cons (ed_call g.c__law_draw hr tk rfl (ad_cons (ed_var (pv 0)) (ad_cons (ed_bin op_sub rp_sub (ed_callB call_len rp_len rfl g.f_len boot_len (ad_cons (ed_var (pv 1)) ad_nil)) (ed_var (pv 3))) ad_nil)) (len_cons (len_cons len_nil))) ad_nil))) (ed_call g.c__law_draw hr tk rfl (ad_cons (ed_var (pv 0)) (ad_cons ed_int ad_nil)) (len_cons (len_cons len_nil))) (fun _ _ => rfl))))
    (bd_cons (sd_expr (ed_lm PySem.F.slot_list_append PySem.F.type_list_append mt_append rp_append (ed_var (pv 2)) (ad_cons (ed_tup (ad_cons (ed_ix ix_seq rp_ix (ed_var (pv 1)) (ed_var (pv 3)) (fun _ _ => rfl)) (ad_cons (ed_ix ix_seq rp_ix (ed_var (pv 1)) (ed_var (pv 4)) (fun _ _ => rfl)) ad_nil))) ad_nil)))
    (bd_cons (sd_set (i := 5) sc.nd rfl (Or.inl rfl) (ed_tup (ad_cons (ed_str (c := [99, 111, 109, 112, 97, 114, 101]) rfl) (ad_cons (ed_str (c := [61]) rfl) (ad_cons (ed_tup (ad_cons (ed_str (c := [114, 101, 102]) rfl) (ad_cons (ed_tup (ad_cons (ed_str (c := [97]) rfl) (ad_cons (ed_tup ad_nil) ad_nil))) ad_nil))) (ad_cons (ed_tup (ad_cons (ed_str (c := [110, 117, 109, 98, 101, 114]) rfl) (ad_cons (ed_tup (ad_cons ed_int (ad_cons ed_int ad_nil))) ad_nil))) ad_nil))))))
    (bd_cons (sd_set (i := 6) sc.nd rfl (Or.inl rfl) (ed_loc (ad_cons (ed_tup (ad_cons (ed_str (c := [111, 110, 99, 101]) rfl) ad_nil)) (ad_cons (ed_tup (ad_cons (ed_str (c := [116, 105, 109, 101, 115]) rfl) (ad_cons (ed_tup (ad_cons (ed_str (c := [110, 117, 109, 98, 101, 114]) rfl) (ad_cons (ed_tup (ad_cons ed_int (ad_cons ed_int ad_nil))) ad_nil))) ad_nil))) (ad_cons (ed_tup (ad_cons (ed_str (c := [117, 110, 116, 105, 108]) rfl) (ad_cons (ed_var (pv 5)) ad_nil))) ad_nil)))))
    (bd_cons (sd_expr (ed_lm PySem.F.slot_list_append PySem.F.type_list_append mt_append rp_append (ed_var (pv 6)) (ad_cons (ed_tup (ad_cons (ed_str (c := [118, 97, 114, 121, 105, 110, 103]) rfl) (ad_cons (ed_tup (ad_cons (ed_str (c := [97]) rfl) (ad_cons (ed_tup ad_nil) ad_nil))) (ad_cons (ed_tup (ad_cons (ed_str (c := [110, 117, 109, 98, 101, 114]) rfl) (ad_cons (ed_tup (ad_cons ed_int (ad_cons ed_int ad_nil))) ad_nil))) (ad_cons (ed_tup (ad_cons (ed_str (c := [110, 117, 109, 98, 101, 114]) rfl) (ad_cons (ed_tup (ad_cons ed_int (ad_cons ed_int ad_nil))) ad_nil))) (ad_cons (ed_var (pv 5)) ad_nil)))))) ad_nil)))
    (bd_one (sd_ret (ed_tup (ad_cons (ed_str (c := [112, 101, 114, 102, 111, 114, 109]) rfl) (ad_cons (ed_ix ix_seq rp_ix (ed_var (pv 1)) (ed_var (pv 3)) (fun _ _ => rfl)) (ad_cons (ed_ix ix_seq rp_ix (ed_var (pv 1)) (ed_var (pv 4)) (fun _ _ => rfl)) (ad_cons (ed_ix ix_seq rp_ix (ed_var (pv 6)) (ed_call g.c__law_draw hr tk rfl (ad_cons (ed_var (pv 0)) (ad_cons ed_int ad_nil)) (len_cons (len_cons len_nil))) (fun _ _ => rfl)) ad_nil)))))))))))))
theorem sc__law_block : FnScope ["draws", "names", "found", "levels", "least", "statements", "k"] ["draws", "names", "found", "levels", "least"] (defScope s__law_block) := ⟨rfl, rfl, rfl, by decide +kernel, rfl, by decide +kernel, by decide +kernel⟩
theorem d__law_block {P : Program} {w : World} {K : PySem.W.Frag} {mg : Str → Option Value} {base : Heap} {k : Nat} {C : Tab} {f : Addr} {cdv : Value} {A : Around} {outer : List Env} {s : Shared} {H : Hp} {E : XK}
    (g : Gs P w K mg base k C) (hk : 2 ≤ k) (hr1 : Room (k + 1) (A.deeper (envOfC "_law_block" (defScope s__law_block) s.heap.objs.size f cdv))) :
    BD (cxOf (L2.CX P w) P w K mg base ["draws", "names", "found", "levels", "least", "statements", "k"] "_law_block" (defScope s__law_block) f cdv A outer s H E) (WW.of (K := K) fun c d _ H => E c d H) (defBody s__law_block) (b__law_block C) := by
  have sc := sc__law_block
  have hr := hr1.mono (Nat.le_succ k)
  have hr2 := hr.mono hk
  have tk : Takes (cxOf (L2.CX P w) P w K mg base ["draws", "names", "found", "levels", "least", "statements", "k"] "_law_block" (defScope s__law_block) f cdv A outer s H E) (fun c d _ H => E c d H) := takes_of rfl rfl rfl rfl
  have po := passes_of (X := cxOf (L2.CX P w) P w K mg base ["draws", "names", "found", "levels", "least", "statements", "k"] "_law_block" (defScope s__law_block) f cdv A outer s H E) rfl
  have hu := hr.units
  have hv := room65 hr
  have hd := room1 hr
  exact (bd_cons (sd_set (i := 5) sc.nd rfl (Or.inl rfl) (ed_loc ad_nil))
    (bd_cons (sd_for po rfl (id_range1 rfl g.f_range (ad_cons (ed_callB (call_max2 rfl) rp_max2 rfl g.f_max boot_max (ad_cons (ed_var (pv 4)) (ad_cons (ed_bin op_sub rp_sub (ed_call g.c__law_draw hr tk rfl (ad_cons (ed_var (pv 0)) (ad_cons ed_int ad_nil)) (len_cons (len_cons len_nil))) ed_int) ad_nil))) ad_nil)) (gd_name (pg_name (i := 6) sc.nd rfl (Or.inl rfl))) (bd_one (sd_expr (ed_lm PySem.F.slot_list_append PySem.F.type_list_append mt_append rp_append (ed_var (pv 5)) (ad_cons (ed_call g.c__law_statement hr tk rfl (ad_cons (ed_var (pv 0)) (ad_cons (ed_var (pv 1)) (ad_cons (ed_var (pv 2)) (ad_cons (ed_var (pv 3)) ad_nil)))) (len_cons (len_cons (len_cons (len_cons len_nil))))) ad_nil)))))
    (bd_one (sd_ret (ed_callTy call_tuple_of rp_tuple rfl g.f_tuple boot_tuple (ad_cons (ed_var (pv 5)) ad_nil))))))
theorem sc__law_statement : FnScope ["draws", "names", "found", "levels", "kind", "inner", "others", "then", "at_end"] ["draws", "names", "found", "levels"] (defScope s__law_statement) := ⟨rfl, rfl, rfl, by decide +kernel, rfl, by decide +kernel, by decide +kernel⟩
theorem d__law_statement {P : Program} {w : World} {K : PySem.W.Frag} {mg : Str → Option Value} {base : Heap} {k : Nat} {C : Tab} {f : Addr} {cdv : Value} {A : Around} {outer : List Env} {s : Shared} {H : Hp} {E : XK}
    (g : Gs P w K mg base k C) (hk : 2 ≤ k) (hr1 : Room (k + 1) (A.deeper (envOfC "_law_statement" (defScope s__law_statement) s.heap.objs.size f cdv))) :
    BD (cxOf (L2.CX P w) P w K mg base ["draws", "names", "found", "levels", "kind", "inner", "others", "then", "at_end"] "_law_statement" (defScope s__law_statement) f cdv A outer s H E) (WW.of (K := K) fun c d _ H => E c d H) (defBody s__law_statement) (b__law_statement C) := by
  have sc := sc__law_statement
  have hr := hr1.mono (Nat.le_succ k)
  have hr2 := hr.mono hk
  have tk : Takes (cxOf (L2.CX P w) P w K mg base ["draws", "names", "found", "levels", "kind", "inner", "others", "then", "at_end"] "_law_statement" (defScope s__law_statement) f cdv A outer s H E) (fun c d _ H => E c d H) := takes_of rfl rfl rfl rfl
  have po := passes_of (X := cxOf (L2.CX P w) P w K mg base ["draws", "names", "found", "levels", "kind", "inner", "others", "then", "at_end"] "_law_statement" (defScope s__law_statement) f cdv A outer s H E) rfl
  have hu := hr.units
  have hv := room65 hr
  have hd := room1 hr
  exact (bd_cons (sd_set (i := 4) sc.nd rfl (Or.inl rfl) (ed_call g.c__law_draw hr tk rfl (ad_cons (ed_var (pv 0)) (ad_cons ed_int ad_nil)) (len_cons (len_cons len_nil))))
    (bd_cons (sd_if (td_cmp op_ltD rp_lt (ed_var (pv 4)) ed_int (nomark _)) (bd_one (sd_ret (ed_call g.c__law_perform hr tk rfl (ad_cons (ed_var (pv 0)) (ad_cons (ed_var (pv 1)) (ad_cons (ed_var (pv 2)) ad_nil))) (len_cons (len_cons (len_cons len_nil)))))) bd_nil)
    (bd_cons (sd_if (td_w (wd_or (td_cmp op_ltD rp_lt (ed_var (pv 4)) ed_int (nomark _)) (wd_or1 (td_cmp (op_eqA hu) rp_eq (ed_var (pv 3)) ed_int (nomark _))))) (bd_cons (sd_set (i := 6) sc.nd rfl (Or.inl rfl) (ed_lst (ad_cons (ed_tup (ad_cons (ed_str (c := [115, 116, 111, 112]) rfl) ad_nil)) (ad_cons (ed_tup (ad_cons (ed_str (c := [119, 114, 105, 116, 101]) rfl) (ad_cons (ed_str (c := [102]) rfl) ad_nil))) (ad_cons (ed_tup (ad_cons (ed_str (c := [99, 108, 101, 97, 114]) rfl) (ad_cons (ed_tup (ad_cons (ed_str (c := [97]) rfl) (ad_cons (ed_tup ad_nil) ad_nil))) ad_nil))) (ad_cons (ed_tup (ad_cons (ed_str (c := [115, 104, 111, 119]) rfl) (ad_cons (ed_tup (ad_cons (ed_tup (ad_cons (ed_str (c := [116, 101, 120, 116]) rfl) (ad_cons (ed_str (c := [112, 101, 114, 102, 111, 114, 109]) rfl) ad_nil))) ad_nil)) ad_nil))) (ad_cons (ed_tup (ad_cons (ed_str (c := [115, 111, 114, 116]) rfl) (ad_cons (ed_str (c := [116]) rfl) (ad_cons (ed_str (c := [107]) rfl) (ad_cons ed_bl ad_nil))))) ad_nil)))))))
    (bd_one (sd_ret (ed_ix ix_seq rp_ix (ed_bin op_addD rp_add (ed_var (pv 6)) (ed_lst (ad_cons (ed_tup (ad_cons (ed_str (c := [109, 111, 118, 101]) rfl) (ad_cons (ed_tup (ad_cons (ed_str (c := [110, 117, 109, 98, 101, 114]) rfl) (ad_cons (ed_tup (ad_cons ed_int (ad_cons ed_int ad_nil))) ad_nil))) (ad_cons (ed_tup (ad_cons (ed_str (c := [97]) rfl) (ad_cons (ed_tup ad_nil) ad_nil))) ad_nil)))) ad_nil))) (ed_call g.c__law_draw hr tk rfl (ad_cons (ed_var (pv 0)) (ad_cons ed_int ad_nil)) (len_cons (len_cons len_nil))) (fun _ _ => rfl))))) bd_nil)
    (bd_cons (sd_if (td_cmp (op_eqA hu) rp_eq (ed_var (pv 4)) ed_int (nomark _)) (bd_cons (sd_set (i := 7) sc.nd rfl (Or.inl rfl) (ed_call g.c__law_block hr tk rfl (ad_cons (ed_var (pv 0)) (ad_cons (ed_var (pv 1)) (ad_cons (ed_var (pv 2)) (ad_cons (ed_bin op_sub rp_sub (ed_var (pv 3)) ed_int) (ad_cons ed_int ad_nil))))) (len_cons (len_cons (len_cons (len_cons (len_cons len_nil)))))))
    (bd_one (sd_ret (ed_tup (ad_cons (ed_str (c := [105, 102]) rfl) (ad_cons (ed_tup (ad_cons (ed_str (c := [100, 105, 103, 105, 116, 115]) rfl) (ad_cons (ed_tup (ad_cons (ed_str (c := [97]) rfl) (ad_cons (ed_tup ad_nil) ad_nil))) ad_nil))) (ad_cons (ed_var (pv 7)) (ad_cons (ed_call g.c__law_block hr tk rfl (ad_cons (ed_var (pv 0)) (ad_cons (ed_var (pv 1)) (ad_cons (ed_var (pv 2)) (ad_cons (ed_bin op_sub rp_sub (ed_var (pv 3)) ed_int) (ad_cons ed_int ad_nil))))) (len_cons (len_cons (len_cons (len_cons (len_cons len_nil)))))) ad_nil)))))))) bd_nil)
    (bd_cons (sd_if (td_cmp (op_eqA hu) rp_eq (ed_var (pv 4)) ed_int (nomark _)) (bd_cons (sd_set (i := 8) sc.nd rfl (Or.inl rfl) (ed_call g.c__law_block hr tk rfl (ad_cons (ed_var (pv 0)) (ad_cons (ed_var (pv 1)) (ad_cons (ed_var (pv 2)) (ad_cons (ed_bin op_sub rp_sub (ed_var (pv 3)) ed_int) (ad_cons ed_int ad_nil))))) (len_cons (len_cons (len_cons (len_cons (len_cons len_nil)))))))
    (bd_one (sd_ret (ed_tup (ad_cons (ed_str (c := [114, 101, 97, 100]) rfl) (ad_cons (ed_str (c := [102]) rfl) (ad_cons (ed_var (pv 8)) (ad_cons (ed_call g.c__law_block hr tk rfl (ad_cons (ed_var (pv 0)) (ad_cons (ed_var (pv 1)) (ad_cons (ed_var (pv 2)) (ad_cons (ed_bin op_sub rp_sub (ed_var (pv 3)) ed_int) (ad_cons ed_int ad_nil))))) (len_cons (len_cons (len_cons (len_cons (len_cons len_nil)))))) ad_nil)))))))) bd_nil)
    (bd_cons (sd_set (i := 5) sc.nd rfl (Or.inl rfl) (ed_call g.c__law_block hr tk rfl (ad_cons (ed_var (pv 0)) (ad_cons (ed_var (pv 1)) (ad_cons (ed_var (pv 2)) (ad_cons (ed_bin op_sub rp_sub (ed_var (pv 3)) ed_int) (ad_cons ed_int ad_nil))))) (len_cons (len_cons (len_cons (len_cons (len_cons len_nil)))))))
    (bd_cons (sd_if (td_cmp (op_eqA hu) rp_eq (ed_var (pv 4)) ed_int (nomark _)) (bd_one (sd_ret (ed_tup (ad_cons (ed_str (c := [115, 101, 116]) rfl) (ad_cons (ed_tup (ad_cons (ed_str (c := [97]) rfl) (ad_cons (ed_tup ad_nil) ad_nil))) (ad_cons ed_bl (ad_cons (ed_tup (ad_cons (ed_str (c := [110, 117, 109, 98, 101, 114]) rfl) (ad_cons (ed_tup (ad_cons ed_int (ad_cons ed_int ad_nil))) ad_nil))) (ad_cons (ed_var (pv 5)) ad_nil)))))))) bd_nil)
    (bd_one (sd_ret (ed_tup (ad_cons (ed_str (c := [100, 105, 118, 105, 100, 101]) rfl) (ad_cons (ed_tup (ad_cons (ed_str (c := [110, 117, 109, 98, 101, 114]) rfl) (ad_cons (ed_tup (ad_cons ed_int (ad_cons ed_int ad_nil))) ad_nil))) (ad_cons (ed_tup (ad_cons (ed_str (c := [110, 117, 109, 98, 101, 114]) rfl) (ad_cons (ed_tup (ad_cons ed_int (ad_cons ed_int ad_nil))) ad_nil))) (ad_cons (ed_tup (ad_cons (ed_str (c := [97]) rfl) (ad_cons (ed_tup ad_nil) ad_nil))) (ad_cons ed_bl (ad_cons (ed_ix ix_seq rp_ix (ed_lst (ad_cons ed_non (ad_cons (ed_tup (ad_cons (ed_str (c := [98]) rfl) (ad_cons (ed_tup ad_nil) ad_nil))) ad_nil))) (ed_call g.c__law_draw hr tk rfl (ad_cons (ed_var (pv 0)) (ad_cons ed_int ad_nil)) (len_cons (len_cons len_nil))) (fun _ _ => rfl)) (ad_cons (ed_var (pv 5)) ad_nil)))))))))))))))))
theorem sc_law : FnScope ["script", "draws", "count", "names", "paragraphs", "due", "k", "found", "statements", "pairs", "places", "j", "first", "last"] ["script"] (defScope s_law) := ⟨rfl, rfl, rfl, by decide +kernel, rfl, by decide +kernel, by decide +kernel⟩
theorem d_law {P : Program} {w : World} {K : PySem.W.Frag} {mg : Str → Option Value} {base : Heap} {k : Nat} {C : Tab} {f : Addr} {cdv : Value} {A : Around} {outer : List Env} {s : Shared} {H : Hp} {E : XK}
    (g : Gs P w K mg base k C) (hk : 2 ≤ k) (hr1 : Room (k + 1) (A.deeper (envOfC "law" (defScope s_law) s.heap.objs.size f cdv))) :
    BD (cxOf (L2.CX P w) P w K mg base ["script", "draws", "count", "names", "paragraphs", "due", "k", "found", "statements", "pairs", "places", "j", "first", "last"] "law" (defScope s_law) f cdv A outer s H E) (WW.of (K := K) fun c d _ H => E c d H) (defBody s_law) (b_law C) := by
  have sc := sc_law
  have hr := hr1.mono (Nat.le_succ k)
  have hr2 := hr.mono hk
  have tk : Takes (cxOf (L2.CX P w) P w K mg base ["script", "draws", "count", "names", "paragraphs", "due", "k", "found", "statements", "pairs", "places", "j", "first", "last"] "law" (defScope s_law) f cdv A outer s H E) (fun c d _ H => E c d H) := takes_of rfl rfl rfl rfl
  have po := passes_of (X := cxOf (L2.CX P w) P w K mg base ["script", "draws", "count", "names", "paragraphs", "due", "k", "found", "statements", "pairs", "places", "j", "first", "last"] "law" (defScope s_law) f cdv A outer s H E) rfl
  have hu := hr.units
  have hv := room65 hr
  have hd := room1 hr
  exact (bd_cons (sd_set (i := 1) sc.nd rfl (Or.inr rfl) (ed_call g.c__law_draws hr tk rfl (ad_cons (ed_var (pv 0)) ad_nil) (len_cons len_nil)))
    (bd_cons (sd_set (i := 2) sc.nd rfl (Or.inl rfl) (ed_bin op_addD rp_add ed_int (ed_call g.c__law_draw hr tk rfl (ad_cons (ed_var (pv 1)) (ad_cons (ed_ix ix_seq rp_ix (ed_lst (ad_cons ed_int (ad_cons ed_int ad_nil))) (ed_callTy (call_int_str.or call_int1) rp_intA rfl g.f_int boot_int (ad_cons (ed_cmp (op_eqA hu) rp_eq (ed_call g.c__law_draw hr tk rfl (ad_cons (ed_var (pv 1)) (ad_cons ed_int ad_nil)) (len_cons (len_cons len_nil))) ed_int (nomark _)) ad_nil)) (fun _ _ => rfl)) ad_nil)) (len_cons (len_cons len_nil)))))
    (bd_cons (sd_set (i := 3) sc.nd rfl (Or.inr rfl) (ed_call g.c__law_names hr tk rfl (ad_cons (ed_var (pv 1)) (ad_cons (ed_var (pv 2)) ad_nil)) (len_cons (len_cons len_nil))))
    (bd_cons (sd_set (i := 4) sc.nd rfl (Or.inl rfl) (ed_loc ad_nil))
    (bd_cons (sd_set (i := 5) sc.nd rfl (Or.inl rfl) (ed_loc ad_nil))
    (bd_cons (sd_for po rfl (id_range1 rfl g.f_range (ad_cons (ed_var (pv 2)) ad_nil)) (gd_name (pg_name (i := 6) sc.nd rfl (Or.inl rfl))) (bd_cons (sd_set (i := 7) sc.nd rfl (Or.inr rfl) (ed_loc ad_nil))
    (bd_cons (sd_set (i := 8) sc.nd rfl (Or.inl rfl) (ed_callTy call_tuple_of rp_tuple rfl g.f_tuple boot_tuple (ad_cons (ed_compL (own := [("j", 11)]) rfl sc.nd (id_range1 rfl g.f_range (ad_cons (ed_call g.c__law_draw hr tk rfl (ad_cons (ed_var (pv 1)) (ad_cons ed_int ad_nil)) (len_cons (len_cons len_nil))) ad_nil)) (blkOk_by (N := ["script", "draws", "count", "names", "paragraphs", "due", "k", "found", "statements", "pairs", "places", "j", "first", "last"]) (sc := defScope s_law) (by decide +kernel)) rfl (by decide) (fun s_ H_ C_ cl_ fp_ => (pg_name (i := 11) sc.nd rfl (Or.inl rfl))) (fun s_ H_ C_ cl_ fp_ => pd_nil) (fun s_ H_ C_ cl_ fp_ => (ed_call g.c__law_statement hr takes0 rfl (ad_cons (ed_var (pv 1)) (ad_cons (ed_var (pv 3)) (ad_cons (ed_var (pv 7)) (ad_cons ed_int ad_nil)))) (len_cons (len_cons (len_cons (len_cons len_nil))))))) ad_nil)))
    (bd_cons (sd_expr (ed_lm PySem.F.slot_list_append PySem.F.type_list_append mt_append rp_append (ed_var (pv 4)) (ad_cons (ed_tup (ad_cons (ed_ix ix_seq rp_ix (ed_var (pv 3)) (ed_var (pv 6)) (fun _ _ => rfl)) (ad_cons (ed_var (pv 8)) ad_nil))) ad_nil)))
    (bd_cons (sd_set (i := 9) sc.nd rfl (Or.inl rfl) (ed_call g.c_performed hr tk rfl (ad_cons (ed_var (pv 8)) ad_nil) (len_cons len_nil)))
    (bd_cons (sd_if (td_w (wd_or (td_not (td_val (ed_callB call_isi rp_isi rfl g.f_isinstance boot_isinstance (ad_cons (ed_var (pv 9)) (ad_cons (ed_ty rfl g.f_list boot_list) ad_nil))))) (wd_or1 (td_not (td_val (ed_call g.c__law_same hr tk rfl (ad_cons (ed_callTy call_tuple_of rp_tuple rfl g.f_tuple boot_tuple (ad_cons (ed_var (pv 9)) ad_nil)) (ad_cons (ed_callTy call_tuple_of rp_tuple rfl g.f_tuple boot_tuple (ad_cons (ed_var (pv 7)) ad_nil)) ad_nil)) (len_cons (len_cons len_nil)))))))) (bd_one (sd_ret ed_bl)) bd_nil)
    (bd_cons (sd_set (i := 10) sc.nd rfl (Or.inl rfl) (ed_loc ad_nil))
    (bd_cons (sd_for po rfl (id_range1 rfl g.f_range (ad_cons (ed_var (pv 2)) ad_nil)) (gd_name (pg_name (i := 11) sc.nd rfl (Or.inr rfl))) (bd_one (sd_if (td_cmp op_gtD rp_gt (ed_callB call_len rp_len rfl g.f_len boot_len (ad_cons (ed_comp (own := [("first", 12), ("last", 13)]) rfl sc.nd (id_any (ed_var (pv 7))) (blkOk_by (N := ["script", "draws", "count", "names", "paragraphs", "due", "k", "found", "statements", "pairs", "places", "j", "first", "last"]) (sc := defScope s_law) (by decide +kernel)) rfl (by decide) (fun s_ H_ C_ cl_ fp_ => (pg_tup rfl (pgs_cons (pg_name (i := 12) sc.nd rfl (Or.inl rfl)) (pgs_cons (pg_name (i := 13) sc.nd rfl (Or.inl rfl)) pgs_nil)))) (fun s_ H_ C_ cl_ fp_ => (pd_one (td_w (wd_and (td_cmp op_leD rp_le (ed_idx (ed_var (pv 3)) (ad_cons (ed_var (pv 12)) ad_nil)) (ed_var (pv 11)) (nomark _)) (wd_and1 (td_cmp op_leD rp_le (ed_var (pv 11)) (ed_idx (ed_var (pv 3)) (ad_cons (ed_var (pv 13)) ad_nil)) (nomark _))))))) (fun s_ H_ C_ cl_ fp_ => ed_int)) ad_nil)) ed_int (nomark _)) (bd_one (sd_expr (ed_lm PySem.F.slot_list_append PySem.F.type_list_append mt_append rp_append (ed_var (pv 10)) (ad_cons (ed_var (pv 11)) ad_nil)))) bd_nil)))
    (bd_one (sd_expr (ed_lm PySem.F.slot_list_append PySem.F.type_list_append mt_append rp_append (ed_var (pv 5)) (ad_cons (ed_callTy call_tuple_of rp_tuple rfl g.f_tuple boot_tuple (ad_cons (ed_var (pv 10)) ad_nil)) ad_nil))))))))))))
    (bd_one (sd_ret (ed_call g.c__law_same hr tk rfl (ad_cons (ed_call g.c_graph_of hr tk rfl (ad_cons (ed_callTy call_tuple_of rp_tuple rfl g.f_tuple boot_tuple (ad_cons (ed_var (pv 4)) ad_nil)) ad_nil) (len_cons len_nil)) (ad_cons (ed_callTy call_tuple_of rp_tuple rfl g.f_tuple boot_tuple (ad_cons (ed_var (pv 5)) ad_nil)) ad_nil)) (len_cons (len_cons len_nil)))))))))))
/-- what the written part holds -/
structure Fx (K : PySem.W.Frag) (mg : Str → Option Value) : Prop where
  d_performed : FD K mg "performed" (defArgs s_performed) (defBody s_performed) (defScope s_performed) ["statements"]
  d_graph_of : FD K mg "graph_of" (defArgs s_graph_of) (defBody s_graph_of) (defScope s_graph_of) ["paragraphs"]
  d__law_draws : FD K mg "_law_draws" (defArgs s__law_draws) (defBody s__law_draws) (defScope s__law_draws) ["script"]
  d__law_draw : FD K mg "_law_draw" (defArgs s__law_draw) (defBody s__law_draw) (defScope s__law_draw) ["draws", "limit"]
  d__law_same : FD K mg "_law_same" (defArgs s__law_same) (defBody s__law_same) (defScope s__law_same) ["actual", "expected"]
  d__law_reserved : FD K mg "_law_reserved" (defArgs s__law_reserved) (defBody s__law_reserved) (defScope s__law_reserved) []
  d__law_name : FD K mg "_law_name" (defArgs s__law_name) (defBody s__law_name) (defScope s__law_name) ["draws"]
  d__law_names : FD K mg "_law_names" (defArgs s__law_names) (defBody s__law_names) (defScope s__law_names) ["draws", "count"]
  d__law_perform : FD K mg "_law_perform" (defArgs s__law_perform) (defBody s__law_perform) (defScope s__law_perform) ["draws", "names", "found"]
  d__law_block : FD K mg "_law_block" (defArgs s__law_block) (defBody s__law_block) (defScope s__law_block) ["draws", "names", "found", "levels", "least"]
  d__law_statement : FD K mg "_law_statement" (defArgs s__law_statement) (defBody s__law_statement) (defScope s__law_statement) ["draws", "names", "found", "levels"]
  d_law : FD K mg "law" (defArgs s_law) (defBody s_law) (defScope s_law) ["script"]
  f_bool : mg "bool" = none
  f_enumerate : mg "enumerate" = none
  f_int : mg "int" = none
  f_isinstance : mg "isinstance" = none
  f_len : mg "len" = none
  f_list : mg "list" = none
  f_max : mg "max" = none
  f_range : mg "range" = none
  f_set : mg "set" = none
  f_sorted : mg "sorted" = none
  f_str : mg "str" = none
  f_tuple : mg "tuple" = none
theorem gs_all {P : Program} {w : World} {K : PySem.W.Frag} {mg : Str → Option Value} {base : Heap} (x : Fx K mg) (hwb : w.params.followText "set-order" = WB.b) : ∀ k, Gs P w K mg base (lv k) (T k)
  | 0 => ⟨hwb, callF_zeroN x.d_performed, callF_zeroN x.d_graph_of, callF_zeroN x.d__law_draws, callF_zeroN x.d__law_draw, callF_zeroN x.d__law_same, callF_zeroN x.d__law_reserved, callF_zeroN x.d__law_name, callF_zeroN x.d__law_names, callF_zeroN x.d__law_perform, callF_zeroN x.d__law_block, callF_zeroN x.d__law_statement, callF_zeroN x.d_law, x.f_bool, x.f_enumerate, x.f_int, x.f_isinstance, x.f_len, x.f_list, x.f_max, x.f_range, x.f_set, x.f_sorted, x.f_str, x.f_tuple⟩
  | k + 1 => by
    have g := gs_all (P := P) (w := w) (base := base) x hwb k
    exact ⟨hwb, callF_trim (callF_succ (k := lv k + 1) x.d_performed sc_performed rfl fun f cdv A outer s H E hr => d_performed g (lv_ge k) hr),
      callF_trim (callF_succ (k := lv k + 1) x.d_graph_of sc_graph_of rfl fun f cdv A outer s H E hr => d_graph_of g (lv_ge k) hr),
      callF_trim (callF_succ (k := lv k + 1) x.d__law_draws sc__law_draws rfl fun f cdv A outer s H E hr => d__law_draws g (lv_ge k) hr),
      (callF_succ (k := lv k + 1) x.d__law_draw sc__law_draw rfl fun f cdv A outer s H E hr => d__law_draw g (lv_ge k) hr),
      (callF_succ (k := lv k + 1) x.d__law_same sc__law_same rfl fun f cdv A outer s H E hr => d__law_same g (lv_ge k) hr),
      (callF_succ (k := lv k + 1) x.d__law_reserved sc__law_reserved rfl fun f cdv A outer s H E hr => d__law_reserved g (lv_ge k) hr),
      (callF_succ (k := lv k + 1) x.d__law_name sc__law_name rfl fun f cdv A outer s H E hr => d__law_name g (lv_ge k) hr),
      callF_trim (callF_succ (k := lv k + 1) x.d__law_names sc__law_names rfl fun f cdv A outer s H E hr => d__law_names g (lv_ge k) hr),
      callF_trim (callF_succ (k := lv k + 1) x.d__law_perform sc__law_perform rfl fun f cdv A outer s H E hr => d__law_perform g (lv_ge k) hr),
      callF_trim (callF_succ (k := lv k + 1) x.d__law_block sc__law_block rfl fun f cdv A outer s H E hr => d__law_block g (lv_ge k) hr),
      (callF_succ (k := lv k + 1) x.d__law_statement sc__law_statement rfl fun f cdv A outer s H E hr => d__law_statement g (lv_ge k) hr),
      (callF_succ (k := lv k + 1) x.d_law sc_law rfl fun f cdv A outer s H E hr => d_law g (lv_ge k) hr),
      x.f_bool, x.f_enumerate, x.f_int, x.f_isinstance, x.f_len, x.f_list, x.f_max, x.f_range, x.f_set, x.f_sorted, x.f_str, x.f_tuple⟩
end WBS
def e_performed : He.DefD := ⟨("performed", none), "performed", "performed", defArgs s_performed, defBody s_performed, defScope s_performed, [], []⟩
def e_graph_of : He.DefD := ⟨("graph_of", none), "graph_of", "graph_of", defArgs s_graph_of, defBody s_graph_of, defScope s_graph_of, [], []⟩
def e__law_draws : He.DefD := ⟨("_law_draws", none), "_law_draws", "_law_draws", defArgs s__law_draws, defBody s__law_draws, defScope s__law_draws, [], []⟩
def e__law_draw : He.DefD := ⟨("_law_draw", none), "_law_draw", "_law_draw", defArgs s__law_draw, defBody s__law_draw, defScope s__law_draw, [], []⟩
def e__law_same : He.DefD := ⟨("_law_same", none), "_law_same", "_law_same", defArgs s__law_same, defBody s__law_same, defScope s__law_same, [], []⟩
def e__law_reserved : He.DefD := ⟨("_law_reserved", none), "_law_reserved", "_law_reserved", defArgs s__law_reserved, defBody s__law_reserved, defScope s__law_reserved, [], []⟩
def e__law_name : He.DefD := ⟨("_law_name", none), "_law_name", "_law_name", defArgs s__law_name, defBody s__law_name, defScope s__law_name, [], []⟩
def e__law_names : He.DefD := ⟨("_law_names", none), "_law_names", "_law_names", defArgs s__law_names, defBody s__law_names, defScope s__law_names, [], []⟩
def e__law_perform : He.DefD := ⟨("_law_perform", none), "_law_perform", "_law_perform", defArgs s__law_perform, defBody s__law_perform, defScope s__law_perform, [], []⟩
def e__law_block : He.DefD := ⟨("_law_block", none), "_law_block", "_law_block", defArgs s__law_block, defBody s__law_block, defScope s__law_block, [], []⟩
def e__law_statement : He.DefD := ⟨("_law_statement", none), "_law_statement", "_law_statement", defArgs s__law_statement, defBody s__law_statement, defScope s__law_statement, [], []⟩
def e_law : He.DefD := ⟨("law", none), "law", "law", defArgs s_law, defBody s_law, defScope s_law, [], []⟩
def fn : List He.DefD := [e_performed, e_graph_of, e__law_draws, e__law_draw, e__law_same, e__law_reserved, e__law_name, e__law_names, e__law_perform, e__law_block, e__law_statement, e_law]
def ex (K : PySem.W.Frag) : Bool := true
def fa : List He.Fa := [.glo "performed", .glo "graph_of", .glo "_law_draws", .glo "_law_draw", .glo "_law_same", .glo "_law_reserved", .glo "_law_name", .glo "_law_names", .glo "_law_perform", .glo "_law_block", .glo "_law_statement", .glo "law", .free "bool", .free "enumerate", .free "int", .free "isinstance", .free "len", .free "list", .free "max", .free "range", .free "set", .free "sorted", .free "str", .free "tuple"]
abbrev R : PySem.W.OpenRow := PySem.W.OpenLaw.row PySem.Challenge.rw_cardwright_k40_performed_paragraphs
abbrev hk : PySem.W.Hook := PD.hookB 4 fa fn ex
def ob (s : PySem.W.SharedT) : He.AlD × Bool := PD.obsB 4 fa fn ex (HandSHeadRun.getT s)
theorem ob_eq (s : PySem.W.SharedT) : ob s = hk.obs s.abs := PD.obsB_eq (HandSHeadRun.getT_eq s)
def loose : List Str := (["performed", "graph_of", "_law_draws", "_law_draw", "_law_same", "_law_reserved", "_law_name", "_law_names", "_law_perform", "_law_block", "_law_statement"] : List Str)
theorem run (w : World) : HandSHeadRun.RunEq R (PySem.W.view R.prog [13]) hk ob 1440 loose w := by
  intro os
  kernel_rfl
theorem facts {K : PySem.W.Frag} {h : Heap} {mg : Str → Option Value} (X : K.In h) (G : h.Ns mainGlobals mg) (c : He.SaysD fa fn K) (c2 : ex K = true) : Fx K mg := by
  refine ⟨?_, ?_, ?_, ?_, ?_, ?_, ?_, ?_, ?_, ?_, ?_, ?_, ?_, ?_, ?_, ?_, ?_, ?_, ?_, ?_, ?_, ?_, ?_, ?_⟩
  · obtain ⟨fd, F⟩ := c.def_ 0 (d := e_performed) rfl
    exact ⟨_, fd, F, He.glo_ok X G (c.fact 0 rfl), FunD.bindsN F fun _ _ _ _ _ _ us hl => match us, hl with | [_], _ => rfl⟩
  · obtain ⟨fd, F⟩ := c.def_ 1 (d := e_graph_of) rfl
    exact ⟨_, fd, F, He.glo_ok X G (c.fact 1 rfl), FunD.bindsN F fun _ _ _ _ _ _ us hl => match us, hl with | [_], _ => rfl⟩
  · obtain ⟨fd, F⟩ := c.def_ 2 (d := e__law_draws) rfl
    exact ⟨_, fd, F, He.glo_ok X G (c.fact 2 rfl), FunD.bindsN F fun _ _ _ _ _ _ us hl => match us, hl with | [_], _ => rfl⟩
  · obtain ⟨fd, F⟩ := c.def_ 3 (d := e__law_draw) rfl
    exact ⟨_, fd, F, He.glo_ok X G (c.fact 3 rfl), FunD.bindsN F fun _ _ _ _ _ _ us hl => match us, hl with | [_, _], _ => rfl⟩
  · obtain ⟨fd, F⟩ := c.def_ 4 (d := e__law_same) rfl
    exact ⟨_, fd, F, He.glo_ok X G (c.fact 4 rfl), FunD.bindsN F fun _ _ _ _ _ _ us hl => match us, hl with | [_, _], _ => rfl⟩
  · obtain ⟨fd, F⟩ := c.def_ 5 (d := e__law_reserved) rfl
    exact ⟨_, fd, F, He.glo_ok X G (c.fact 5 rfl), FunD.bindsN F fun _ _ _ _ _ _ us hl => match us, hl with | [], _ => rfl⟩
  · obtain ⟨fd, F⟩ := c.def_ 6 (d := e__law_name) rfl
    exact ⟨_, fd, F, He.glo_ok X G (c.fact 6 rfl), FunD.bindsN F fun _ _ _ _ _ _ us hl => match us, hl with | [_], _ => rfl⟩
  · obtain ⟨fd, F⟩ := c.def_ 7 (d := e__law_names) rfl
    exact ⟨_, fd, F, He.glo_ok X G (c.fact 7 rfl), FunD.bindsN F fun _ _ _ _ _ _ us hl => match us, hl with | [_, _], _ => rfl⟩
  · obtain ⟨fd, F⟩ := c.def_ 8 (d := e__law_perform) rfl
    exact ⟨_, fd, F, He.glo_ok X G (c.fact 8 rfl), FunD.bindsN F fun _ _ _ _ _ _ us hl => match us, hl with | [_, _, _], _ => rfl⟩
  · obtain ⟨fd, F⟩ := c.def_ 9 (d := e__law_block) rfl
    exact ⟨_, fd, F, He.glo_ok X G (c.fact 9 rfl), FunD.bindsN F fun _ _ _ _ _ _ us hl => match us, hl with | [_, _, _, _, _], _ => rfl⟩
  · obtain ⟨fd, F⟩ := c.def_ 10 (d := e__law_statement) rfl
    exact ⟨_, fd, F, He.glo_ok X G (c.fact 10 rfl), FunD.bindsN F fun _ _ _ _ _ _ us hl => match us, hl with | [_, _, _, _], _ => rfl⟩
  · obtain ⟨fd, F⟩ := c.def_ 11 (d := e_law) rfl
    exact ⟨_, fd, F, He.glo_ok X G (c.fact 11 rfl), FunD.bindsN F fun _ _ _ _ _ _ us hl => match us, hl with | [_], _ => rfl⟩
  · exact He.free_ok X G (c.fact 12 rfl)
  · exact He.free_ok X G (c.fact 13 rfl)
  · exact He.free_ok X G (c.fact 14 rfl)
  · exact He.free_ok X G (c.fact 15 rfl)
  · exact He.free_ok X G (c.fact 16 rfl)
  · exact He.free_ok X G (c.fact 17 rfl)
  · exact He.free_ok X G (c.fact 18 rfl)
  · exact He.free_ok X G (c.fact 19 rfl)
  · exact He.free_ok X G (c.fact 20 rfl)
  · exact He.free_ok X G (c.fact 21 rfl)
  · exact He.free_ok X G (c.fact 22 rfl)
  · exact He.free_ok X G (c.fact 23 rfl)
variable [WB]
theorem a_raise {e : Exn} {E : Evn} {S : Sto} : mRaise e E S = .ex e E S := rfl
theorem a_repl {y z : Tx} {o : ME} {E : Evn} {S : Sto} : mRepl y z o E S = (o E S).bind fun x S1 => (match x with
  | .str a => open Classical in if replOk a z then .ok (.str (StrLaws.replL y z a)) S1 else .bad
  | _ => .bad) := rfl
local macro_rules | `(tactic| walk_at "ev") => `(tactic| simp only [a_raise, a_repl, g_ixLoc, g_lenLoc', ixD_0, ixD_1, ixD_2, ixD_3, Bool.true_and, Bool.false_and, Bool.and_true, Bool.and_false, Bool.or_true, Bool.true_or, Bool.or_false, Bool.false_or, a_sm, a_lm, a_iany, a_comp, a_yes, g_mulAI, g_mulAS, g_slS, g_slT, g_slL, g_slF, g_revL, g_revF, g_starts, g_ends, g_joinM, g_zfill, g_str, g_intAI, g_intAB, g_intAS, g_ord, g_inC, g_notInC, g_allM, g_anyM, g_append, g_pop, a_range3, a_int3, a_gI, g_listL, g_listF, g_listT, g_tupL, g_tupF, g_tupT, a_run, a_turn, a_seq, a_skip, a_break, a_cont, a_if, a_ret, a_retN, a_drop, a_set, a_asg, a_aug, a_for, a_var, a_c, a_bin, a_un, a_b, a_nil, a_cons, a_tup, a_lst, a_loc, a_call, a_and, a_or, a_not, a_andV, a_orV, a_notV, a_ifE, a_asB, a_sl, a_nopart, a_part, a_gN, a_gT, a_gsNil, a_gsCons, noex_ok, a_range1, a_range2, a_iseq, a_int1, a_int2, g_add, g_addA, g_addAS, g_addS, g_addT, g_addL, g_sub, g_mul, g_div, g_mod, g_pow, g_lt, g_gt, g_le, g_ge, g_ltS, g_gtS, g_leS, g_geS, g_eq, g_ne, g_eqS, g_neS, g_eqB, g_neB, g_neg, g_abs, g_max, g_min, g_int, g_intB, g_ixT, g_ixL, g_ixF, g_lenT, g_lenL, g_lenF, g_lenS, at_nat, at_0, at_1, at_2, at_3, at_4, bind_ok, toS_ok, bind_ex, toS_ex, decide_eq_true_eq, Bool.not_eq_true, decide_eq_false_iff_not, List.map, List.length, List.length_map, List.replicate, List.cons_append, List.nil_append, List.append_nil, List.set, List.getElem?_cons_succ, List.getElem?_cons_zero, Nat.sub_self, Nat.reduceSub, Nat.reduceAdd, Int.toNat_natCast, if_true, if_false, ite_true, ite_false, reduceIte, Bool.false_eq_true, Bool.true_eq_false, Bool.not_true, Bool.not_false, decide_true, decide_false, isi_non_int, isi_non_bool, isi_non_str, isi_non_tuple, isi_non_list, isi_non_dict, isi_bl_int, isi_bl_bool, isi_bl_str, isi_bl_tuple, isi_bl_list, isi_bl_dict, isi_int_int, isi_int_bool, isi_int_str, isi_int_tuple, isi_int_list, isi_int_dict, isi_str_int, isi_str_bool, isi_str_str, isi_str_tuple, isi_str_list, isi_str_dict, isi_tup_int, isi_tup_bool, isi_tup_str, isi_tup_tuple, isi_tup_list, isi_tup_dict, isi_lst_int, isi_lst_bool, isi_lst_str, isi_lst_tuple, isi_lst_list, isi_lst_dict, isi_fz_int, isi_fz_bool, isi_fz_str, isi_fz_tuple, isi_fz_list, isi_fz_dict, so0, so1, so2, so3, so4, so5, so6, so7, so8, so9, so10, do10, mo10])
local macro_rules | `(tactic| walk_at "ev*") => `(tactic| simp only [a_raise, a_repl, g_ixLoc, g_lenLoc', ixD_0, ixD_1, ixD_2, ixD_3, Bool.true_and, Bool.false_and, Bool.and_true, Bool.and_false, Bool.or_true, Bool.true_or, Bool.or_false, Bool.false_or, a_sm, a_lm, a_iany, a_comp, a_yes, g_mulAI, g_mulAS, g_slS, g_slT, g_slL, g_slF, g_revL, g_revF, g_starts, g_ends, g_joinM, g_zfill, g_str, g_intAI, g_intAB, g_intAS, g_ord, g_inC, g_notInC, g_allM, g_anyM, g_append, g_pop, a_range3, a_int3, a_gI, g_listL, g_listF, g_listT, g_tupL, g_tupF, g_tupT, a_run, a_turn, a_seq, a_skip, a_break, a_cont, a_if, a_ret, a_retN, a_drop, a_set, a_asg, a_aug, a_for, a_var, a_c, a_bin, a_un, a_b, a_nil, a_cons, a_tup, a_lst, a_loc, a_call, a_and, a_or, a_not, a_andV, a_orV, a_notV, a_ifE, a_asB, a_sl, a_nopart, a_part, a_gN, a_gT, a_gsNil, a_gsCons, noex_ok, a_range1, a_range2, a_iseq, a_int1, a_int2, g_add, g_addA, g_addAS, g_addS, g_addT, g_addL, g_sub, g_mul, g_div, g_mod, g_pow, g_lt, g_gt, g_le, g_ge, g_ltS, g_gtS, g_leS, g_geS, g_eq, g_ne, g_eqS, g_neS, g_eqB, g_neB, g_neg, g_abs, g_max, g_min, g_int, g_intB, g_ixT, g_ixL, g_ixF, g_lenT, g_lenL, g_lenF, g_lenS, at_nat, at_0, at_1, at_2, at_3, at_4, bind_ok, toS_ok, bind_ex, toS_ex, decide_eq_true_eq, Bool.not_eq_true, decide_eq_false_iff_not, List.map, List.length, List.length_map, List.replicate, List.cons_append, List.nil_append, List.append_nil, List.set, List.getElem?_cons_succ, List.getElem?_cons_zero, Nat.sub_self, Nat.reduceSub, Nat.reduceAdd, Int.toNat_natCast, if_true, if_false, ite_true, ite_false, reduceIte, Bool.false_eq_true, Bool.true_eq_false, Bool.not_true, Bool.not_false, decide_true, decide_false, isi_non_int, isi_non_bool, isi_non_str, isi_non_tuple, isi_non_list, isi_non_dict, isi_bl_int, isi_bl_bool, isi_bl_str, isi_bl_tuple, isi_bl_list, isi_bl_dict, isi_int_int, isi_int_bool, isi_int_str, isi_int_tuple, isi_int_list, isi_int_dict, isi_str_int, isi_str_bool, isi_str_str, isi_str_tuple, isi_str_list, isi_str_dict, isi_tup_int, isi_tup_bool, isi_tup_str, isi_tup_tuple, isi_tup_list, isi_tup_dict, isi_lst_int, isi_lst_bool, isi_lst_str, isi_lst_tuple, isi_lst_list, isi_lst_dict, isi_fz_int, isi_fz_bool, isi_fz_str, isi_fz_tuple, isi_fz_list, isi_fz_dict, so0, so1, so2, so3, so4, so5, so6, so7, so8, so9, so10, do10, mo10, *])
-- WP below
local macro_rules | `(tactic| walk_at "n") => `(tactic| simp only [w_n, List.set])
local macro_rules | `(tactic| walk_at "len") => `(tactic| try simp only [natL_len, intL_len, List.length_append, len_rep1, List.flatten_cons, List.flatten_nil, List.length_cons, List.length_nil, List.length_map, List.length_replicate, List.length_take, List.length_drop, List.length_reverse, List.length_set, List.length_range, Int.toNat_natCast, Nat.reduceAdd, Nat.reduceMul])
local macro_rules | `(tactic| walk_at "go") => `(tactic| simp (disch := (first | assumption | exact dwrap (allStr_map _) | exact dwrap (allStr_sing _) | exact dwrap (p := allStr _ = true) rfl | (refine dwrap ?_; simp only [allStr_nil, allStr_cons, allStr_map]; done) | decide | omega | (refine dwrap ?_; walk_at "len"; omega))) only [↓w_run, ↓List.getElem?_cons_succ, ↓List.getElem?_cons_zero, ↓List.set, ↓List.map, ↓List.replicate, ↓w_seq, ↓w_skip, ↓w_break, ↓w_cont, ↓w_if, ↓w_ret, ↓w_retN, ↓w_drop, ↓w_set, ↓w_asg, ↓w_aug, ↓w_raise, ↓w_for, ↓w_tryAs, ↓w_tryOnly, ↓w_var, ↓w_c, ↓w_bin, ↓w_un, ↓w_bi, ↓w_nil, ↓w_cons, ↓w_tup, ↓w_lst, ↓w_lloc, ↓w_call, ↓w_asB, ↓w_and, ↓w_or, ↓w_not, ↓w_andV, ↓w_orV, ↓w_notV, ↓w_ifE, ↓w_sl, ↓w_nopart, ↓w_part, ↓w_gN, ↓w_gT, ↓w_gsNil, ↓w_gsCons, ↓w_gI, ↓w_sm, ↓w_lm, ↓w_yes, ↓w_range1, ↓w_range2, ↓w_range3, ↓w_iany, ↓w_comp, ↓w_repl, ↓w_dnew, ↓w_pairs0, ↓w_pairs1, ↓w_disp, ↓w_dget2, ↓w_dput, ↓w_js0, ↓w_par, ↓w_par3, w_two, w_three, p_isB, p_notB, ↓w_chain, ↓w_zip, w_zips, ↓w_compL, ↓w_dc, p_sortA, g_sortAL, p_extL, p_slLoc, ↓w_enum, w_enumT, w_enumL, w_enumC', ↓w_listL', ↓w_augI, natL_len, intL_len, rowA_1, rowF_tup, rowF_lst, p_rowLoc, p_sortedLoc, p_sortedN, g_inNT, g_ninNT, g_inNL, g_ninNL, p_inLoc, p_ninLoc, p_neNilLoc, g_neNil, g_neNilN, g_neNilNT, ↓w_js1, ↓w_exis, ↓w_ok, ↓w_ex, ↓w_b, ↓w_loc, ↓w_istr, ↓w_iint, ↓w_itup, ↓w_nx, ↓w_rt, ↓w_bk, ↓w_ct, ↓w_sex, ↓w_t, ↓w_vsome, w_ok, w_ex, w_bad, w_iteoe, w_iteoo, w_itebad, w_some, w_none, w_pitess, w_pitebad, w_vsome, w_n, w_stN1, w_stN2, w_stN3, w_wipe0, w_wipe1, w_itrue, w_ifalse, w_inot, w_iand, w_ior, w_idec, w_imem, dec_true, dec_false, w_b, w_t, w_loc, w_istr, w_iint, w_itup, w_nx, w_rt, w_bk, w_ct, w_sex, w_bind, w_toS, w_itstr, w_ittup, w_itlst, w_itfz, w_itloc, a_int1, a_int2, a_int3, p_ixS, p_slS, p_split, p_joinL, p_joinT, p_joinLoc, p_revLoc, p_tupLoc, p_listLoc, p_zfill, p_str, p_intS, p_mulS, p_mulL, p_chr, p_append, w_dics, w_keys, keysD_nil, keysD_str, keysD_int, p_dget, p_din, p_dnin, dicAt_loc, dicAt_locM, keyD_str, keyD_int, merge_nil, merge_cons, p_tin, p_tget, Option.map_some, p_find, p_lstrip, p_upper, p_ljust, p_fmtS, p_fmtI, g_inL, g_inTs, g_inF, g_ninL, g_ninTs, g_ninF, allStr_nil, allStr_cons, allStr_map, strsOf_nil, strsOf_cons, strsOf_map, strsOf_sing, joinL_sing, isN_non, isN_bl, isN_int, isN_str, isN_tup, isN_lst, notN_non, notN_bl, notN_int, notN_str, notN_tup, notN_lst, cut_to, cut_from, cut_mid, cut_toN, cut_fromN, cut_midN, cut_all, ixT_nat, ixT_nn, ixT_ng, atD_ng, atD_nn, g_ixLoc, g_lenLoc', ixD_0, ixD_1, ixD_2, ixD_3, g_mulAI, g_slT, g_slL, g_slF, g_revL, g_revF, gStarts', g_ends, g_intAI, g_intAB, g_ord, g_inC, g_notInC, g_allM, g_anyM, g_pop, g_listL, g_listF, g_listT, g_tupL, g_tupF, g_tupT, g_add, g_addA, g_addAS, g_addS, g_addT, g_addL, g_sub, g_mul, g_div, g_mod, g_pow, g_lt, g_gt, g_le, g_ge, g_ltS, g_gtS, g_leS, g_geS, g_eq, g_ne, g_eqS, g_neS, g_eqB, g_neB, g_neg, g_abs, g_max, g_min, g_int, g_intB, g_ixT, g_ixL, g_ixF, g_lenT, g_lenL, g_lenF, g_lenS, at_nat, at_0, at_1, at_2, at_3, at_4, sto_at, sto_at0, sto_put, sto_put0, decide_eq_true_eq, Bool.not_eq_true, decide_eq_false_iff_not, List.map, List.length, List.length_map, List.replicate, List.cons_append, List.nil_append, List.append_nil, List.append_assoc, List.set, List.getElem?_cons_succ, List.getElem?_cons_zero, Nat.sub_self, Nat.reduceSub, Nat.reduceAdd, Int.toNat_natCast, if_true, if_false, ite_true, ite_false, reduceIte, Bool.false_eq_true, Bool.true_eq_false, Bool.not_true, Bool.not_false, decide_true, decide_false, true_implies, false_implies, implies_true, and_true, true_and, false_and, and_false, and_self, not_true_eq_false, not_false_eq_true, forall_const, Int.reduceToNat, Int.reduceLT, Int.reduceLE, Int.reduceEq, Int.reduceAdd, Int.reduceSub, Int.reduceMul, Int.reduceNeg, Nat.reduceLT, Nat.reduceLeDiff, Nat.reduceEqDiff, Nat.reduceMul, Int.natCast_add, cN0, cN1, cN2, cN3, cN4, cN5, Int.zero_add, ne_eq, reduceCtorEq, List.cons.injEq, isi_non_int, isi_non_bool, isi_non_str, isi_non_tuple, isi_non_list, isi_non_dict, isi_bl_int, isi_bl_bool, isi_bl_str, isi_bl_tuple, isi_bl_list, isi_bl_dict, isi_int_int, isi_int_bool, isi_int_str, isi_int_tuple, isi_int_list, isi_int_dict, isi_str_int, isi_str_bool, isi_str_str, isi_str_tuple, isi_str_list, isi_str_dict, isi_tup_int, isi_tup_bool, isi_tup_str, isi_tup_tuple, isi_tup_list, isi_tup_dict, isi_lst_int, isi_lst_bool, isi_lst_str, isi_lst_tuple, isi_lst_list, isi_lst_dict, isi_fz_int, isi_fz_bool, isi_fz_str, isi_fz_tuple, isi_fz_list, isi_fz_dict, so0, so1, so2, so3, so4, so5, so6, so7, so8, so9, so10, do10, mo10, p_addLocL, p_addLLoc, p_addLocs, w_ins, w_non, ↓w_fld, ↓w_putF, ↓w_augF, ↓w_meth, ↓w_prop, ↓w_make, setI_0n, setI_0c, setI_s, ↓w_enumS, w_enS, ↓w_listS, w_ls, ↓w_raiseF, ↓w_exf, ↓w_exisD, ↓w_idx, p_seqLoc, p_seqLst, p_idxLoc, p_idxL, ↓w_catL, p_seqLLoc, p_seqLLst, w_oset, ↓w_set0, w_arg1, ↓w_sadd, ↓w_sortSet, w_stN4])
local macro_rules | `(tactic| walk_at "go*") => `(tactic| simp (disch := (first | assumption | exact dwrap (allStr_map _) | exact dwrap (allStr_sing _) | exact dwrap (p := allStr _ = true) rfl | (refine dwrap ?_; simp only [allStr_nil, allStr_cons, allStr_map]; done) | decide | omega | (refine dwrap ?_; walk_at "len"; omega))) only [↓w_run, ↓List.getElem?_cons_succ, ↓List.getElem?_cons_zero, ↓List.set, ↓List.map, ↓List.replicate, ↓w_seq, ↓w_skip, ↓w_break, ↓w_cont, ↓w_if, ↓w_ret, ↓w_retN, ↓w_drop, ↓w_set, ↓w_asg, ↓w_aug, ↓w_raise, ↓w_for, ↓w_tryAs, ↓w_tryOnly, ↓w_var, ↓w_c, ↓w_bin, ↓w_un, ↓w_bi, ↓w_nil, ↓w_cons, ↓w_tup, ↓w_lst, ↓w_lloc, ↓w_call, ↓w_asB, ↓w_and, ↓w_or, ↓w_not, ↓w_andV, ↓w_orV, ↓w_notV, ↓w_ifE, ↓w_sl, ↓w_nopart, ↓w_part, ↓w_gN, ↓w_gT, ↓w_gsNil, ↓w_gsCons, ↓w_gI, ↓w_sm, ↓w_lm, ↓w_yes, ↓w_range1, ↓w_range2, ↓w_range3, ↓w_iany, ↓w_comp, ↓w_repl, ↓w_dnew, ↓w_pairs0, ↓w_pairs1, ↓w_disp, ↓w_dget2, ↓w_dput, ↓w_js0, ↓w_par, ↓w_par3, w_two, w_three, p_isB, p_notB, ↓w_chain, ↓w_zip, w_zips, ↓w_compL, ↓w_dc, p_sortA, g_sortAL, p_extL, p_slLoc, ↓w_enum, w_enumT, w_enumL, w_enumC', ↓w_listL', ↓w_augI, natL_len, intL_len, rowA_1, rowF_tup, rowF_lst, p_rowLoc, p_sortedLoc, p_sortedN, g_inNT, g_ninNT, g_inNL, g_ninNL, p_inLoc, p_ninLoc, p_neNilLoc, g_neNil, g_neNilN, g_neNilNT, ↓w_js1, ↓w_exis, ↓w_ok, ↓w_ex, ↓w_b, ↓w_loc, ↓w_istr, ↓w_iint, ↓w_itup, ↓w_nx, ↓w_rt, ↓w_bk, ↓w_ct, ↓w_sex, ↓w_t, ↓w_vsome, w_ok, w_ex, w_bad, w_iteoe, w_iteoo, w_itebad, w_some, w_none, w_pitess, w_pitebad, w_vsome, w_n, w_stN1, w_stN2, w_stN3, w_wipe0, w_wipe1, w_itrue, w_ifalse, w_inot, w_iand, w_ior, w_idec, w_imem, dec_true, dec_false, w_b, w_t, w_loc, w_istr, w_iint, w_itup, w_nx, w_rt, w_bk, w_ct, w_sex, w_bind, w_toS, w_itstr, w_ittup, w_itlst, w_itfz, w_itloc, a_int1, a_int2, a_int3, p_ixS, p_slS, p_split, p_joinL, p_joinT, p_joinLoc, p_revLoc, p_tupLoc, p_listLoc, p_zfill, p_str, p_intS, p_mulS, p_mulL, p_chr, p_append, w_dics, w_keys, keysD_nil, keysD_str, keysD_int, p_dget, p_din, p_dnin, dicAt_loc, dicAt_locM, keyD_str, keyD_int, merge_nil, merge_cons, p_tin, p_tget, Option.map_some, p_find, p_lstrip, p_upper, p_ljust, p_fmtS, p_fmtI, g_inL, g_inTs, g_inF, g_ninL, g_ninTs, g_ninF, allStr_nil, allStr_cons, allStr_map, strsOf_nil, strsOf_cons, strsOf_map, strsOf_sing, joinL_sing, isN_non, isN_bl, isN_int, isN_str, isN_tup, isN_lst, notN_non, notN_bl, notN_int, notN_str, notN_tup, notN_lst, cut_to, cut_from, cut_mid, cut_toN, cut_fromN, cut_midN, cut_all, ixT_nat, ixT_nn, ixT_ng, atD_ng, atD_nn, g_ixLoc, g_lenLoc', ixD_0, ixD_1, ixD_2, ixD_3, g_mulAI, g_slT, g_slL, g_slF, g_revL, g_revF, gStarts', g_ends, g_intAI, g_intAB, g_ord, g_inC, g_notInC, g_allM, g_anyM, g_pop, g_listL, g_listF, g_listT, g_tupL, g_tupF, g_tupT, g_add, g_addA, g_addAS, g_addS, g_addT, g_addL, g_sub, g_mul, g_div, g_mod, g_pow, g_lt, g_gt, g_le, g_ge, g_ltS, g_gtS, g_leS, g_geS, g_eq, g_ne, g_eqS, g_neS, g_eqB, g_neB, g_neg, g_abs, g_max, g_min, g_int, g_intB, g_ixT, g_ixL, g_ixF, g_lenT, g_lenL, g_lenF, g_lenS, at_nat, at_0, at_1, at_2, at_3, at_4, sto_at, sto_at0, sto_put, sto_put0, decide_eq_true_eq, Bool.not_eq_true, decide_eq_false_iff_not, List.map, List.length, List.length_map, List.replicate, List.cons_append, List.nil_append, List.append_nil, List.append_assoc, List.set, List.getElem?_cons_succ, List.getElem?_cons_zero, Nat.sub_self, Nat.reduceSub, Nat.reduceAdd, Int.toNat_natCast, if_true, if_false, ite_true, ite_false, reduceIte, Bool.false_eq_true, Bool.true_eq_false, Bool.not_true, Bool.not_false, decide_true, decide_false, true_implies, false_implies, implies_true, and_true, true_and, false_and, and_false, and_self, not_true_eq_false, not_false_eq_true, forall_const, Int.reduceToNat, Int.reduceLT, Int.reduceLE, Int.reduceEq, Int.reduceAdd, Int.reduceSub, Int.reduceMul, Int.reduceNeg, Nat.reduceLT, Nat.reduceLeDiff, Nat.reduceEqDiff, Nat.reduceMul, Int.natCast_add, cN0, cN1, cN2, cN3, cN4, cN5, Int.zero_add, ne_eq, reduceCtorEq, List.cons.injEq, isi_non_int, isi_non_bool, isi_non_str, isi_non_tuple, isi_non_list, isi_non_dict, isi_bl_int, isi_bl_bool, isi_bl_str, isi_bl_tuple, isi_bl_list, isi_bl_dict, isi_int_int, isi_int_bool, isi_int_str, isi_int_tuple, isi_int_list, isi_int_dict, isi_str_int, isi_str_bool, isi_str_str, isi_str_tuple, isi_str_list, isi_str_dict, isi_tup_int, isi_tup_bool, isi_tup_str, isi_tup_tuple, isi_tup_list, isi_tup_dict, isi_lst_int, isi_lst_bool, isi_lst_str, isi_lst_tuple, isi_lst_list, isi_lst_dict, isi_fz_int, isi_fz_bool, isi_fz_str, isi_fz_tuple, isi_fz_list, isi_fz_dict, so0, so1, so2, so3, so4, so5, so6, so7, so8, so9, so10, do10, mo10, p_addLocL, p_addLLoc, p_addLocs, w_ins, w_non, ↓w_fld, ↓w_putF, ↓w_augF, ↓w_meth, ↓w_prop, ↓w_make, setI_0n, setI_0c, setI_s, ↓w_enumS, w_enS, ↓w_listS, w_ls, ↓w_raiseF, ↓w_exf, ↓w_exisD, ↓w_idx, p_seqLoc, p_seqLst, p_idxLoc, p_idxL, ↓w_catL, p_seqLLoc, p_seqLLst, w_oset, ↓w_set0, w_arg1, ↓w_sadd, ↓w_sortSet, w_stN4, *])
local macro_rules | `(tactic| walk_at "gom") => `(tactic| simp (disch := (first | assumption | exact dwrap (allStr_map _) | exact dwrap (allStr_sing _) | exact dwrap (p := allStr _ = true) rfl | (refine dwrap ?_; simp only [allStr_nil, allStr_cons, allStr_map]; done) | decide | omega | (refine dwrap ?_; walk_at "len"; omega))) only [↓w_run, ↓List.getElem?_cons_succ, ↓List.getElem?_cons_zero, ↓List.set, ↓List.map, ↓List.replicate, ↓w_seq, ↓w_skip, ↓w_break, ↓w_cont, ↓w_if, ↓w_ret, ↓w_retN, ↓w_drop, ↓w_set, ↓w_asg, ↓w_aug, ↓w_raise, ↓w_for, ↓w_tryAs, ↓w_tryOnly, ↓w_var, ↓w_c, ↓w_bin, ↓w_un, ↓w_bi, ↓w_nil, ↓w_cons, ↓w_tup, ↓w_lst, ↓w_lloc, ↓w_call, ↓w_asB, ↓w_and, ↓w_or, ↓w_not, ↓w_andV, ↓w_orV, ↓w_notV, ↓w_ifE, ↓w_sl, ↓w_nopart, ↓w_part, ↓w_gN, ↓w_gT, ↓w_gsNil, ↓w_gsCons, ↓w_gI, ↓w_sm, ↓w_lm, ↓w_yes, ↓w_range1, ↓w_range2, ↓w_range3, ↓w_iany, ↓w_comp, ↓w_repl, ↓w_dnew, ↓w_pairs0, ↓w_pairs1, ↓w_disp, ↓w_dget2, ↓w_dput, ↓w_js0, ↓w_par, ↓w_par3, w_two, w_three, p_isB, p_notB, ↓w_chain, ↓w_zip, w_zips, ↓w_compL, ↓w_dc, p_sortA, g_sortAL, p_extL, p_slLoc, ↓w_enum, w_enumT, w_enumL, w_enumC', ↓w_listL', ↓w_augI, natL_len, intL_len, rowA_1, rowF_tup, rowF_lst, p_rowLoc, p_sortedLoc, p_sortedN, g_inNT, g_ninNT, g_inNL, g_ninNL, p_inLoc, p_ninLoc, p_neNilLoc, g_neNil, g_neNilN, g_neNilNT, ↓w_js1, ↓w_exis, ↓w_ok, ↓w_ex, ↓w_b, ↓w_loc, ↓w_istr, ↓w_iint, ↓w_itup, ↓w_nx, ↓w_rt, ↓w_bk, ↓w_ct, ↓w_sex, ↓w_t, ↓w_vsome, w_ok, w_ex, w_bad, w_iteoe, w_iteoo, w_itebad, w_some, w_none, w_pitess, w_pitebad, w_vsome, w_n, w_stN1, w_stN2, w_stN3, w_wipe0, w_wipe1, w_itrue, w_ifalse, w_inot, w_iand, w_ior, w_idec, w_imem, dec_true, dec_false, w_b, w_t, w_loc, w_istr, w_iint, w_itup, w_nx, w_rt, w_bk, w_ct, w_sex, w_bind, w_toS, w_itstr, w_ittup, w_itlst, w_itfz, w_itloc, a_int1, a_int2, a_int3, p_ixS, p_slS, p_split, p_joinL, p_joinT, p_joinLoc, p_revLoc, p_tupLoc, p_listLoc, p_zfill, p_str, p_intS, p_mulS, p_mulL, p_chr, p_append, w_dics, w_keys, keysD_nil, keysD_str, keysD_int, p_dget, p_din, p_dnin, dicAt_loc, dicAt_locM, keyD_str, keyD_int, merge_nil, merge_cons, p_tin, p_tget, Option.map_some, p_find, p_lstrip, p_upper, p_ljust, p_fmtS, p_fmtI, g_inL, g_inTs, g_inF, g_ninL, g_ninTs, g_ninF, allStr_nil, allStr_cons, allStr_map, strsOf_nil, strsOf_cons, strsOf_map, strsOf_sing, joinL_sing, isN_non, isN_bl, isN_int, isN_str, isN_tup, isN_lst, notN_non, notN_bl, notN_int, notN_str, notN_tup, notN_lst, cut_to, cut_from, cut_mid, cut_toN, cut_fromN, cut_midN, cut_all, ixT_nat, ixT_nn, ixT_ng, atD_ng, atD_nn, g_ixLoc, g_lenLoc', ixD_0, ixD_1, ixD_2, ixD_3, g_mulAI, g_slT, g_slL, g_slF, g_revL, g_revF, gStarts', g_ends, g_intAI, g_intAB, g_ord, g_inC, g_notInC, g_allM, g_anyM, g_pop, g_listL, g_listF, g_listT, g_tupL, g_tupF, g_tupT, g_add, g_addA, g_addAS, g_addS, g_addT, g_addL, g_sub, g_mul, g_div, g_mod, g_pow, g_lt, g_gt, g_le, g_ge, g_ltS, g_gtS, g_leS, g_geS, g_eq, g_ne, g_eqS, g_neS, g_eqB, g_neB, g_neg, g_abs, g_max, g_min, g_int, g_intB, g_ixT, g_ixL, g_ixF, g_lenT, g_lenL, g_lenF, g_lenS, at_nat, at_0, at_1, at_2, at_3, at_4, sto_at, sto_at0, sto_put, sto_put0, decide_eq_true_eq, Bool.not_eq_true, decide_eq_false_iff_not, List.map, List.length, List.length_map, List.replicate, List.cons_append, List.nil_append, List.append_nil, List.append_assoc, List.set, List.getElem?_cons_succ, List.getElem?_cons_zero, Nat.sub_self, Nat.reduceSub, Nat.reduceAdd, Int.toNat_natCast, if_true, if_false, ite_true, ite_false, reduceIte, Bool.false_eq_true, Bool.true_eq_false, Bool.not_true, Bool.not_false, decide_true, decide_false, true_implies, false_implies, implies_true, and_true, true_and, false_and, and_false, and_self, not_true_eq_false, not_false_eq_true, forall_const, Int.reduceToNat, Int.reduceLT, Int.reduceLE, Int.reduceEq, Int.reduceAdd, Int.reduceSub, Int.reduceMul, Int.reduceNeg, Nat.reduceLT, Nat.reduceLeDiff, Nat.reduceEqDiff, Nat.reduceMul, Int.natCast_add, cN0, cN1, cN2, cN3, cN4, cN5, Int.zero_add, ne_eq, reduceCtorEq, List.cons.injEq, isi_non_int, isi_non_bool, isi_non_str, isi_non_tuple, isi_non_list, isi_non_dict, isi_bl_int, isi_bl_bool, isi_bl_str, isi_bl_tuple, isi_bl_list, isi_bl_dict, isi_int_int, isi_int_bool, isi_int_str, isi_int_tuple, isi_int_list, isi_int_dict, isi_str_int, isi_str_bool, isi_str_str, isi_str_tuple, isi_str_list, isi_str_dict, isi_tup_int, isi_tup_bool, isi_tup_str, isi_tup_tuple, isi_tup_list, isi_tup_dict, isi_lst_int, isi_lst_bool, isi_lst_str, isi_lst_tuple, isi_lst_list, isi_lst_dict, isi_fz_int, isi_fz_bool, isi_fz_str, isi_fz_tuple, isi_fz_list, isi_fz_dict, so0, so1, so2, so3, so4, so5, so6, so7, so8, so9, so10, do10, mo10, p_addLocL, p_addLLoc, p_addLocs, w_ins, w_non, ↓w_fld, ↓w_putF, ↓w_augF, ↓w_meth, ↓w_prop, ↓w_make, setI_0n, setI_0c, setI_s, ↓w_enumS, w_enS, ↓w_listS, w_ls, ↓w_raiseF, ↓w_exf, ↓w_exisD, ↓w_idx, p_seqLoc, p_seqLst, p_idxLoc, p_idxL, ↓w_catL, p_seqLLoc, p_seqLLst, w_oset, ↓w_set0, w_arg1, ↓w_sadd, ↓w_sortSet, w_stN4, List.mem_cons, List.not_mem_nil, or_false, false_or, or_true, true_or, ne_eq])
local macro_rules | `(tactic| walk_at "gom*") => `(tactic| simp (disch := (first | assumption | exact dwrap (allStr_map _) | exact dwrap (allStr_sing _) | exact dwrap (p := allStr _ = true) rfl | (refine dwrap ?_; simp only [allStr_nil, allStr_cons, allStr_map]; done) | decide | omega | (refine dwrap ?_; walk_at "len"; omega))) only [↓w_run, ↓List.getElem?_cons_succ, ↓List.getElem?_cons_zero, ↓List.set, ↓List.map, ↓List.replicate, ↓w_seq, ↓w_skip, ↓w_break, ↓w_cont, ↓w_if, ↓w_ret, ↓w_retN, ↓w_drop, ↓w_set, ↓w_asg, ↓w_aug, ↓w_raise, ↓w_for, ↓w_tryAs, ↓w_tryOnly, ↓w_var, ↓w_c, ↓w_bin, ↓w_un, ↓w_bi, ↓w_nil, ↓w_cons, ↓w_tup, ↓w_lst, ↓w_lloc, ↓w_call, ↓w_asB, ↓w_and, ↓w_or, ↓w_not, ↓w_andV, ↓w_orV, ↓w_notV, ↓w_ifE, ↓w_sl, ↓w_nopart, ↓w_part, ↓w_gN, ↓w_gT, ↓w_gsNil, ↓w_gsCons, ↓w_gI, ↓w_sm, ↓w_lm, ↓w_yes, ↓w_range1, ↓w_range2, ↓w_range3, ↓w_iany, ↓w_comp, ↓w_repl, ↓w_dnew, ↓w_pairs0, ↓w_pairs1, ↓w_disp, ↓w_dget2, ↓w_dput, ↓w_js0, ↓w_par, ↓w_par3, w_two, w_three, p_isB, p_notB, ↓w_chain, ↓w_zip, w_zips, ↓w_compL, ↓w_dc, p_sortA, g_sortAL, p_extL, p_slLoc, ↓w_enum, w_enumT, w_enumL, w_enumC', ↓w_listL', ↓w_augI, natL_len, intL_len, rowA_1, rowF_tup, rowF_lst, p_rowLoc, p_sortedLoc, p_sortedN, g_inNT, g_ninNT, g_inNL, g_ninNL, p_inLoc, p_ninLoc, p_neNilLoc, g_neNil, g_neNilN, g_neNilNT, ↓w_js1, ↓w_exis, ↓w_ok, ↓w_ex, ↓w_b, ↓w_loc, ↓w_istr, ↓w_iint, ↓w_itup, ↓w_nx, ↓w_rt, ↓w_bk, ↓w_ct, ↓w_sex, ↓w_t, ↓w_vsome, w_ok, w_ex, w_bad, w_iteoe, w_iteoo, w_itebad, w_some, w_none, w_pitess, w_pitebad, w_vsome, w_n, w_stN1, w_stN2, w_stN3, w_wipe0, w_wipe1, w_itrue, w_ifalse, w_inot, w_iand, w_ior, w_idec, w_imem, dec_true, dec_false, w_b, w_t, w_loc, w_istr, w_iint, w_itup, w_nx, w_rt, w_bk, w_ct, w_sex, w_bind, w_toS, w_itstr, w_ittup, w_itlst, w_itfz, w_itloc, a_int1, a_int2, a_int3, p_ixS, p_slS, p_split, p_joinL, p_joinT, p_joinLoc, p_revLoc, p_tupLoc, p_listLoc, p_zfill, p_str, p_intS, p_mulS, p_mulL, p_chr, p_append, w_dics, w_keys, keysD_nil, keysD_str, keysD_int, p_dget, p_din, p_dnin, dicAt_loc, dicAt_locM, keyD_str, keyD_int, merge_nil, merge_cons, p_tin, p_tget, Option.map_some, p_find, p_lstrip, p_upper, p_ljust, p_fmtS, p_fmtI, g_inL, g_inTs, g_inF, g_ninL, g_ninTs, g_ninF, allStr_nil, allStr_cons, allStr_map, strsOf_nil, strsOf_cons, strsOf_map, strsOf_sing, joinL_sing, isN_non, isN_bl, isN_int, isN_str, isN_tup, isN_lst, notN_non, notN_bl, notN_int, notN_str, notN_tup, notN_lst, cut_to, cut_from, cut_mid, cut_toN, cut_fromN, cut_midN, cut_all, ixT_nat, ixT_nn, ixT_ng, atD_ng, atD_nn, g_ixLoc, g_lenLoc', ixD_0, ixD_1, ixD_2, ixD_3, g_mulAI, g_slT, g_slL, g_slF, g_revL, g_revF, gStarts', g_ends, g_intAI, g_intAB, g_ord, g_inC, g_notInC, g_allM, g_anyM, g_pop, g_listL, g_listF, g_listT, g_tupL, g_tupF, g_tupT, g_add, g_addA, g_addAS, g_addS, g_addT, g_addL, g_sub, g_mul, g_div, g_mod, g_pow, g_lt, g_gt, g_le, g_ge, g_ltS, g_gtS, g_leS, g_geS, g_eq, g_ne, g_eqS, g_neS, g_eqB, g_neB, g_neg, g_abs, g_max, g_min, g_int, g_intB, g_ixT, g_ixL, g_ixF, g_lenT, g_lenL, g_lenF, g_lenS, at_nat, at_0, at_1, at_2, at_3, at_4, sto_at, sto_at0, sto_put, sto_put0, decide_eq_true_eq, Bool.not_eq_true, decide_eq_false_iff_not, List.map, List.length, List.length_map, List.replicate, List.cons_append, List.nil_append, List.append_nil, List.append_assoc, List.set, List.getElem?_cons_succ, List.getElem?_cons_zero, Nat.sub_self, Nat.reduceSub, Nat.reduceAdd, Int.toNat_natCast, if_true, if_false, ite_true, ite_false, reduceIte, Bool.false_eq_true, Bool.true_eq_false, Bool.not_true, Bool.not_false, decide_true, decide_false, true_implies, false_implies, implies_true, and_true, true_and, false_and, and_false, and_self, not_true_eq_false, not_false_eq_true, forall_const, Int.reduceToNat, Int.reduceLT, Int.reduceLE, Int.reduceEq, Int.reduceAdd, Int.reduceSub, Int.reduceMul, Int.reduceNeg, Nat.reduceLT, Nat.reduceLeDiff, Nat.reduceEqDiff, Nat.reduceMul, Int.natCast_add, cN0, cN1, cN2, cN3, cN4, cN5, Int.zero_add, ne_eq, reduceCtorEq, List.cons.injEq, isi_non_int, isi_non_bool, isi_non_str, isi_non_tuple, isi_non_list, isi_non_dict, isi_bl_int, isi_bl_bool, isi_bl_str, isi_bl_tuple, isi_bl_list, isi_bl_dict, isi_int_int, isi_int_bool, isi_int_str, isi_int_tuple, isi_int_list, isi_int_dict, isi_str_int, isi_str_bool, isi_str_str, isi_str_tuple, isi_str_list, isi_str_dict, isi_tup_int, isi_tup_bool, isi_tup_str, isi_tup_tuple, isi_tup_list, isi_tup_dict, isi_lst_int, isi_lst_bool, isi_lst_str, isi_lst_tuple, isi_lst_list, isi_lst_dict, isi_fz_int, isi_fz_bool, isi_fz_str, isi_fz_tuple, isi_fz_list, isi_fz_dict, so0, so1, so2, so3, so4, so5, so6, so7, so8, so9, so10, do10, mo10, p_addLocL, p_addLLoc, p_addLocs, w_ins, w_non, ↓w_fld, ↓w_putF, ↓w_augF, ↓w_meth, ↓w_prop, ↓w_make, setI_0n, setI_0c, setI_s, ↓w_enumS, w_enS, ↓w_listS, w_ls, ↓w_raiseF, ↓w_exf, ↓w_exisD, ↓w_idx, p_seqLoc, p_seqLst, p_idxLoc, p_idxL, ↓w_catL, p_seqLLoc, p_seqLLst, w_oset, ↓w_set0, w_arg1, ↓w_sadd, ↓w_sortSet, w_stN4, List.mem_cons, List.not_mem_nil, or_false, false_or, or_true, true_or, ne_eq, *])
local macro_rules | `(tactic| walk_at "run") => `(tactic| simp only [w_run, w_n, List.map, List.length, List.replicate, List.cons_append, List.nil_append, Nat.reduceSub, Nat.reduceAdd, Nat.sub_self])
local macro_rules | `(tactic| walk_at "sp") => `(tactic| repeat' (first | (with_reducible refine And.intro ?_ ?_) | (refine (And.intro ?_ ?_ : OkI _ _ _)) | (intro _)))
local macro_rules | `(tactic| walk_at "sz") => `(tactic| first
  | assumption
  | (with_reducible apply so_le; walk_at "len"; omega)
  | (with_reducible refine divOk_small ?_ ?_ <;> omega)
  | (with_reducible apply modOk_pos; omega)
  | (with_reducible apply small62_of; constructor <;> (walk_at "len"; omega))
  | (with_reducible apply mulOk_R; constructor <;> omega)
  | (with_reducible apply mulOk_L; constructor <;> omega)
  | (with_reducible apply powOk_of; omega)
  | (with_reducible refine repOk_of ?_ ?_ <;> (walk_at "len"; omega))
  | (with_reducible apply joinOk_sing; (walk_at "len"); omega)
  | decide)
local macro_rules | `(tactic| walk_at "auto") => `(tactic| ((try walk_at "go"); walk_at "sp"; all_goals (try first | walk_at "sz" | omega)))
local macro_rules | `(tactic| walk_at "autom") => `(tactic| ((try walk_at "gom"); walk_at "sp"; all_goals (try first | walk_at "sz" | omega)))
local macro_rules | `(tactic| walk_at "auto*") => `(tactic| ((try walk_at "go*"); walk_at "sp"; all_goals (try first | walk_at "sz" | omega)))
local macro_rules | `(tactic| walk_at "autom*") => `(tactic| ((try walk_at "gom*"); walk_at "sp"; all_goals (try first | walk_at "sz" | omega)))
local macro_rules | `(tactic| walk_at "put") => `(tactic| simp only [sto_put, sto_put0, List.set])
/-! drawing numbers: the draws stand first in the store -/
def Dw (ns : List Int) (W : Sto) (S : Sto) : Prop := ∃ (p : Nat) (v s : Int), 0 ≤ v ∧ 0 ≤ s ∧ S = .lst [.lst (ns.map D.int), .int p, .int v, .int s] :: W
theorem t_draws {k : Nat} (hk : 1 ≤ k) (ns : List Int) : OkO ((T k)._law_draws [.fz (ns.map D.int)] []) (fun d S' => d = .loc 0 ∧ Hid (Dw ns [] S')) (fun _ _ => False) := by
  obtain ⟨k, rfl⟩ := Nat.exists_eq_add_of_le' hk
  rw [T__law_draws, a_runT]
  unfold b__law_draws
  have e : runB 1 (mRet (mLoc (mCons (mB gList (mCons (mVar 0) mNil)) (mCons (mC (.int 0)) (mCons (mC (.int 0)) (mCons (mC (.int 1)) mNil)))))) [.fz (ns.map D.int)] [] = .ok (.loc 0) [.lst [.lst (ns.map D.int), .int 0, .int 0, .int 1]] := by
    walk_at "ev*"
    all_goals rfl
  rw [e]
  exact ⟨rfl, hid ⟨0, 0, 1, by omega, by omega, rfl⟩⟩
theorem t_draw {k : Nat} (hk : 1 ≤ k) {ns : List Int} {W : Sto} (m : Int) (hm : 0 < m) (hd : m < 18446744073709551616) {S : Sto} (h : Dw ns W S) : ∃ (d : Int) (S' : Sto), Dw ns W S' ∧ 0 ≤ d ∧ d < m ∧ (T k)._law_draw [.loc 0, .int m] S = .ok (.int d) S' := by
  obtain ⟨k, rfl⟩ := Nat.exists_eq_add_of_le' hk
  rw [T__law_draw]
  unfold b__law_draw
  obtain ⟨p, v, s, hv, hs, rfl⟩ := h
  have mm : modOk m := modOk_of hm
  have hd : divOk m := divOk_of hm (by omega)
  have p18 : powOk 10 18 := ⟨by decide, by decide, by decide⟩
  have e18 : (10 : Int) ^ (Int.toNat 18) = 1000000000000000000 := by decide
  have d1 : modOk 2147483647 := modOk_of (by decide)
  have d2 : modOk 2147483629 := modOk_of (by decide)
  have d11 : divOk 11 := divOk_of (by decide) (by decide)
  have ml : ∀ x : Int, mulOk x 48271 := fun x => mulOk_small (by decide)
  have ml2 : ∀ x : Int, mulOk x 69621 := fun x => mulOk_small (by decide)
  by_cases c1 : v = 0
  · subst c1
    by_cases c2 : p < ns.length
    · have h2 : (ns.map D.int)[p]? = some (D.int ns[p]) := by rw [List.getElem?_map, List.getElem?_eq_getElem c2]; rfl
      have h1 : (p : Int) < (ns.length : Int) := by omega
      generalize ns[p] = cell at *
      have ep : (p : Int) + 1 = ((p + 1 : Nat) : Int) := by omega
      have ml1 := ml s
      by_cases c3 : (1000000000000000000 : Int) ≤ cell
      · have hc : 0 < cell := by omega
        refine ⟨cell % m, .lst [.lst (ns.map D.int), .int ((p + 1 : Nat) : Int), .int (cell / m), .int ((s * 48271 + cell + 13) % 2147483647)] :: W, ⟨_, _, _, Int.ediv_nonneg (by omega) (by omega), Int.emod_nonneg _ (by decide), rfl⟩, Int.emod_nonneg _ (by omega), Int.emod_lt_of_pos _ hm, ?_⟩
        rw [← ep]
        clear ml ml2
        walk_at "ev"
        simp only [h1, h2, p18, e18, c3, d1, ml1, if_true]
        all_goals walk_at "ev*"
      · have hc : ¬ (0 : Int) < 0 := by decide
        generalize hs2 : (s * 48271 + cell + 13) % 2147483647 = s2 at *
        have hs3 : 0 ≤ s2 := by rw [← hs2]; exact Int.emod_nonneg _ (by decide)
        have ml3 := ml2 s2
        refine ⟨(s2 * 69621 + 7) % 2147483629 / 11 % m, .lst [.lst (ns.map D.int), .int ((p + 1 : Nat) : Int), .int 0, .int ((s2 * 69621 + 7) % 2147483629)] :: W, ⟨_, _, _, by decide, Int.emod_nonneg _ (by decide), rfl⟩, Int.emod_nonneg _ (by omega), Int.emod_lt_of_pos _ hm, ?_⟩
        rw [← ep]
        clear ml ml2
        walk_at "ev"
        simp only [h1, h2, p18, e18, c3, d1, ml1, if_true]
        all_goals walk_at "ev*"
    · have h1 : ¬ (p : Int) < (ns.length : Int) := by omega
      have hc : ¬ (0 : Int) < 0 := by decide
      have ml3 := ml2 s
      refine ⟨(s * 69621 + 7) % 2147483629 / 11 % m, .lst [.lst (ns.map D.int), .int p, .int 0, .int ((s * 69621 + 7) % 2147483629)] :: W, ⟨_, _, _, by decide, Int.emod_nonneg _ (by decide), rfl⟩, Int.emod_nonneg _ (by omega), Int.emod_lt_of_pos _ hm, ?_⟩
      clear ml ml2
      walk_at "ev*"
  · have hv2 : 0 < v := by omega
    refine ⟨v % m, .lst [.lst (ns.map D.int), .int p, .int (v / m), .int s] :: W, ⟨_, _, _, Int.ediv_nonneg hv (by omega), hs, rfl⟩, Int.emod_nonneg _ (by omega), Int.emod_lt_of_pos _ hm, ?_⟩
    clear ml ml2
    walk_at "ev*"
/-- one draw -/
theorem w_draw {k : Nat} {ns : List Int} {W : Sto} {m : Int} {S : Sto} {Q : D → Sto → Prop} {X : Exn → Sto → Prop} (hk : 1 ≤ k) (hm : 0 < m) (hd : m < 18446744073709551616) (h : Dw ns W S) (q : ∀ x S', Dw ns W S' → 0 ≤ x → x < m → Q (.int x) S') : OkO ((T k)._law_draw [.loc 0, .int m] S) Q X := by
  obtain ⟨d, S', w, a, b, e⟩ := t_draw hk m hm hd h
  rw [e]
  exact q d S' w a b
/-! the draws stand first in the store -/
theorem dw_len {ns : List Int} {W S : Sto} (h : Dw ns W S) : S.length = W.length + 1 := by obtain ⟨p, v, s, _, _, rfl⟩ := h; rfl
theorem dw_get {ns : List Int} {W S : Sto} (h : Dw ns W S) (j : Nat) : S[j + 1]? = W[j]? := by obtain ⟨p, v, s, _, _, rfl⟩ := h; rfl
theorem dw_set {ns : List Int} {W S : Sto} (h : Dw ns W S) (j : Nat) (x : Ob) : Dw ns (W.set j x) (S.set (j + 1) x) := by obtain ⟨p, v, s, h1, h2, rfl⟩ := h; exact ⟨p, v, s, h1, h2, rfl⟩
theorem dw_app {ns : List Int} {W S : Sto} (h : Dw ns W S) (x : Ob) : Dw ns (W ++ [x]) (S ++ [x]) := by obtain ⟨p, v, s, h1, h2, rfl⟩ := h; exact ⟨p, v, s, h1, h2, rfl⟩
theorem ok_trimP {S : Sto} {o : Out D} {P : D → Prop} (h : OkO o (fun d _ => P d) (fun _ _ => False)) : OkO (trim S o) (fun d _ => P d) (fun _ _ => False) := by
  cases o with
  | ok d S' => unfold trim; simp only; split <;> exact h
  | ex e S' => exact h.elim
  | bad => exact h.elim
theorem small62_le {n : Nat} (h : n ≤ 1000000) : small62 n := ⟨by omega, by omega⟩
def okS : Nat → D → Bool
  | _, .int _ => true
  | _, .bl _ => true
  | _, .str _ => true
  | _, .non => true
  | n + 1, .tup xs => decide (xs.length ≤ 1000) && xs.all (okS n)
  | _, _ => false
theorem t_same : ∀ (n : Nat) (d : D), okS n d = true → ∀ (k : Nat), n < k → ∀ S, (T k)._law_same [d, d] S = .ok (.bl true) S := by
  have base : ∀ (d : D), (∃ i, d = .int i) ∨ (∃ b, d = .bl b) ∨ (∃ z, d = .str z) ∨ d = .non → ∀ (k : Nat), 0 < k → ∀ S, (T k)._law_same [d, d] S = .ok (.bl true) S := by
    intro d h k hk S
    obtain ⟨k, rfl⟩ := Nat.exists_eq_add_of_le' hk
    rw [show k + (0 + 1) = k + 1 from rfl, T__law_same]
    unfold b__law_same
    have n1 : ∀ i, gIsN S (.int i) .non = some (.bl false) := fun i => rfl
    have n2 : ∀ i, gIsN S (.bl i) .non = some (.bl false) := fun i => rfl
    rcases h with ⟨i, rfl⟩ | ⟨b, rfl⟩ | ⟨z, rfl⟩ | rfl
    · walk_at "ev*"
    · walk_at "ev*"
    · walk_at "ev*"
    · have n3 : gIsN S .non .non = some (.bl true) := rfl
      walk_at "ev*"
  intro n
  induction n with
  | zero =>
    intro d h k hk S
    cases d <;> first | exact base _ (.inl ⟨_, rfl⟩) k hk S | exact base _ (.inr (.inl ⟨_, rfl⟩)) k hk S | exact base _ (.inr (.inr (.inl ⟨_, rfl⟩))) k hk S | exact base _ (.inr (.inr (.inr rfl))) k hk S | (simp [okS] at h)
  | succ n ih =>
    intro d h k hk S
    cases d with
    | int i => exact base _ (.inl ⟨_, rfl⟩) k (by omega) S
    | bl i => exact base _ (.inr (.inl ⟨_, rfl⟩)) k (by omega) S
    | str i => exact base _ (.inr (.inr (.inl ⟨_, rfl⟩))) k (by omega) S
    | non => exact base _ (.inr (.inr (.inr rfl))) k (by omega) S
    | tup xs =>
      simp only [okS, Bool.and_eq_true, decide_eq_true_eq] at h
      obtain ⟨hl, ha⟩ := h
      obtain ⟨k, rfl⟩ := Nat.exists_eq_add_of_le' (show 1 ≤ k by omega)
      obtain ⟨E2, S2, e, ⟨y, rfl⟩, rfl⟩ := forR_inv (g := gN 2) (b := l__law_same_1 (T k)) (lo := 0) (n := xs.length) (E := [some (.tup xs), some (.tup xs), none]) (S := S)
        (fun i E S' => (∃ y, E = [some (.tup xs), some (.tup xs), y]) ∧ S' = S) ⟨⟨none, rfl⟩, rfl⟩ (by
          rintro i E S' hi ⟨⟨y, rfl⟩, rfl⟩
          have hx : xs[i]? = some xs[i] := List.getElem?_eq_getElem hi
          have q := ih xs[i] (List.all_eq_true.mp ha _ (List.getElem_mem hi)) k (by omega) S'
          have e0 : (0 : Int) + (i : Int) = (i : Int) := Int.zero_add _
          refine ⟨[some (.tup xs), some (.tup xs), some (.int (i : Int))], S', .inl ?_, ⟨_, rfl⟩, rfl⟩
          unfold l__law_same_1
          generalize xs[i] = x at *
          clear ha hl
          walk_at "ev*")
      rw [T__law_same]
      unfold b__law_same
      have s62 : small62 (xs.length : Int) := small62_le (by omega)
      have e0 : (xs.length : Int).toNat = xs.length := Int.toNat_natCast _
      clear ha hl ih base
      walk_at "ev*"
    | _ => simp [okS] at h
theorem lbs_ints {n : Nat} : ∀ ns : List Int, lbs n (intL ns) = true
  | [] => rfl
  | _ :: r => by show (true && lbs n (intL r)) = true; rw [lbs_ints r]; rfl
theorem lbs_nats {n : Nat} : ∀ ns : List Nat, lbs n (natL ns) = true := fun ns => by rw [natL_int]; exact lbs_ints _
/-! results that are kept; a cut at the end -/
theorem ok_trimK {o : Out D} {S : Sto} {Q : D → Sto → Prop} {X : Exn → Sto → Prop} (h : OkO o (fun d S' => lb S.length d = false ∧ Q d S') (fun _ _ => False)) : OkO (trim S o) Q X := by
  cases o with
  | ok d S' =>
    obtain ⟨h1, h2⟩ := h
    unfold trim
    simp only
    rw [if_neg (by rw [h1]; simp)]
    exact h2
  | ex e S' => exact h.elim
  | bad => exact h.elim
theorem ok_cut_end {sa : MS} {E : Evn} {S : Sto} {N B C : EC} {R : D → Sto → Prop} {XE : Exn → EC} (M : EC) (h1 : OkS (sa E S) M R XE B C) (h2 : ∀ E' S', M E' S' → N E' S') : OkS (sa E S) N R XE B C :=
  oks_imp h1 h2 (fun _ _ h => h) (fun _ _ _ h => h) (fun _ _ h => h) (fun _ _ h => h)
/-! k40: names -/
theorem t_resv {k : Nat} (hk : 1 ≤ k) (S : Sto) : ∃ xs : List D, allStr xs = true ∧ xs.length ≤ 100 ∧ (T k)._law_reserved [] S = .ok (.lst xs) S := by
  obtain ⟨k, rfl⟩ := Nat.exists_eq_add_of_le' hk
  have h : OkO ((T (k + 1))._law_reserved [] S) (fun d S' => S' = S ∧ Hid (∃ xs : List D, allStr xs = true ∧ xs.length ≤ 100 ∧ d = .lst xs)) (fun _ _ => False) := by
    rw [T__law_reserved]
    unfold b__law_reserved
    walk_at "auto*"
    exact hid ⟨_, rfl, by decide, rfl⟩
  obtain ⟨d, S', e, rfl, xs, h1, h2, rfl⟩ := ok_get h
  exact ⟨xs, h1, h2, e⟩
theorem t_name {k : Nat} (hk : 2 ≤ k) {ns : List Int} {W S : Sto} (h : Dw ns W S) : OkO ((T k)._law_name [.loc 0] S) (fun d S' => Hid (∃ z : Tx, d = .str z ∧ z.length ≤ 21 ∧ Dw ns W S')) (fun _ _ => False) := by
  obtain ⟨k, rfl⟩ := Nat.exists_eq_add_of_le' hk
  rw [show k + 2 = (k + 1) + 1 from rfl, T__law_name]
  unfold b__law_name q__law_name_1
  walk_at "run"
  obtain ⟨LT, hLT⟩ : ∃ LT : Tx, LT = [97, 98, 99, 100, 101, 102, 103, 104, 105, 106, 107, 108, 109, 110, 111, 112, 113, 114, 115, 116, 117, 118, 119, 120, 121, 122] := ⟨_, rfl⟩
  have hl : LT.length = 26 := by rw [hLT]; rfl
  refine ok_cut (fun E S' => S = S' ∧ E = [some (.loc 0), some (.str LT), none, none, none, none]) ?_ ?_
  · rw [hLT]
    walk_at "auto*"
  rintro _ _ ⟨rfl, rfl⟩
  clear hLT
  refine ok_cut (fun E S' => Hid (∃ z : Nat, 1 ≤ z ∧ z ≤ 20 ∧ Dw ns W S' ∧ E = [some (.loc 0), some (.str LT), some (.int (z : Nat)), none, none, none])) ?_ ?_
  · obtain ⟨d, S1, h1, d0, d1, td⟩ := t_draw (k := k + 1) (by omega) 4 (by decide) (by decide) h
    obtain ⟨z, hz⟩ : ∃ z : Nat, 1 + d = (z : Int) := ⟨(1 + d).toNat, by omega⟩
    replace h1 := hid h1
    clear h
    walk_at "auto*"
    exact hid ⟨z, by omega, by omega, h1, rfl⟩
  clear h
  clear S
  rintro _ S ⟨z, z1, z2, h, rfl⟩
  refine ok_cut (fun E S' => Hid (∃ z : Nat, 1 ≤ z ∧ z ≤ 20 ∧ Dw ns W S' ∧ E = [some (.loc 0), some (.str LT), some (.int (z : Nat)), none, none, none])) ?_ ?_
  · obtain ⟨d, S1, h1, d0, d1, td⟩ := t_draw (k := k + 1) (by omega) 6 (by decide) (by decide) h
    obtain ⟨d2, S2, h2, d3, d4, td2⟩ := t_draw (k := k + 1) (by omega) 20 (by decide) (by decide) h1
    obtain ⟨z2, hz2⟩ : ∃ z : Nat, 1 + d2 = (z : Int) := ⟨(1 + d2).toNat, by omega⟩
    replace h1 := hid h1
    replace h2 := hid h2
    clear h
    walk_at "auto*"
    · exact hid ⟨z2, by omega, by omega, h2, rfl⟩
    · exact hid ⟨z, by omega, by omega, h1, rfl⟩
  clear h z1 z2
  clear S z
  rintro _ S ⟨z, z1, z2, h, rfl⟩
  refine ok_cut (fun E S' => Hid (∃ c : Nat, Dw ns W S' ∧ E = [some (.loc 0), some (.str LT), some (.int (z : Nat)), some (.str [c]), none, none])) ?_ ?_
  · obtain ⟨d, S1, h1, d0, d1, td⟩ := t_draw (k := k + 1) (by omega) 26 (by decide) (by decide) h
    have hc : ∃ c, LT[d.toNat]? = some c := ⟨_, List.getElem?_eq_getElem (show d.toNat < LT.length by omega)⟩
    obtain ⟨c, hc⟩ := hc
    replace h1 := hid h1
    clear h
    walk_at "auto*"
    exact hid ⟨c, h1, rfl⟩
  clear h
  clear S
  rintro _ S ⟨c, h, rfl⟩
  refine ok_cut (fun E S' => Hid (∃ y : Tx, y.length ≤ 20 ∧ Dw ns W S' ∧ (∃ u : Nat → Option D, E = [some (.loc 0), u 1, u 2, some (.str y), u 4, u 5]))) ?_ ?_
  · replace h := hid h
    walk_at "auto*"
    refine ok_forR (fun i E S' => Hid (∃ y : Tx, y.length = i + 1 ∧ Dw ns W S' ∧ (∃ u : Nat → Option D, E = [some (.loc 0), some (.str LT), some (.int (z : Nat)), some (.str y), u 4, u 5]))) (hid ⟨[c], rfl, h, exE rfl⟩) ?_ ?_
    · clear h
      clear S
      rintro i _ S hi ⟨y, hy, h, u, rfl⟩
      have e0 : (0 : Int) + (i : Int) = (i : Int) := Int.zero_add _
      rw [w_gN, e0]
      walk_at "n"
      unfold l__law_name_1
      refine ok_cut (fun E S' => Hid (S = S' ∧ (∃ u : Nat → Option D, E = [some (.loc 0), some (.str LT), some (.int (z : Nat)), some (.str y), some (.int (i : Nat)), some (.str (LT ++ [48, 49, 50, 51, 52, 53, 54, 55, 56, 57]))]))) ?_ ?_
      · walk_at "auto*"
        exact hid ⟨rfl, exE rfl⟩
      clear u
      rintro _ _ ⟨rfl, u, rfl⟩
      refine ok_cut (fun E S' => Hid (∃ M : Tx, M.length ≤ 37 ∧ 36 ≤ M.length ∧ S = S' ∧ (∃ u : Nat → Option D, E = [some (.loc 0), some (.str LT), some (.int (z : Nat)), some (.str y), u 4, some (.str M)]))) ?_ ?_
      · have l1 : (LT ++ [48, 49, 50, 51, 52, 53, 54, 55, 56, 57]).length = 36 := by rw [List.length_append, hl]; rfl
        generalize LT ++ [48, 49, 50, 51, 52, 53, 54, 55, 56, 57] = M0 at *
        have l2 : (M0 ++ [45]).length = 37 := by rw [List.length_append, l1]; rfl
        walk_at "auto*"
        · exact hid ⟨M0 ++ [45], by omega, by omega, rfl, exE rfl⟩
        · exact hid ⟨M0, by omega, by omega, rfl, exE rfl⟩
      clear u
      rintro _ _ ⟨M, m1, m2, rfl, u, rfl⟩
      obtain ⟨d, S1, h1, d0, d1, td⟩ := t_draw (k := k + 1) (by omega) (M.length : Int) (by omega) (by omega) h
      have hc : ∃ c, M[d.toNat]? = some c := ⟨_, List.getElem?_eq_getElem (show d.toNat < M.length by omega)⟩
      obtain ⟨c, hc⟩ := hc
      replace h1 := hid h1
      clear h
      walk_at "auto*"
      exact hid ⟨y ++ [c], by simp [hy], h1, exE rfl⟩
    · rintro _ S ⟨y, hy, h, u, rfl⟩
      exact hid ⟨y, by omega, h, exE rfl⟩
  clear h
  clear S
  rintro _ S ⟨y, hy, h, u, rfl⟩
  obtain ⟨xs, x1, x2, tr⟩ := t_resv (k := k + 1) (by omega) S
  replace h := hid h
  walk_at "auto*"
  · exact hid ⟨y ++ [48], rfl, by rw [List.length_append]; simp; omega, h⟩
  · exact hid ⟨y, rfl, by omega, h⟩
/-! k40: a name that is new -/
theorem pig {α : Type} [DecidableEq α] : ∀ (l m : List α), l.Nodup → (∀ x ∈ l, x ∈ m) → l.length ≤ m.length
  | [], m, _, _ => Nat.zero_le _
  | x :: l, m, hn, h => by
    rw [List.nodup_cons] at hn
    have hx := h x List.mem_cons_self
    have ih := pig l (m.erase x) hn.2 fun y hy => (List.mem_erase_of_ne (fun e => hn.1 (by rw [← e]; exact hy))).mpr (h y (List.mem_cons_of_mem _ hy))
    rw [List.length_erase_of_mem hx] at ih
    have := List.length_pos_of_mem hx
    rw [List.length_cons]
    omega
def nx (N : List Tx) (z : Tx) (j : Nat) : Tx := if z ∈ N then z.take 16 ++ TL.numL j else z
def nxs (N : List Tx) (z : Tx) : Nat → Tx
  | 0 => z
  | j + 1 => nx N (nxs N z j) j
theorem numL_l : ∀ j, j ≤ 41 → (TL.numL j).length = if j < 10 then 1 else 2 := by decide
theorem nx_len {N : List Tx} {z : Tx} {c : Nat} (hc : c ≤ 42) (h : ∀ j, j < c → nxs N z j ∈ N) : ∀ j, j < c → (nxs N z (j + 1)) = (nxs N z j).take 16 ++ TL.numL j := fun j hj => by
  show nx N (nxs N z j) j = _
  unfold nx
  rw [if_pos (h j hj)]
theorem nx_mono {N : List Tx} {z : Tx} {c : Nat} (hc : c ≤ 42) (h : ∀ j, j < c → nxs N z j ∈ N) {i : Nat} : ∀ j, i < j → j < c → min 16 ((nxs N z i).length + 1) ≤ min 16 (nxs N z j).length
  | 0, a, b => absurd a (by omega)
  | j + 1, a, b => by
    have e := nx_len hc h j (by omega)
    have e2 := congrArg List.length e
    rw [List.length_append, List.length_take, numL_l j (by omega)] at e2
    by_cases q : i = j
    · subst q
      split at e2 <;> omega
    · have := nx_mono hc h j (by omega) (by omega) (i := i)
      split at e2 <;> omega
theorem nx_ne {N : List Tx} {z : Tx} {c : Nat} (hc : c ≤ 42) (h : ∀ j, j < c → nxs N z j ∈ N) {i j : Nat} (hi : i < j) (hj : j < c) : nxs N z (i + 1) ≠ nxs N z (j + 1) := fun e => by
  have m := nx_mono hc h (i := i) j hi hj
  rw [nx_len hc h i (by omega), nx_len hc h j hj] at e
  have e2 := congrArg List.length e
  rw [List.length_append, List.length_append, List.length_take, List.length_take, numL_l i (by omega), numL_l j (by omega)] at e2
  have h16 : 16 ≤ (nxs N z i).length ∧ 16 ≤ (nxs N z j).length := by
    split at e2 <;> split at e2 <;> omega
  have e3 := congrArg (List.drop 16) e
  rw [List.drop_left' (by rw [List.length_take]; omega), List.drop_left' (by rw [List.length_take]; omega)] at e3
  have := congrArg NumText.digitsVal e3
  rw [TL.numL_val, TL.numL_val] at this
  omega
def nxc (N : List Tx) (z : Tx) : Nat → List Tx
  | 0 => []
  | j + 1 => nxs N z (j + 1) :: nxc N z j
theorem mem_nxc {N : List Tx} {z x : Tx} : ∀ j, x ∈ nxc N z j → ∃ i, i < j ∧ x = nxs N z (i + 1)
  | 0, h => by cases h
  | j + 1, h => by
    rcases List.mem_cons.mp h with h | h
    · exact ⟨j, Nat.lt_succ_self _, h⟩
    · obtain ⟨i, h1, h2⟩ := mem_nxc j h
      exact ⟨i, by omega, h2⟩
theorem nxc_nodup {N : List Tx} {z : Tx} {c : Nat} (hc : c ≤ 42) (h : ∀ j, j < c → nxs N z j ∈ N) : ∀ j, j ≤ c → (nxc N z j).Nodup ∧ (nxc N z j).length = j
  | 0, _ => ⟨List.nodup_nil, rfl⟩
  | j + 1, hj => by
    obtain ⟨h1, h2⟩ := nxc_nodup hc h j (by omega)
    refine ⟨List.nodup_cons.mpr ⟨fun hm => ?_, h1⟩, by show (nxc N z j).length + 1 = j + 1; rw [h2]⟩
    obtain ⟨i, i1, i2⟩ := mem_nxc j hm
    exact nx_ne hc h i1 (by omega) i2.symm
theorem nx_stay {N : List Tx} {z : Tx} {j : Nat} (h : nxs N z j ∉ N) : ∀ m, nxs N z (j + m) = nxs N z j
  | 0 => rfl
  | m + 1 => by
    show nx N (nxs N z (j + m)) (j + m) = _
    rw [nx_stay h m]
    unfold nx
    rw [if_neg h]
/-- behind enough turns the name is new -/
theorem nx_new {N : List Tx} {z : Tx} {c : Nat} (hc : c ≤ 42) (hl : N.length < c) : nxs N z c ∉ N := fun hm => by
  have h : ∀ j, j < c + 1 → nxs N z j ∈ N := fun j hj => Classical.byContradiction fun q => by
    have := nx_stay q (c - j)
    rw [show j + (c - j) = c by omega] at this
    rw [this] at hm
    exact q hm
  obtain ⟨h1, h2⟩ := nxc_nodup hc (fun j hj => h j (by omega)) c (Nat.le_refl _)
  have := pig (nxc N z c) N h1 fun x hx => by
    obtain ⟨i, i1, i2⟩ := mem_nxc c hx
    rw [i2]
    exact h (i + 1) (by omega)
  omega
theorem nxs_len {N : List Tx} {z : Tx} (hz : z.length ≤ 21) : ∀ j, j ≤ 42 → (nxs N z j).length ≤ 21
  | 0, _ => hz
  | j + 1, hj => by
    have := nxs_len (N := N) hz j (by omega)
    show (nx N (nxs N z j) j).length ≤ 21
    unfold nx
    split
    · rw [List.length_append, List.length_take, numL_l j (by omega)]
      split <;> omega
    · exact this
/-! k40: all names -/
theorem numT_j (j : Nat) : numT (j : Int) = TL.numL j := by
  unfold numT
  rw [if_neg (by omega), Int.natAbs_natCast]
theorem so_j {j : Nat} (h : j ≤ 1000) : strOkI (j : Int) := by
  unfold strOkI
  rw [Int.natAbs_natCast]
  exact Nat.lt_of_le_of_lt (Nat.log2_le_self j) (by omega)
theorem dw_last {ns : List Int} {W S : Sto} {o : Ob} (h : Dw ns (W ++ [o]) S) : S[W.length + 1]? = some o := by
  rw [dw_get h, List.getElem?_append_right (Nat.le_refl _), Nat.sub_self]; rfl
theorem in_names {Z : Sto} {n : Nat} {N : List Tx} {z : Tx} (h : Z[n]? = some (.lst (N.map D.str))) : gIn Z (.str z) (.loc n) = some (.bl (decide (z ∈ N))) := by
  rw [g_in (in_seq (ys := N.map D.str) (by unfold seqF; simp only [h]) rfl (flD_all (allStr_map _))), teq_any (allStr_map _), strsOf_map]
theorem t_names {k : Nat} (hk : 3 ≤ k) {ns : List Int} {W S : Sto} (h : Dw ns W S) (c : Nat) (hc : c ≤ 40) :
    OkO ((T k)._law_names [.loc 0, .int (c : Nat)] S) (fun d S' => Hid (∃ N : List Tx, N.Nodup ∧ N.length = c ∧ d = .loc (W.length + 1) ∧ Dw ns (W ++ [.lst (N.map D.str)]) S')) (fun _ _ => False) := by
  obtain ⟨k, rfl⟩ := Nat.exists_eq_add_of_le' hk
  rw [show k + 3 = (k + 2) + 1 from rfl, T__law_names, a_runT]
  refine ok_trimK ?_
  unfold b__law_names
  walk_at "run"
  have hSl := dw_len h
  refine ok_cut (fun E S' => Hid (Dw ns (W ++ [.lst (([] : List Tx).map D.str)]) S' ∧ E = [some (.loc 0), some (.int (c : Nat)), some (.loc (W.length + 1)), none, none, none])) ?_ ?_
  · have h1 := dw_app h (.lst (([] : List Tx).map D.str))
    replace h1 := hid h1
    clear h
    walk_at "auto*"
    exact hid ⟨h1, by rw [hSl]⟩
  clear h
  rintro _ Z ⟨h, rfl⟩
  refine ok_cut (fun E S' => Hid (∃ N : List Tx, N.Nodup ∧ N.length = c ∧ Dw ns (W ++ [.lst (N.map D.str)]) S' ∧ (∃ u : Nat → Option D, E = [u 0, u 1, some (.loc (W.length + 1)), u 3, u 4, u 5]))) ?_ ?_
  · replace h := hid h
    walk_at "auto*"
    refine ok_forR (fun i E S' => Hid (∃ N : List Tx, N.Nodup ∧ N.length = i ∧ Dw ns (W ++ [.lst (N.map D.str)]) S' ∧ (∃ u : Nat → Option D, E = [some (.loc 0), some (.int (c : Nat)), some (.loc (W.length + 1)), u 3, u 4, u 5]))) (hid ⟨[], List.nodup_nil, rfl, (show Dw ns (W ++ [.lst (([] : List Tx).map D.str)]) Z from h), exE rfl⟩) ?_ ?_
    · clear h
      clear Z
      rintro i _ Z hi ⟨N, hn, hl, h, u, rfl⟩
      have e0 : (0 : Int) + (i : Int) = (i : Int) := Int.zero_add _
      rw [w_gN, e0]
      walk_at "n"
      unfold l__law_names_2
      refine ok_cut (fun E S' => Hid (∃ z : Tx, z.length ≤ 21 ∧ Dw ns (W ++ [.lst (N.map D.str)]) S' ∧ (∃ u : Nat → Option D, E = [some (.loc 0), some (.int (c : Nat)), some (.loc (W.length + 1)), some (.int (i : Nat)), some (.str z), u 5]))) ?_ ?_
      · have tn := t_name (k := k + 2) (by omega) h
        clear h
        walk_at "auto*"
        refine ok_imp tn ?_ (fun _ _ h => h.elim)
        rintro _ S' ⟨z, rfl, h1, h2⟩
        replace h2 := hid h2
        walk_at "auto*"
        exact hid ⟨z, h1, h2, exE rfl⟩
      clear u h
      clear Z
      rintro _ Z ⟨z, hz, h, u, rfl⟩
      have hZ := dw_last h
      refine ok_cut (fun E S' => Hid (Z = S' ∧ (∃ u : Nat → Option D, E = [some (.loc 0), some (.int (c : Nat)), some (.loc (W.length + 1)), some (.int (i : Nat)), some (.str (nxs N z (c + 1))), u 5]))) ?_ ?_
      · obtain ⟨m, hm, hm2⟩ : ∃ m : Nat, (c : Int) + 1 = (m : Int) ∧ m = c + 1 := ⟨c + 1, by omega, rfl⟩
        rw [← hm2]
        replace hm2 := hid hm2
        walk_at "auto*"
        replace hm2 : m = c + 1 := hm2
        refine ok_forR (fun j E S' => Hid (Z = S' ∧ (∃ u : Nat → Option D, E = [some (.loc 0), some (.int (c : Nat)), some (.loc (W.length + 1)), some (.int (i : Nat)), some (.str (nxs N z j)), u 5]))) (hid ⟨rfl, exE rfl⟩) ?_ ?_
        · clear u
          rintro j _ _ hj ⟨rfl, u, rfl⟩
          have e0 : (0 : Int) + (j : Int) = (j : Int) := Int.zero_add _
          rw [w_gN, e0]
          walk_at "n"
          unfold l__law_names_1
          have hzl := nxs_len (N := N) hz j (by omega)
          have hnx : nxs N z (j + 1) = nx N (nxs N z j) j := rfl
          rw [hnx]
          unfold nx
          have hso := so_j (j := j) (by omega)
          have hnt := numT_j j
          have hnl := numL_l j (by omega)
          have hnl2 : (TL.numL j).length ≤ 2 := by rw [hnl]; split <;> omega
          have hin := fun z => in_names (z := z) hZ
          clear hnl hnx h
          generalize TL.numL j = NJ at *
          generalize nxs N z j = z' at *
          generalize N.map D.str = ND at *
          by_cases q : z' ∈ N
          · rw [if_pos q]
            walk_at "auto*"
            exact hid ⟨rfl, exE rfl⟩
          · rw [if_neg q]
            walk_at "auto*"
            exact hid ⟨rfl, exE rfl⟩
        · rintro _ _ ⟨rfl, u, rfl⟩
          exact hid ⟨rfl, exE rfl⟩
      clear u
      rintro _ _ ⟨rfl, u, rfl⟩
      have hnew := nx_new (N := N) (z := z) (c := c + 1) (by omega) (by omega)
      generalize nxs N z (c + 1) = z' at *
      have h2 := dw_set h W.length (.lst (N.map D.str ++ [.str z']))
      rw [List.set_append_right _ _ (Nat.le_refl _), Nat.sub_self] at h2
      have h3 : Dw ns (W ++ [.lst ((N ++ [z']).map D.str)]) (Z.set (W.length + 1) (.lst (N.map D.str ++ [.str z']))) := by rw [List.map_append]; exact h2
      have hnd : (N ++ [z']).Nodup := by
        rw [List.nodup_append]
        refine ⟨hn, by simp, fun a ha b hb => ?_⟩
        rw [List.mem_singleton] at hb
        rw [hb]
        exact fun e => hnew (by rw [← e]; exact ha)
      have hF : (N.map D.str).length ≤ 100 := by rw [List.length_map]; omega
      replace h3 := hid h3
      replace hnd := hid hnd
      clear h h2 hnew hn
      generalize N.map D.str = ND at *
      walk_at "auto*"
      exact hid ⟨N ++ [z'], hnd, by simp [hl], h3, exE rfl⟩
    · rintro _ Z ⟨N, hn, hl, h, u, rfl⟩
      exact hid ⟨N, hn, hl, h, exE rfl⟩
  clear h
  clear Z
  rintro _ Z ⟨N, hn, hl, h, u, rfl⟩
  replace h := hid h
  replace hn := hid hn
  walk_at "auto*"
  · simp [lb, hSl]
  · exact hid ⟨N, hn, hl, rfl, h⟩
/-! k40: statements, what they perform -/
def pairD (p : Tx × Tx) : D := .tup [.str p.1, .str p.2]
def vPerf : Tx := [112, 101, 114, 102, 111, 114, 109]
def vIf : Tx := [105, 102]
def vRead : Tx := [114, 101, 97, 100]
def vSet : Tx := [115, 101, 116]
def vDiv : Tx := [100, 105, 118, 105, 100, 101]
def LsP (P : D → List (Tx × Tx) → Prop) : List D → List (Tx × Tx) → Prop
  | [], ps => ps = []
  | d :: ds, ps => ∃ p q, P d p ∧ LsP P ds q ∧ ps = p ++ q
theorem LsP.snoc {P : D → List (Tx × Tx) → Prop} : ∀ {ds : List D} {ps : List (Tx × Tx)} {d : D} {q : List (Tx × Tx)}, LsP P ds ps → P d q → LsP P (ds ++ [d]) (ps ++ q)
  | [], ps, d, q, h, g => by
    have h : ps = [] := h
    subst h
    exact ⟨q, [], g, rfl, by simp⟩
  | x :: ds, ps, d, q, ⟨a, b, h1, h2, h3⟩, g => by
    subst h3
    exact ⟨a, b ++ q, h1, LsP.snoc h2 g, by rw [List.append_assoc]⟩
def StP (B : List D → List (Tx × Tx) → Prop) (d : D) (ps : List (Tx × Tx)) : Prop :=
  (∃ a b w, d = .tup [.str vPerf, .str a, .str b, w] ∧ ps = [(a, b)]) ∨
  (∃ w xs, d = .tup (.str w :: xs) ∧ w ≠ vPerf ∧ w ≠ vIf ∧ w ≠ vRead ∧ w ≠ vSet ∧ w ≠ vDiv ∧ ps = []) ∨
  (∃ w c xs ys p q, d = .tup [.str w, c, .tup xs, .tup ys] ∧ (w = vIf ∨ w = vRead) ∧ B xs p ∧ B ys q ∧ ps = p ++ q) ∨
  (∃ a b c xs, d = .tup [.str vSet, a, b, c, .tup xs] ∧ B xs ps) ∨
  (∃ a b c e g xs, d = .tup [.str vDiv, a, b, c, e, g, .tup xs] ∧ B xs ps)
def BlP : Nat → List D → List (Tx × Tx) → Prop
  | 0 => fun xs ps => xs = [] ∧ ps = []
  | l + 1 => LsP (StP (BlP l))
structure Stt (ns : List Int) (N : List Tx) (p f : Nat) (W S : Sto) (ps : List (Tx × Tx)) : Prop where
  dw : Dw ns W S
  nm : W[p]? = some (.lst (N.map D.str))
  fd : W[f]? = some (.lst (ps.map pairD))
structure Fw (W W' : Sto) (f : Nat) : Prop where
  le : W.length ≤ W'.length
  at_ : ∀ m, m < W.length → m ≠ f → W'[m]? = W[m]?
theorem Fw.refl (W : Sto) (f : Nat) : Fw W W f := ⟨Nat.le_refl _, fun _ _ _ => rfl⟩
theorem Fw.trans {A B C : Sto} {f : Nat} (h : Fw A B f) (g : Fw B C f) : Fw A C f := ⟨Nat.le_trans h.le g.le, fun m h1 h2 => (g.at_ m (Nat.lt_of_lt_of_le h1 h.le) h2).trans (h.at_ m h1 h2)⟩
theorem Stt.lt {ns : List Int} {N : List Tx} {p f : Nat} {W S : Sto} {ps : List (Tx × Tx)} (h : Stt ns N p f W S ps) : p < W.length ∧ f < W.length := ⟨(List.getElem?_eq_some_iff.mp h.nm).1, (List.getElem?_eq_some_iff.mp h.fd).1⟩
theorem Stt.draw {ns : List Int} {N : List Tx} {p f : Nat} {W S S' : Sto} {ps : List (Tx × Tx)} (h : Stt ns N p f W S ps) (g : Dw ns W S') : Stt ns N p f W S' ps := ⟨g, h.nm, h.fd⟩
theorem Stt.push {ns : List Int} {N : List Tx} {p f : Nat} {W S : Sto} {ps : List (Tx × Tx)} (h : Stt ns N p f W S ps) (hpf : p ≠ f) (x : Tx × Tx) :
    Stt ns N p f (W.set f (.lst (ps.map pairD ++ [pairD x]))) (S.set (f + 1) (.lst (ps.map pairD ++ [pairD x]))) (ps ++ [x]) ∧ Fw W (W.set f (.lst (ps.map pairD ++ [pairD x]))) f := by
  refine ⟨⟨dw_set h.dw f _, ?_, ?_⟩, ⟨by rw [List.length_set]; exact Nat.le_refl _, fun m h1 h2 => List.getElem?_set_ne (Ne.symm h2)⟩⟩
  · rw [List.getElem?_set_ne (Ne.symm hpf)]; exact h.nm
  · rw [List.getElem?_set_self h.lt.2, List.map_append]; rfl
theorem Stt.more {ns : List Int} {N : List Tx} {p f : Nat} {W S : Sto} {ps : List (Tx × Tx)} (h : Stt ns N p f W S ps) (o : Ob) : Stt ns N p f (W ++ [o]) (S ++ [o]) ps ∧ Fw W (W ++ [o]) f := by
  refine ⟨⟨dw_app h.dw o, ?_, ?_⟩, ⟨by rw [List.length_append]; omega, fun m h1 h2 => List.getElem?_append_left h1⟩⟩
  · rw [List.getElem?_append_left h.lt.1]; exact h.nm
  · rw [List.getElem?_append_left h.lt.2]; exact h.fd
theorem Stt.oth {ns : List Int} {N : List Tx} {p f m : Nat} {W S : Sto} {ps : List (Tx × Tx)} (h : Stt ns N p f W S ps) (h1 : m ≠ p) (h2 : m ≠ f) (o : Ob) : Stt ns N p f (W.set m o) (S.set (m + 1) o) ps := by
  refine ⟨dw_set h.dw m o, ?_, ?_⟩
  · rw [List.getElem?_set_ne h1]; exact h.nm
  · rw [List.getElem?_set_ne h2]; exact h.fd
theorem dw_hd {ns : List Int} {W S : Sto} (h : Dw ns W S) : ∃ x, S = x :: W ∧ ∀ W', Dw ns W' (x :: W') := by
  obtain ⟨p, v, s, h1, h2, rfl⟩ := h
  exact ⟨_, rfl, fun W' => ⟨p, v, s, h1, h2, rfl⟩⟩
/-- a store that is alike as far as n -/
theorem Stt.re {ns : List Int} {N : List Tx} {p f : Nat} {W0 W S R : Sto} {ps : List (Tx × Tx)} (h : Stt ns N p f W S ps) (fw : Fw W0 W f) (hp : p < W0.length) (hf : f < W0.length) (hl : W0.length + 1 ≤ R.length) (e : ∀ m, m < W0.length + 1 → R[m]? = S[m]?) :
    Stt ns N p f R.tail R ps ∧ Fw W0 R.tail f := by
  obtain ⟨x, hS, hx⟩ := dw_hd h.dw
  have hR : R = x :: R.tail := by
    cases R with
    | nil => simp at hl
    | cons y R =>
      have := e 0 (by omega)
      rw [hS] at this
      simp only [List.getElem?_cons_zero, Option.some.injEq] at this
      rw [this]; rfl
  have et : ∀ m, m < W0.length → R.tail[m]? = W[m]? := fun m hm => by
    have := e (m + 1) (by omega)
    rw [hS, hR] at this
    simpa using this
  refine ⟨⟨by rw [hR]; exact hx _, by rw [et p hp]; exact h.nm, by rw [et f hf]; exact h.fd⟩, ⟨by rw [List.length_tail]; omega, fun m h1 h2 => by rw [et m h1]; exact fw.at_ m h1 h2⟩⟩
theorem ok_trimF {o : Out D} {S : Sto} {Q : D → Sto → Prop} {X : Exn → Sto → Prop} (h : OkO o (fun d S' => S.length ≤ S'.length ∧ ∀ R : Sto, S.length ≤ R.length → (∀ m, m < S.length → R[m]? = S'[m]?) → Q d R) (fun _ _ => False)) : OkO (trim S o) Q X := by
  cases o with
  | ok d S' =>
    obtain ⟨h1, h2⟩ := h
    unfold trim
    simp only
    split
    · rename_i hc
      exact h2 S (Nat.le_refl _) fun m hm => by
        have : (S'.take S.length)[m]? = S[m]? := by rw [hc.1]
        rw [List.getElem?_take_of_lt hm] at this
        exact this.symm
    · exact h2 S' h1 fun m hm => rfl
  | ex e S' => exact h.elim
  | bad => exact h.elim
theorem ix_names {S : Sto} {n : Nat} {N : List Tx} (h : S[n]? = some (.lst (N.map D.str))) {i : Nat} {a : Tx} (ha : N[i]? = some a) : gIx S (.loc n) (.int (i : Nat)) = some (.str a) := by
  have ea : atD (N.map D.str) (i : Int) = some (.str a) := by rw [at_nat, List.getElem?_map, ha]; rfl
  simp only [gIx, seqF, h]
  exact ea
theorem t_perf {k : Nat} (hk : 2 ≤ k) {ns : List Int} {N : List Tx} {p f : Nat} {W S : Sto} {ps : List (Tx × Tx)} (h : Stt ns N p f W S ps) (hpf : p ≠ f) (hN : 1 ≤ N.length) (hN2 : N.length ≤ 40) (hps : ps.length ≤ 100000) (B : List D → List (Tx × Tx) → Prop) :
    OkO ((T k)._law_perform [.loc 0, .loc (p + 1), .loc (f + 1)] S) (fun d S' => Hid (∃ qs W', Stt ns N p f W' S' (ps ++ qs) ∧ Fw W W' f ∧ StP B d qs ∧ qs.length ≤ 1 ∧ ∀ q ∈ qs, q.1 ∈ N ∧ q.2 ∈ N)) (fun _ _ => False) := by
  obtain ⟨k, rfl⟩ := Nat.exists_eq_add_of_le' hk
  rw [show k + 2 = (k + 1) + 1 from rfl, T__law_perform, a_runT]
  have hSl := dw_len h.dw
  obtain ⟨lp, lf⟩ := h.lt
  refine ok_trimF ?_
  unfold b__law_perform q__law_perform_1
  walk_at "run"
  have hln : ∀ {S : Sto}, Dw ns W S → gLen S [.loc (p + 1)] = some (.int (N.length : Nat)) := fun g => by rw [g_lenLoc', dw_get g, h.nm]; simp only; rw [List.length_map]
  refine ok_cut (fun E S' => Hid (∃ i : Nat, i < N.length ∧ Stt ns N p f W S' ps ∧ E = [some (.loc 0), some (.loc (p + 1)), some (.loc (f + 1)), some (.int (i : Nat)), none, none, none])) ?_ ?_
  · obtain ⟨d, S1, h1, d0, d1, td⟩ := t_draw (k := k + 1) (by omega) (N.length : Int) (by omega) (by omega) h.dw
    obtain ⟨z, hz⟩ := Int.eq_ofNat_of_zero_le d0
    have hl := hln h.dw
    have h2 := h.draw h1
    replace h2 := hid h2
    clear h hln
    subst hz
    walk_at "auto*"
    exact hid ⟨z, by omega, h2, rfl⟩
  rintro _ Z ⟨i, hi, hZ, rfl⟩
  refine ok_cut (fun E S' => Hid (∃ j : Nat, j < N.length ∧ Stt ns N p f W S' ps ∧ E = [some (.loc 0), some (.loc (p + 1)), some (.loc (f + 1)), some (.int (i : Nat)), some (.int (j : Nat)), none, none])) ?_ ?_
  · obtain ⟨d, S1, h1, d0, d1, td⟩ := t_draw (k := k + 1) (by omega) ((N.length : Int) - (i : Int)) (by omega) (by omega) hZ.dw
    obtain ⟨d2, S2, h2, d3, d4, td2⟩ := t_draw (k := k + 1) (by omega) 2 (by decide) (by decide) h1
    have hl := hln hZ.dw
    have h3 := hZ.draw h2
    replace h3 := hid h3
    obtain ⟨v, hv, v0, v1⟩ : ∃ v : Int, [D.int 0, .int d][d2.toNat]? = some (.int v) ∧ 0 ≤ v ∧ v < (N.length : Int) - (i : Int) := by
      have : d2 = 0 ∨ d2 = 1 := by omega
      rcases this with e | e <;> rw [e]
      · exact ⟨0, rfl, by omega, by omega⟩
      · exact ⟨d, rfl, d0, d1⟩
    obtain ⟨j, hj⟩ : ∃ j : Nat, (i : Int) + v = (j : Int) := ⟨((i : Int) + v).toNat, by omega⟩
    clear h hln hZ h1 h2
    walk_at "auto*"
    exact hid ⟨j, by omega, h3, rfl⟩
  clear hZ
  clear Z
  rintro _ Z ⟨j, hj, hZ, rfl⟩
  have ea : N[i]? = some N[i] := List.getElem?_eq_getElem hi
  have eb : N[j]? = some N[j] := List.getElem?_eq_getElem hj
  have ma := List.mem_of_getElem? ea
  have mb := List.mem_of_getElem? eb
  generalize N[i] = a at *
  generalize N[j] = b at *
  refine ok_cut (fun E S' => Hid ((∃ W', Stt ns N p f W' S' (ps ++ [(a, b)]) ∧ Fw W W' f) ∧ E = [some (.loc 0), some (.loc (p + 1)), some (.loc (f + 1)), some (.int (i : Nat)), some (.int (j : Nat)), none, none])) ?_ ?_
  · have hp := hZ.push hpf (a, b)
    have g1 : Z[f + 1]? = some (.lst (ps.map pairD)) := by rw [dw_get hZ.dw]; exact hZ.fd
    have g2 : Z[p + 1]? = some (.lst (N.map D.str)) := by rw [dw_get hZ.dw]; exact hZ.nm
    have i1 := ix_names g2 ea
    have i2 := ix_names g2 eb
    have hF : (ps.map pairD).length ≤ 100000 := by rw [List.length_map]; exact hps
    have hp2 : ∃ W', Stt ns N p f W' (Z.set (f + 1) (.lst (ps.map pairD ++ [.tup [.str a, .str b]]))) (ps ++ [(a, b)]) ∧ Fw W W' f := ⟨_, hp.1, hp.2⟩
    replace hp2 := hid hp2
    clear hp h hln hZ ea eb ma mb g2
    generalize ps.map pairD = PS at *
    walk_at "auto*"
    exact hid ⟨hp2, rfl⟩
  clear hZ hln
  clear Z
  rintro _ Z ⟨⟨W1, hZ, hfw⟩, rfl⟩
  refine ok_cut (fun E S' => Hid (∃ c : D, Z = S' ∧ E = [some (.loc 0), some (.loc (p + 1)), some (.loc (f + 1)), some (.int (i : Nat)), some (.int (j : Nat)), some c, none])) ?_ ?_
  · walk_at "auto*"
    exact hid ⟨_, rfl, rfl⟩
  rintro _ _ ⟨c, rfl, rfl⟩
  refine ok_cut (fun E S' => Hid (∃ ws : List D, ws.length = 3 ∧ S' = Z ++ [.lst ws] ∧ E = [some (.loc 0), some (.loc (p + 1)), some (.loc (f + 1)), some (.int (i : Nat)), some (.int (j : Nat)), some c, some (.loc Z.length)])) ?_ ?_
  · clear hZ
    walk_at "auto*"
    exact hid ⟨_, rfl, rfl, rfl⟩
  rintro _ _ ⟨ws, hws, rfl, rfl⟩
  refine ok_cut (fun E S' => Hid (∃ ws : List D, ws.length = 4 ∧ S' = Z ++ [.lst ws] ∧ E = [some (.loc 0), some (.loc (p + 1)), some (.loc (f + 1)), some (.int (i : Nat)), some (.int (j : Nat)), some c, some (.loc Z.length)])) ?_ ?_
  · have hg : (Z ++ [Ob.lst ws])[Z.length]? = some (.lst ws) := by rw [List.getElem?_append_right (Nat.le_refl _), Nat.sub_self]; rfl
    have hput : ∀ o : Ob, (Z ++ [Ob.lst ws]).set Z.length o = Z ++ [o] := fun o => by rw [List.set_append_right _ _ (Nat.le_refl _), Nat.sub_self]; rfl
    clear hZ
    walk_at "auto*"
    refine hid ⟨ws ++ [_], by simp [hws], hput _, rfl⟩
  clear hws
  clear ws
  rintro _ _ ⟨ws, hws, rfl, rfl⟩
  have hlZ := dw_len hZ.dw
  obtain ⟨hM, hM2⟩ := hZ.more (.lst ws)
  have hfin := hfw.trans hM2
  obtain ⟨d, S1, h1, d0, d1, td⟩ := t_draw (k := k + 1) (by omega) 4 (by decide) (by decide) hM.dw
  have hM3 := hM.draw h1
  have i1 := ix_names (show (Z ++ [.lst ws])[p + 1]? = some (.lst (N.map D.str)) by rw [dw_get hM.dw]; exact hM.nm) ea
  have i2 := ix_names (show (Z ++ [.lst ws])[p + 1]? = some (.lst (N.map D.str)) by rw [dw_get hM.dw]; exact hM.nm) eb
  have hw : S1[W1.length + 1]? = some (.lst ws) := by rw [dw_get h1, List.getElem?_append_right (Nat.le_refl _), Nat.sub_self]; rfl
  obtain ⟨w, hww⟩ : ∃ w, ws[d.toNat]? = some w := ⟨_, List.getElem?_eq_getElem (show d.toNat < ws.length by omega)⟩
  have hle := hM3.lt
  have hl2 := dw_len h1
  have fin : W.length + 1 ≤ S1.length ∧ ∀ R : Sto, W.length + 1 ≤ R.length → (∀ m, m < W.length + 1 → R[m]? = S1[m]?) → Hid (∃ qs W', Stt ns N p f W' R (ps ++ qs) ∧ Fw W W' f ∧ StP B (.tup [.str vPerf, .str a, .str b, w]) qs ∧ qs.length ≤ 1 ∧ ∀ q ∈ qs, q.1 ∈ N ∧ q.2 ∈ N) := by
    refine ⟨by rw [hl2]; have := hfin.le; omega, fun R r1 r2 => ?_⟩
    obtain ⟨g1, g2⟩ := hM3.re hfin lp lf r1 r2
    exact hid ⟨[(a, b)], _, g1, g2, .inl ⟨a, b, w, rfl, rfl⟩, Nat.le_refl _, fun q hq => by rw [List.mem_singleton.mp hq]; exact ⟨ma, mb⟩⟩
  unfold vPerf at fin
  obtain ⟨fin1, fin2⟩ := fin
  replace fin2 := hid fin2
  clear hM hM2 hM3 h1 hZ h hfw hfin ea eb ma mb hl2
  generalize Z ++ [.lst ws] = Z1 at *
  walk_at "auto*"
  all_goals first | exact fin1 | (rename_i r1 r2; exact fin2 _ r1 r2)
/-! k40: blocks and statements -/
def vPair (N : List Tx) (qs : List (Tx × Tx)) : Prop := ∀ q ∈ qs, q.1 ∈ N ∧ q.2 ∈ N
theorem vPair.app {N : List Tx} {a b : List (Tx × Tx)} (h : vPair N a) (g : vPair N b) : vPair N (a ++ b) := fun q hq => by
  rcases List.mem_append.mp hq with h1 | h1
  · exact h q h1
  · exact g q h1
def StOk [WB] (k l : Nat) : Prop := ∀ (ns : List Int) (N : List Tx) (p f : Nat) (W S : Sto) (ps : List (Tx × Tx)), Stt ns N p f W S ps → p ≠ f → 1 ≤ N.length → N.length ≤ 40 → ps.length + 6 ^ l ≤ 100000 →
  OkO ((T k)._law_statement [.loc 0, .loc (p + 1), .loc (f + 1), .int ((l + 1 : Nat) : Int)] S) (fun d S' => Hid (∃ qs W', Stt ns N p f W' S' (ps ++ qs) ∧ Fw W W' f ∧ StP (BlP l) d qs ∧ qs.length ≤ 6 ^ l ∧ vPair N qs)) (fun _ _ => False)
def BlOk [WB] (k l : Nat) : Prop := ∀ (ns : List Int) (N : List Tx) (p f : Nat) (W S : Sto) (ps : List (Tx × Tx)) (least : Nat), least ≤ 1 → Stt ns N p f W S ps → p ≠ f → 1 ≤ N.length → N.length ≤ 40 → ps.length + 3 * 6 ^ l ≤ 100000 →
  OkO ((T k)._law_block [.loc 0, .loc (p + 1), .loc (f + 1), .int ((l + 1 : Nat) : Int), .int (least : Nat)] S) (fun d S' => Hid (∃ xs qs W', d = .tup xs ∧ Stt ns N p f W' S' (ps ++ qs) ∧ Fw W W' f ∧ BlP (l + 1) xs qs ∧ qs.length ≤ 3 * 6 ^ l ∧ vPair N qs)) (fun _ _ => False)
theorem bl_of_st {k l : Nat} (hk : 1 ≤ k) (hst : StOk k l) : BlOk (k + 1) l := by
  intro ns N p f W S ps least hle1 h hpf hN hN2 hps
  rw [T__law_block, a_runT]
  have hSl := dw_len h.dw
  obtain ⟨lp, lf⟩ := h.lt
  refine ok_trimF ?_
  unfold b__law_block
  walk_at "run"
  generalize hlv : ((l + 1 : Nat) : Int) = lv at *
  refine ok_cut (fun E S' => Hid (Stt ns N p f (W ++ [.lst []]) S' ps ∧ E = [some (.loc 0), some (.loc (p + 1)), some (.loc (f + 1)), some (.int lv), some (.int (least : Nat)), some (.loc (W.length + 1)), none])) ?_ ?_
  · have h2 := (h.more (.lst [])).1
    replace h2 := hid h2
    clear h
    walk_at "auto*"
    exact hid ⟨h2, by rw [hSl]⟩
  have hfw0 := (h.more (.lst [])).2
  clear h
  rintro _ Z ⟨h, rfl⟩
  refine ok_cut (fun E S' => Hid (∃ xs qs W', Stt ns N p f W' S' (ps ++ qs) ∧ Fw W W' f ∧ W.length < W'.length ∧ W'[W.length]? = some (.lst xs) ∧ BlP (l + 1) xs qs ∧ qs.length ≤ 3 * 6 ^ l ∧ xs.length ≤ 3 ∧ vPair N qs ∧ (∃ u : Nat → Option D, E = [u 0, u 1, u 2, u 3, u 4, some (.loc (W.length + 1)), u 6]))) ?_ ?_
  · obtain ⟨d, S1, h1, d0, d1, td⟩ := t_draw (k := k) (by omega) 4 (by decide) (by decide) h.dw
    have h2 := h.draw h1
    obtain ⟨c, hc, hc3⟩ : ∃ c : Nat, (if d - 1 > (least : Int) then d - 1 else (least : Int)) = (c : Int) ∧ c ≤ 3 := by
      split
      · exact ⟨(d - 1).toNat, by omega, by omega⟩
      · exact ⟨least, rfl, by omega⟩
    have init : Stt ns N p f (W ++ [.lst []]) S1 (ps ++ []) ∧ Fw W (W ++ [.lst []]) f ∧ W.length < (W ++ [Ob.lst []]).length ∧ (W ++ [Ob.lst []])[W.length]? = some (.lst []) := ⟨by rw [List.append_nil]; exact h2, hfw0, by rw [List.length_append]; exact Nat.lt_succ_self _, by rw [List.getElem?_append_right (Nat.le_refl _), Nat.sub_self]; rfl⟩
    replace init := hid init
    clear h h1 h2 hfw0
    walk_at "auto*"
    refine ok_forR (fun i E S' => Hid (∃ xs qs W', Stt ns N p f W' S' (ps ++ qs) ∧ Fw W W' f ∧ W.length < W'.length ∧ W'[W.length]? = some (.lst xs) ∧ BlP (l + 1) xs qs ∧ qs.length ≤ i * 6 ^ l ∧ xs.length = i ∧ vPair N qs ∧ (∃ u : Nat → Option D, E = [some (.loc 0), some (.loc (p + 1)), some (.loc (f + 1)), some (.int lv), some (.int (least : Nat)), some (.loc (W.length + 1)), u 6]))) ?_ ?_ ?_
    · obtain ⟨i1, i2, i3, i4⟩ := init
      exact hid ⟨[], [], _, i1, i2, i3, i4, rfl, Nat.zero_le _, rfl, (show vPair N [] from fun q hq => by cases hq), exE rfl⟩
    · clear init
      rintro i _ Z hi ⟨xs, qs, W1, a1, a2, a3, a4, a5, a6, a7, a8, u, rfl⟩
      have e0 : (0 : Int) + (i : Int) = (i : Int) := Int.zero_add _
      rw [w_gN, e0]
      walk_at "n"
      unfold l__law_block_1
      have h6 : 0 < 6 ^ l := Nat.pow_pos (by decide)
      have hmul : i * 6 ^ l + 6 ^ l ≤ 3 * 6 ^ l := by
        have := Nat.mul_le_mul_right (6 ^ l) (show i + 1 ≤ 3 by omega)
        rw [Nat.add_mul, Nat.one_mul] at this
        exact this
      have ts := hst ns N p f W1 Z (ps ++ qs) a1 hpf hN hN2 (by rw [List.length_append]; omega)
      rw [hlv] at ts
      have hz1 : Z[W.length + 1]? = some (.lst xs) := by rw [dw_get a1.dw]; exact a4
      have fin : ∀ (d : D) (S' : Sto) (q2 : List (Tx × Tx)) (W2 : Sto), Stt ns N p f W2 S' (ps ++ qs ++ q2) → Fw W1 W2 f → StP (BlP l) d q2 → q2.length ≤ 6 ^ l → vPair N q2 →
          S'[W.length + 1]? = some (.lst xs) ∧ Hid (∃ xs' qs' W', Stt ns N p f W' (S'.set (W.length + 1) (.lst (xs ++ [d]))) (ps ++ qs') ∧ Fw W W' f ∧ W.length < W'.length ∧ W'[W.length]? = some (.lst xs') ∧ BlP (l + 1) xs' qs' ∧ qs'.length ≤ (i + 1) * 6 ^ l ∧ xs'.length = i + 1 ∧ vPair N qs') := by
        intro d S' q2 W2 b1 b2 b3 b4 b5
        have c1 : W2[W.length]? = some (.lst xs) := by rw [b2.at_ _ a3 (by omega)]; exact a4
        refine ⟨by rw [dw_get b1.dw]; exact c1, hid ⟨xs ++ [d], qs ++ q2, W2.set W.length (.lst (xs ++ [d])), ?_, ?_, ?_, ?_, ?_, ?_, ?_, ?_⟩⟩
        · rw [← List.append_assoc]
          exact b1.oth (by omega) (by omega) _
        · refine ⟨by rw [List.length_set]; exact (a2.trans b2).le, fun m m1 m2 => ?_⟩
          rw [List.getElem?_set_ne (by omega)]
          exact (a2.trans b2).at_ m m1 m2
        · rw [List.length_set]; have := b2.le; omega
        · rw [List.getElem?_set_self (by have := b2.le; omega)]
        · exact LsP.snoc a5 b3
        · rw [List.length_append, Nat.add_mul, Nat.one_mul]; omega
        · rw [List.length_append, a7]; rfl
        · exact a8.app b5
      replace fin := hid fin
      clear a1 a2 a3 a4 a5 a6 a8 hmul h6
      walk_at "auto*"
      refine ok_imp ts ?_ (fun _ _ h => h.elim)
      rintro d S' ⟨q2, W2, b1, b2, b3, b4, b5⟩
      obtain ⟨g1, g2⟩ := fin d S' q2 W2 b1 b2 b3 b4 b5
      clear b1 b2 b3 b4 b5 fin ts
      walk_at "auto*"
      obtain ⟨xs', qs', W', g3, g4, g5, g6, g7, g8, g9, g10⟩ := g2
      exact hid ⟨xs', qs', W', g3, g4, g5, g6, g7, g8, g9, g10, exE rfl⟩
    · rintro _ Z ⟨xs, qs, W1, a1, a2, a3, a4, a5, a6, a7, a8, u, rfl⟩
      exact hid ⟨xs, qs, W1, a1, a2, a3, a4, a5, Nat.le_trans a6 (Nat.mul_le_mul_right _ hc3), by omega, a8, exE rfl⟩
  clear h hfw0
  clear Z
  rintro _ Z ⟨xs, qs, W1, a1, a2, a3, a4, a5, a6, a7, a8, u, rfl⟩
  have hz1 : Z[W.length + 1]? = some (.lst xs) := by rw [dw_get a1.dw]; exact a4
  have hlZ := dw_len a1.dw
  have fin : W.length + 1 ≤ Z.length ∧ ∀ R : Sto, W.length + 1 ≤ R.length → (∀ m, m < W.length + 1 → R[m]? = Z[m]?) → Hid (∃ xs' qs W', D.tup xs = .tup xs' ∧ Stt ns N p f W' R (ps ++ qs) ∧ Fw W W' f ∧ BlP (l + 1) xs' qs ∧ qs.length ≤ 3 * 6 ^ l ∧ vPair N qs) := by
    refine ⟨by rw [hlZ]; have := a2.le; omega, fun R r1 r2 => ?_⟩
    obtain ⟨g1, g2⟩ := a1.re a2 lp lf r1 r2
    exact hid ⟨xs, qs, _, rfl, g1, g2, a5, a6, a8⟩
  obtain ⟨fin1, fin2⟩ := fin
  replace fin2 := hid fin2
  clear a1 a2 a3 a4 a5 a6 a8
  walk_at "auto*"
  all_goals first | exact fin1 | (rename_i r1 r2; exact fin2 _ r1 r2)
theorem st_of_bl {k l : Nat} (hk : 2 ≤ k) (hbl : ∀ l', l = l' + 1 → BlOk k l') : StOk (k + 1) l := by
  intro ns N p f W S ps h hpf hN hN2 hps
  rw [T__law_statement]
  unfold b__law_statement q__law_statement_1
  walk_at "run"
  have h6 : 0 < 6 ^ l := Nat.pow_pos (by decide)
  obtain ⟨lv, hlv⟩ : ∃ lv : Nat, lv = l + 1 := ⟨_, rfl⟩
  rw [← hlv]
  refine ok_cut (fun E S' => Hid (∃ d : Int, 0 ≤ d ∧ d < 9 ∧ Stt ns N p f W S' ps ∧ E = [some (.loc 0), some (.loc (p + 1)), some (.loc (f + 1)), some (.int (lv : Nat)), some (.int d), none, none, none, none])) ?_ ?_
  · obtain ⟨d, S1, h1, d0, d1, td⟩ := t_draw (k := k) (by omega) 9 (by decide) (by decide) h.dw
    have h2 := h.draw h1
    replace h2 := hid h2
    clear h h1
    walk_at "auto*"
    exact hid ⟨d, d0, d1, h2, rfl⟩
  clear h
  clear S
  rintro _ S ⟨d, d0, d1, h, rfl⟩
  by_cases c1 : d < 3
  · have tp := t_perf hk h hpf hN hN2 (by omega) (BlP l)
    have hw : ∀ d S', Hid (∃ qs W', Stt ns N p f W' S' (ps ++ qs) ∧ Fw W W' f ∧ StP (BlP l) d qs ∧ qs.length ≤ 1 ∧ ∀ q ∈ qs, q.1 ∈ N ∧ q.2 ∈ N) → Hid (∃ qs W', Stt ns N p f W' S' (ps ++ qs) ∧ Fw W W' f ∧ StP (BlP l) d qs ∧ qs.length ≤ 6 ^ l ∧ vPair N qs) := by
      rintro d S' ⟨qs, W', b1, b2, b3, b4, b5⟩
      exact hid ⟨qs, W', b1, b2, b3, by omega, b5⟩
    replace hw := hid hw
    clear h hps h6 hlv
    walk_at "auto*"
    exact ok_imp tp (fun d S' hd => hw d S' hd) (fun _ _ h => h.elim)
  refine ok_cut (fun E S' => S = S' ∧ E = [some (.loc 0), some (.loc (p + 1)), some (.loc (f + 1)), some (.int (lv : Nat)), some (.int d), none, none, none, none]) ?_ ?_
  · walk_at "auto*"
  rintro _ _ ⟨rfl, rfl⟩
  by_cases c2 : d < 5 ∨ (lv : Int) = 1
  · obtain ⟨d2, S1, h1, d3, d4, td⟩ := t_draw (k := k) (by omega) 6 (by decide) (by decide) h.dw
    have h2 := h.draw h1
    have fin : ∀ x, StP (BlP l) x [] → Hid (∃ qs W', Stt ns N p f W' S1 (ps ++ qs) ∧ Fw W W' f ∧ StP (BlP l) x qs ∧ qs.length ≤ 6 ^ l ∧ vPair N qs) := fun x hx => hid ⟨[], W, by rw [List.append_nil]; exact h2, Fw.refl _ _, hx, Nat.zero_le _, fun q hq => by cases hq⟩
    obtain ⟨x, hx1, hx2⟩ : ∃ x, ([D.tup [D.str [115, 116, 111, 112]], D.tup [D.str [119, 114, 105, 116, 101], D.str [102]], D.tup [D.str [99, 108, 101, 97, 114], D.tup [D.str [97], D.tup []]], D.tup [D.str [115, 104, 111, 119], D.tup [D.tup [D.str [116, 101, 120, 116], D.str [112, 101, 114, 102, 111, 114, 109]]]], D.tup [D.str [115, 111, 114, 116], D.str [116], D.str [107], D.bl true], D.tup [D.str [109, 111, 118, 101], D.tup [D.str [110, 117, 109, 98, 101, 114], D.tup [D.int 1, D.int 0]], D.tup [D.str [97], D.tup []]]] : List D)[d2.toNat]? = some x ∧ StP (BlP l) x [] := by
      have oth : ∀ w xs, w ≠ vPerf → w ≠ vIf → w ≠ vRead → w ≠ vSet → w ≠ vDiv → StP (BlP l) (.tup (.str w :: xs)) [] := fun w xs a1 a2 a3 a4 a5 => .inr (.inl ⟨w, xs, rfl, a1, a2, a3, a4, a5, rfl⟩)
      have : d2 = 0 ∨ d2 = 1 ∨ d2 = 2 ∨ d2 = 3 ∨ d2 = 4 ∨ d2 = 5 := by omega
      rcases this with e | e | e | e | e | e <;> rw [e]
      all_goals exact ⟨_, rfl, oth _ _ (by decide) (by decide) (by decide) (by decide) (by decide)⟩
    have fin2 := fin x hx2
    replace fin2 := hid fin2
    clear h h1 h2 hps h6 hlv hx2 fin
    by_cases c3 : d < 5
    · walk_at "auto*"
    · have c4 := c2.resolve_left c3
      walk_at "auto*"
  have c3 : ¬ d < 5 := fun z => c2 (.inl z)
  have c4 : ¬ (lv : Int) = 1 := fun z => c2 (.inr z)
  obtain ⟨l', rfl⟩ : ∃ l', l = l' + 1 := ⟨l - 1, by omega⟩
  have hb := hbl l' rfl
  have e1 : (lv : Int) - 1 = ((l' + 1 : Nat) : Int) := by omega
  have p6 : 6 ^ (l' + 1) = 6 * 6 ^ l' := by rw [Nat.pow_succ, Nat.mul_comm]
  refine ok_cut (fun E S' => S = S' ∧ E = [some (.loc 0), some (.loc (p + 1)), some (.loc (f + 1)), some (.int (lv : Nat)), some (.int d), none, none, none, none]) ?_ ?_
  · clear h hb hps
    walk_at "auto*"
  rintro _ _ ⟨rfl, rfl⟩
  have b0 := fun W S ps h hp => hb ns N p f W S ps 0 (by omega) h hpf hN hN2 hp
  have b1 := fun W S ps h hp => hb ns N p f W S ps 1 (by omega) h hpf hN hN2 hp
  generalize ((l' + 1 : Nat) : Int) = lm at *
  clear hb c1 c2 hlv
  replace b0 := hid b0
  replace b1 := hid b1
  have two : ∀ (W W1 W2 S2 : Sto) (ps qs q2 : List (Tx × Tx)) (xs ys : List D) (w : Tx) (c : D), (w = vIf ∨ w = vRead) → Fw W W1 f → Fw W1 W2 f → Stt ns N p f W2 S2 (ps ++ qs ++ q2) → BlP (l' + 1) xs qs → BlP (l' + 1) ys q2 → qs.length ≤ 3 * 6 ^ l' → q2.length ≤ 3 * 6 ^ l' → vPair N qs → vPair N q2 →
      Hid (∃ qs W', Stt ns N p f W' S2 (ps ++ qs) ∧ Fw W W' f ∧ StP (BlP (l' + 1)) (.tup [.str w, c, .tup xs, .tup ys]) qs ∧ qs.length ≤ 6 ^ (l' + 1) ∧ vPair N qs) := by
    intro W W1 W2 S2 ps qs q2 xs ys w c hw f1 f2 h2 x1 y1 l1 l2 v1 v2
    exact hid ⟨qs ++ q2, W2, by rw [← List.append_assoc]; exact h2, f1.trans f2, .inr (.inr (.inl ⟨w, c, xs, ys, qs, q2, rfl, hw, x1, y1, rfl⟩)), by rw [List.length_append, p6]; omega, v1.app v2⟩
  replace two := hid two
  by_cases c5 : d = 5
  · have t1 := (show ∀ W S ps, Stt ns N p f W S ps → ps.length + 3 * 6 ^ l' ≤ 100000 → _ from b1) W S ps h (by omega)
    clear c3
    walk_at "auto*"
    refine ok_imp t1 ?_ (fun _ _ h => h.elim)
    rintro _ S1 ⟨xs, qs, W1, rfl, a1, a2, a3, a4, a5⟩
    have t2 := (show ∀ W S ps, Stt ns N p f W S ps → ps.length + 3 * 6 ^ l' ≤ 100000 → _ from b0) W1 S1 _ a1 (by rw [List.length_append]; omega)
    walk_at "auto*"
    refine ok_imp t2 ?_ (fun _ _ h => h.elim)
    rintro _ S2 ⟨ys, q2, W2, rfl, g1, g2, g3, g4, g5⟩
    have fin := (show ∀ (W W1 W2 S2 : Sto) (ps qs q2 : List (Tx × Tx)) (xs ys : List D) (w : Tx) (c : D), _ from two) W W1 W2 S2 ps qs q2 xs ys vIf (.tup [.str [100, 105, 103, 105, 116, 115], .tup [.str [97], .tup []]]) (.inl rfl) a2 g2 g1 a3 g3 a4 g4 a5 g5
    replace fin := hid fin
    clear two t1 t2 a1 a2 a3 a4 a5 g1 g2 g3 g4 g5 b0 b1
    walk_at "auto*"
  refine ok_cut (fun E S' => S = S' ∧ E = [some (.loc 0), some (.loc (p + 1)), some (.loc (f + 1)), some (.int (lv : Nat)), some (.int d), none, none, none, none]) ?_ ?_
  · clear two b0 b1 h hps
    walk_at "auto*"
  rintro _ _ ⟨rfl, rfl⟩
  by_cases c6 : d = 6
  · have t1 := (show ∀ W S ps, Stt ns N p f W S ps → ps.length + 3 * 6 ^ l' ≤ 100000 → _ from b0) W S ps h (by omega)
    clear c3 c5
    walk_at "auto*"
    refine ok_imp t1 ?_ (fun _ _ h => h.elim)
    rintro _ S1 ⟨xs, qs, W1, rfl, a1, a2, a3, a4, a5⟩
    have t2 := (show ∀ W S ps, Stt ns N p f W S ps → ps.length + 3 * 6 ^ l' ≤ 100000 → _ from b0) W1 S1 _ a1 (by rw [List.length_append]; omega)
    walk_at "auto*"
    refine ok_imp t2 ?_ (fun _ _ h => h.elim)
    rintro _ S2 ⟨ys, q2, W2, rfl, g1, g2, g3, g4, g5⟩
    have fin := (show ∀ (W W1 W2 S2 : Sto) (ps qs q2 : List (Tx × Tx)) (xs ys : List D) (w : Tx) (c : D), _ from two) W W1 W2 S2 ps qs q2 xs ys vRead (.str [102]) (.inr rfl) a2 g2 g1 a3 g3 a4 g4 a5 g5
    replace fin := hid fin
    clear two t1 t2 a1 a2 a3 a4 a5 g1 g2 g3 g4 g5 b0 b1
    walk_at "auto*"
  refine ok_cut (fun E S' => S = S' ∧ E = [some (.loc 0), some (.loc (p + 1)), some (.loc (f + 1)), some (.int (lv : Nat)), some (.int d), none, none, none, none]) ?_ ?_
  · clear two b0 b1 h hps
    walk_at "auto*"
  rintro _ _ ⟨rfl, rfl⟩
  clear two
  refine ok_cut (fun E S' => Hid (∃ xs qs W', Stt ns N p f W' S' (ps ++ qs) ∧ Fw W W' f ∧ BlP (l' + 1) xs qs ∧ qs.length ≤ 6 ^ (l' + 1) ∧ vPair N qs ∧ E = [some (.loc 0), some (.loc (p + 1)), some (.loc (f + 1)), some (.int (lv : Nat)), some (.int d), some (.tup xs), none, none, none])) ?_ ?_
  · have t1 := (show ∀ W S ps, Stt ns N p f W S ps → ps.length + 3 * 6 ^ l' ≤ 100000 → _ from b0) W S ps h (by omega)
    clear h b0 b1 hps
    walk_at "auto*"
    refine ok_imp t1 ?_ (fun _ _ h => h.elim)
    rintro _ S1 ⟨xs, qs, W1, rfl, a1, a2, a3, a4, a5⟩
    replace a1 := hid a1
    replace a2 := hid a2
    replace a3 := hid a3
    replace a5 := hid a5
    walk_at "auto*"
    exact hid ⟨xs, qs, W1, a1, a2, a3, by omega, a5, rfl⟩
  clear h b0 b1 hps
  clear S
  rintro _ S ⟨xs, qs, W1, a1, a2, a3, a4, a5, rfl⟩
  by_cases c7 : d = 7
  · have fin : Hid (∃ qs W', Stt ns N p f W' S (ps ++ qs) ∧ Fw W W' f ∧ StP (BlP (l' + 1)) (.tup [.str vSet, .tup [.str [97], .tup []], .bl false, .tup [.str [110, 117, 109, 98, 101, 114], .tup [.int 5, .int 0]], .tup xs]) qs ∧ qs.length ≤ 6 ^ (l' + 1) ∧ vPair N qs) := hid ⟨qs, W1, a1, a2, .inr (.inr (.inr (.inl ⟨_, _, _, xs, rfl, a3⟩))), a4, a5⟩
    unfold vSet at fin
    clear a1 a2 a3 a4 a5
    walk_at "auto*"
  · obtain ⟨d2, S1, h1, d3, d4, td⟩ := t_draw (k := k) (by omega) 2 (by decide) (by decide) a1.dw
    have h2 := a1.draw h1
    obtain ⟨x, hx⟩ : ∃ x, ([D.non, D.tup [D.str [98], D.tup []]] : List D)[d2.toNat]? = some x := ⟨_, List.getElem?_eq_getElem (by simp; omega)⟩
    have fin : Hid (∃ qs W', Stt ns N p f W' S1 (ps ++ qs) ∧ Fw W W' f ∧ StP (BlP (l' + 1)) (.tup [.str vDiv, .tup [.str [110, 117, 109, 98, 101, 114], .tup [.int 5, .int 0]], .tup [.str [110, 117, 109, 98, 101, 114], .tup [.int 2, .int 0]], .tup [.str [97], .tup []], .bl true, x, .tup xs]) qs ∧ qs.length ≤ 6 ^ (l' + 1) ∧ vPair N qs) := hid ⟨qs, W1, h2, a2, .inr (.inr (.inr (.inr ⟨_, _, _, _, _, xs, rfl, a3⟩))), a4, a5⟩
    unfold vDiv at fin
    clear a1 a2 a3 a4 a5 h1 h2
    walk_at "auto*"
theorem st_all : ∀ l k, 2 * l + 3 ≤ k → StOk k l
  | l, k, hk => by
    obtain ⟨k, rfl⟩ := Nat.exists_eq_add_of_le' (show 1 ≤ k by omega)
    refine st_of_bl (by omega) fun l' e => ?_
    obtain ⟨k, rfl⟩ := Nat.exists_eq_add_of_le' (show 1 ≤ k by omega)
    exact bl_of_st (by omega) (st_all l' k (by omega))
termination_by l => l
/-! k40: performed -/
structure Gr (S Z : Sto) (n : Nat) (ps : List (Tx × Tx)) : Prop where
  ex : ∃ Y, Z = S ++ Y
  le : S.length ≤ n
  at_ : Z[n]? = some (.lst (ps.map pairD))
theorem Gr.set {S Z : Sto} {n : Nat} {ps : List (Tx × Tx)} (h : Gr S Z n ps) (qs : List (Tx × Tx)) : Gr S (Z.set n (.lst (ps.map pairD ++ qs.map pairD))) n (ps ++ qs) := by
  obtain ⟨⟨Y, rfl⟩, h2, h3⟩ := h
  refine ⟨⟨Y.set (n - S.length) (.lst (ps.map pairD ++ qs.map pairD)), by rw [List.set_append_right _ _ h2]⟩, h2, ?_⟩
  rw [List.getElem?_set_self (List.getElem?_eq_some_iff.mp h3).1, List.map_append]
theorem Gr.more {S Z Z' : Sto} {n : Nat} {ps : List (Tx × Tx)} (h : Gr S Z n ps) (g : ∃ Y, Z' = Z ++ Y) : Gr S Z' n ps := by
  obtain ⟨Y2, rfl⟩ := g
  obtain ⟨⟨Y, rfl⟩, h2, h3⟩ := h
  refine ⟨⟨Y ++ Y2, List.append_assoc ..⟩, h2, ?_⟩
  rw [List.getElem?_append_left (List.getElem?_eq_some_iff.mp h3).1]; exact h3
theorem ext_loc {S : Sto} {n : Nat} {l ys : List D} (h : S[n]? = some (.lst ys)) (hs : l.length + ys.length ≤ 1000000) : gExtend S l [.loc n] = some (.non, l ++ ys) := by
  simp only [gExtend, seqL, h]
  rw [if_pos (so_le (by omega))]
def PfOk [WB] (k l : Nat) : Prop := ∀ (xs : List D) (ps : List (Tx × Tx)) (S : Sto), BlP l xs ps → ps.length ≤ 100000 → OkO ((T k).performed [.tup xs] S) (fun d S' => Hid (∃ n, d = .loc n ∧ Gr S S' n ps)) (fun _ _ => False)
theorem pf_core {k : Nat} {P : List D → List (Tx × Tx) → Prop} (hP : ∀ (xs : List D) (ps : List (Tx × Tx)) (S : Sto), P xs ps → ps.length ≤ 100000 → OkO ((T k).performed [.tup xs] S) (fun d S' => Hid (∃ n, d = .loc n ∧ Gr S S' n ps)) (fun _ _ => False))
    (xs : List D) (ps : List (Tx × Tx)) (S : Sto) (hx : LsP (StP P) xs ps) (hps : ps.length ≤ 100000) : OkO ((T (k + 1)).performed [.tup xs] S) (fun d S' => Hid (∃ n, d = .loc n ∧ Gr S S' n ps)) (fun _ _ => False) := by
  rw [T_performed, a_runT]
  refine ok_trimK ?_
  unfold b_performed
  walk_at "run"
  refine ok_cut (fun E S' => Hid (Gr S S' S.length [] ∧ E = [some (.tup xs), some (.loc S.length), none])) ?_ ?_
  · have g : Gr S (S ++ [.lst (([] : List (Tx × Tx)).map pairD)]) S.length [] := ⟨⟨_, rfl⟩, Nat.le_refl _, by rw [List.getElem?_append_right (Nat.le_refl _), Nat.sub_self]; rfl⟩
    replace g := hid g
    walk_at "auto*"
    exact hid ⟨g, rfl⟩
  rintro _ Z ⟨h, rfl⟩
  refine ok_cut (fun E S' => Hid (Gr S S' S.length ps ∧ (∃ u : Nat → Option D, E = [u 0, some (.loc S.length), u 2]))) ?_ ?_
  · replace h := hid h
    walk_at "auto*"
    refine ok_for (fun i E S' => Hid (∃ qs rest, LsP (StP P) (xs.drop i) rest ∧ ps = qs ++ rest ∧ Gr S S' S.length qs ∧ (∃ u : Nat → Option D, E = [some (.tup xs), some (.loc S.length), u 2]))) (hid ⟨[], ps, hx, rfl, h, exE rfl⟩) ?_ ?_
    · clear h
      clear Z
      rintro i x _ Z hxi ⟨qs, rest, h1, rfl, h2, u, rfl⟩
      have hil := (List.getElem?_eq_some_iff.mp hxi).1
      have hd : xs.drop i = x :: xs.drop (i + 1) := by
        rw [List.drop_eq_getElem_cons hil]
        congr 1
        rw [List.getElem?_eq_getElem hil] at hxi
        exact Option.some.inj hxi
      rw [hd] at h1
      obtain ⟨p, q, h3, h4, rfl⟩ := h1
      clear hd hxi hil
      rw [w_gN]
      walk_at "n"
      unfold l_performed_1
      rw [List.length_append, List.length_append] at hps
      have hF : (qs.map pairD).length ≤ 100000 := by rw [List.length_map]; omega
      have fin : ∀ Z', (∃ Y, Z' = Z ++ Y) → Z'[S.length]? = some (.lst (qs.map pairD)) ∧ Hid (∃ qs' rest', LsP (StP P) (xs.drop (i + 1)) rest' ∧ qs ++ (p ++ q) = qs' ++ rest' ∧ Gr S (Z'.set S.length (.lst (qs.map pairD ++ p.map pairD))) S.length qs') := fun Z' hZ' => ⟨(h2.more hZ').at_, hid ⟨qs ++ p, q, h4, by rw [List.append_assoc], (h2.more hZ').set p⟩⟩
      have fin0 : p = [] → Hid (∃ qs' rest', LsP (StP P) (xs.drop (i + 1)) rest' ∧ qs ++ (p ++ q) = qs' ++ rest' ∧ Gr S Z S.length qs') := fun e => by subst e; exact hid ⟨qs, q, h4, rfl, h2⟩
      clear h4 h2
      rcases h3 with ⟨a, b, w, rfl, rfl⟩ | ⟨w, xs', rfl, w1, w2, w3, w4, w5, rfl⟩ | ⟨w, c, xs', ys', p1, p2, rfl, hw, hb1, hb2, rfl⟩ | ⟨a, b, c, xs', rfl, hb1⟩ | ⟨a, b, c, e, g, xs', rfl, hb1⟩
      · obtain ⟨f1, f2⟩ := fin Z ⟨[], by simp⟩
        replace f2 : Hid (∃ qs' rest', LsP (StP P) (xs.drop (i + 1)) rest' ∧ qs ++ ([(a, b)] ++ q) = qs' ++ rest' ∧ Gr S (Z.set S.length (.lst (qs.map pairD ++ [.tup [.str a, .str b]]))) S.length qs') := f2
        clear fin fin0
        unfold vPerf
        generalize qs.map pairD = QD at *
        walk_at "auto*"
        obtain ⟨qs', rest', g1, g2, g3⟩ := f2
        exact hid ⟨qs', rest', g1, g2, g3, exE rfl⟩
      · replace fin0 := fin0 rfl
        clear fin
        have m1 : ¬ w ∈ [vIf, vRead] := by simp; exact ⟨w2, w3⟩
        have m2 : ¬ w ∈ [vSet, vDiv] := by simp; exact ⟨w4, w5⟩
        unfold vPerf vIf vRead vSet vDiv at *
        clear w2 w3 w4 w5
        walk_at "auto*"
        obtain ⟨qs', rest', g1, g2, g3⟩ := fin0
        exact hid ⟨qs', rest', g1, g2, g3, exE rfl⟩
      · clear fin0
        have t1 := hP xs' p1 Z hb1 (by rw [List.length_append] at hps; omega)
        have m0 : ¬ w = vPerf := by rcases hw with rfl | rfl <;> decide
        have m1 : w ∈ [vIf, vRead] := by rcases hw with rfl | rfl <;> simp
        clear hw
        unfold vPerf vIf vRead at *
        have hz0 := (fin Z ⟨[], by simp⟩).1
        walk_at "auto*"
        refine ok_imp t1 ?_ (fun _ _ h => h.elim)
        rintro _ Z1 ⟨n1, rfl, g1⟩
        have t2 := hP ys' p2 Z1 hb2 (by rw [List.length_append] at hps; omega)
        walk_at "auto*"
        refine ok_imp t2 ?_ (fun _ _ h => h.elim)
        rintro _ Z2 ⟨n2, rfl, g2⟩
        have g3 := (g1.more g2.ex).at_
        have g4 := g2.at_
        have ex2 : ∃ Y, Z2 = Z ++ Y := by
          obtain ⟨Y1, e1⟩ := g1.ex
          obtain ⟨Y2, e2⟩ := g2.ex
          exact ⟨Y1 ++ Y2, by rw [e2, e1, List.append_assoc]⟩
        obtain ⟨f1, f2⟩ := fin Z2 ex2
        rw [List.map_append] at f2
        rw [List.length_append] at hps
        have l1 : (p1.map pairD).length ≤ 100000 := by rw [List.length_map]; omega
        have l2 : (p2.map pairD).length ≤ 100000 := by rw [List.length_map]; omega
        clear g1 g2 ex2 fin t1 t2 hz0 hP
        generalize qs.map pairD = QD at *
        generalize p1.map pairD = P1 at *
        generalize p2.map pairD = P2 at *
        walk_at "auto*"
        obtain ⟨qs', rest', g1, g2, g3⟩ := f2
        exact hid ⟨qs', rest', g1, g2, g3, exE rfl⟩
      · clear fin0
        have t1 := hP xs' p Z hb1 (by omega)
        unfold vSet
        have hz0 := (fin Z ⟨[], by simp⟩).1
        walk_at "autom*"
        refine ok_imp t1 ?_ (fun _ _ h => h.elim)
        rintro _ Z1 ⟨n1, rfl, g1⟩
        have g3 := g1.at_
        obtain ⟨f1, f2⟩ := fin Z1 g1.ex
        have l1 : (p.map pairD).length ≤ 100000 := by rw [List.length_map]; omega
        have hex := ext_loc (l := qs.map pairD) g3 (by omega)
        clear g1 fin t1 hz0 hP
        generalize qs.map pairD = QD at *
        generalize p.map pairD = P1 at *
        walk_at "auto*"
        obtain ⟨qs', rest', g1, g2, g3⟩ := f2
        exact hid ⟨qs', rest', g1, g2, g3, exE rfl⟩
      · clear fin0
        have t1 := hP xs' p Z hb1 (by omega)
        unfold vDiv
        have hz0 := (fin Z ⟨[], by simp⟩).1
        walk_at "autom*"
        refine ok_imp t1 ?_ (fun _ _ h => h.elim)
        rintro _ Z1 ⟨n1, rfl, g1⟩
        have g3 := g1.at_
        obtain ⟨f1, f2⟩ := fin Z1 g1.ex
        have l1 : (p.map pairD).length ≤ 100000 := by rw [List.length_map]; omega
        have hex := ext_loc (l := qs.map pairD) g3 (by omega)
        clear g1 fin t1 hz0 hP
        generalize qs.map pairD = QD at *
        generalize p.map pairD = P1 at *
        walk_at "auto*"
        obtain ⟨qs', rest', g1, g2, g3⟩ := f2
        exact hid ⟨qs', rest', g1, g2, g3, exE rfl⟩
    · rintro _ Z ⟨qs, rest, h1, rfl, h2, u, rfl⟩
      rw [List.drop_length] at h1
      have h1 : rest = [] := h1
      subst h1
      rw [List.append_nil]
      exact hid ⟨h2, exE rfl⟩
  clear h
  clear Z
  rintro _ Z ⟨h, u, rfl⟩
  replace h := hid h
  walk_at "auto*"
  · simp [lb]
  · exact hid ⟨S.length, rfl, h⟩
theorem pf_nil {k : Nat} (S : Sto) : OkO ((T (k + 1)).performed [.tup []] S) (fun d S' => Hid (∃ n, d = .loc n ∧ Gr S S' n [])) (fun _ _ => False) :=
  pf_core (k := k) (P := fun _ _ => False) (fun _ _ _ h => h.elim) [] [] S rfl (by decide)
theorem t_pf : ∀ (l k : Nat), l + 1 ≤ k → PfOk k l
  | 0, k, hk => by
    obtain ⟨k, rfl⟩ := Nat.exists_eq_add_of_le' hk
    rintro xs ps S ⟨rfl, rfl⟩ _
    exact pf_nil S
  | l + 1, k, hk => by
    obtain ⟨k, rfl⟩ := Nat.exists_eq_add_of_le' (show 1 ≤ k by omega)
    intro xs ps S h hp
    exact pf_core (P := BlP l) (fun xs ps S h hp => t_pf l k (by omega) xs ps S h hp) xs ps S h hp
/-! k40: places of names, sets of places, in plain data -/
def keyT (x : Tx) : Key := Sum.inr ⟨x.toArray⟩
theorem keyT_inj {x y : Tx} (h : keyT x = keyT y) : x = y := by
  unfold keyT at h
  have := Sum.inr.inj h
  injection this with this
  exact congrArg Array.toList this
def plcF : Nat → List Tx → List (Key × D)
  | _, [] => []
  | i, x :: r => (keyT x, .int (i : Nat)) :: plcF (i + 1) r
theorem plc_snoc : ∀ (l : List Tx) (i : Nat) (x : Tx), plcF i (l ++ [x]) = plcF i l ++ [(keyT x, .int ((i + l.length : Nat) : Int))]
  | [], i, x => rfl
  | y :: l, i, x => by
    show (keyT y, D.int (i : Nat)) :: plcF (i + 1) (l ++ [x]) = _
    rw [plc_snoc l (i + 1) x, show i + 1 + l.length = i + (y :: l).length by rw [List.length_cons]; omega]
    rfl
theorem plc_has (x : Tx) : ∀ (l : List Tx) (i : Nat), hasD (plcF i l) (keyT x) = decide (x ∈ l)
  | [], i => by simp [plcF, hasD]
  | y :: l, i => by
    have ih := plc_has x l (i + 1)
    unfold hasD at ih ⊢
    rw [plcF, List.any_cons, ih, Bool.eq_iff_iff]
    simp only [Bool.or_eq_true, decide_eq_true_eq, List.mem_cons]
    constructor
    · rintro (h | h)
      · exact .inl (keyT_inj h).symm
      · exact .inr h
    · rintro (h | h)
      · exact .inl (by rw [h])
      · exact .inr h
theorem plc_len : ∀ (l : List Tx) (i : Nat), (plcF i l).length = l.length
  | [], _ => rfl
  | y :: l, i => by rw [plcF, List.length_cons, List.length_cons, plc_len l]
theorem plc_val : ∀ (l : List Tx) (i j : Nat) (x : Tx), l.Nodup → l[j]? = some x → valD (plcF i l) (keyT x) = some (.int ((i + j : Nat) : Int))
  | [], i, j, x, _, h => by simp at h
  | y :: l, i, j, x, hn, h => by
    rw [List.nodup_cons] at hn
    unfold valD
    rw [plcF, List.find?_cons]
    cases j with
    | zero =>
      simp only [List.getElem?_cons_zero, Option.some.injEq] at h
      subst h
      simp
    | succ j =>
      simp only [List.getElem?_cons_succ] at h
      have hxy : keyT y ≠ keyT x := fun e => hn.1 (by rw [keyT_inj e]; exact List.mem_of_getElem? h)
      rw [decide_eq_false hxy]
      have := plc_val l (i + 1) j x hn.2 h
      unfold valD at this
      simp only
      rw [this, show i + 1 + j = i + (j + 1) by omega]
/-- a set by its list -/
def StF (f : Int → Bool) (n : Nat) (C : Int → Prop) : Prop := ∃ l : List Int, l.Nodup ∧ (∀ k, f k = true ↔ k ∈ l) ∧ n = l.length ∧ ∀ k, k ∈ l ↔ C k
theorem StF.nil : StF (fun _ => false) 0 (fun _ => False) := ⟨[], List.nodup_nil, fun k => by simp, rfl, fun k => by simp⟩
theorem StF.congr {f : Int → Bool} {n : Nat} {C C' : Int → Prop} (h : StF f n C) (e : ∀ k, C k ↔ C' k) : StF f n C' := by
  obtain ⟨l, h1, h2, h3, h4⟩ := h
  exact ⟨l, h1, h2, h3, fun k => (h4 k).trans (e k)⟩
theorem StF.add {f : Int → Bool} {n : Nat} {C : Int → Prop} (h : StF f n C) (k : Int) : StF (fun j => f j || decide (j = k)) (if f k = true then n else n + 1) (fun j => C j ∨ j = k) := by
  obtain ⟨l, h1, h2, h3, h4⟩ := h
  by_cases q : f k = true
  · rw [if_pos q]
    refine ⟨l, h1, fun j => ?_, h3, fun j => ?_⟩
    · rw [Bool.or_eq_true, decide_eq_true_eq, h2]
      constructor
      · rintro (h | h)
        · exact h
        · rw [h]; exact (h2 k).mp q
      · exact .inl
    · rw [h4]
      constructor
      · exact .inl
      · rintro (h | h)
        · exact h
        · rw [h]; exact (h4 k).mp ((h2 k).mp q)
  · rw [if_neg q]
    refine ⟨k :: l, List.nodup_cons.mpr ⟨fun hm => q ((h2 k).mpr hm), h1⟩, fun j => ?_, by rw [h3]; rfl, fun j => ?_⟩
    · rw [Bool.or_eq_true, decide_eq_true_eq, h2, List.mem_cons, or_comm]
    · rw [List.mem_cons, h4, or_comm]
theorem StF.le {f : Int → Bool} {n m : Nat} {C : Int → Prop} (h : StF f n C) (hC : ∀ k, C k → 0 ≤ k ∧ k < (m : Int)) : n ≤ m := by
  obtain ⟨l, h1, h2, h3, h4⟩ := h
  have := pig l ((List.range m).map fun i : Nat => (i : Int)) h1 fun k hk => by
    have := hC k ((h4 k).mp hk)
    exact List.mem_map.mpr ⟨k.toNat, List.mem_range.mpr (by omega), by omega⟩
  rw [List.length_map, List.length_range] at this
  omega
theorem StF.srt {f : Int → Bool} {n : Nat} {C : Int → Prop} (h : StF f n C) {ns : List Int} (hp : ns.Pairwise (· < ·)) (hm : ∀ k, k ∈ ns ↔ C k) : srtOf f n = some ns := by
  obtain ⟨l, h1, h2, h3, h4⟩ := h
  have hn : ns.Nodup := hp.imp fun h e => by omega
  refine srtOf_eq ⟨hp, fun k => (hm k).trans ((h4 k).symm.trans (h2 k).symm), ?_⟩
  have a := pig l ns h1 fun k hk => (hm k).mpr ((h4 k).mp hk)
  have b := pig ns l hn fun k hk => (h4 k).mpr ((hm k).mp hk)
  omega
/-- the place of a name -/
def ixN (N : List Tx) (x : Tx) : Nat := (N.findIdx? fun z => decide (z = x)).getD 0
theorem ix_spec {N : List Tx} {x : Tx} (h : x ∈ N) : N[ixN N x]? = some x ∧ (N.findIdx? fun z => decide (z = x)) = some (ixN N x) := by
  unfold ixN
  cases e : N.findIdx? fun z => decide (z = x) with
  | none =>
    rw [List.findIdx?_eq_none_iff] at e
    have := e x h
    simp at this
  | some i =>
    rw [List.findIdx?_eq_some_iff_getElem] at e
    obtain ⟨h1, h2, _⟩ := e
    have h2 := of_decide_eq_true h2
    exact ⟨by rw [Option.getD_some, List.getElem?_eq_getElem h1, h2], rfl⟩
theorem ix_lt {N : List Tx} {x : Tx} (h : x ∈ N) : ixN N x < N.length := (List.getElem?_eq_some_iff.mp (ix_spec h).1).1
/-- the places that are performed -/
def hitB (N : List Tx) (ps : List (Tx × Tx)) (j : Nat) : Bool := ps.any fun q => decide (ixN N q.1 ≤ j) && decide (j ≤ ixN N q.2)
def plsOf (N : List Tx) (ps : List (Tx × Tx)) : List Nat := (List.range N.length).filter (hitB N ps)
theorem pls_pw (N : List Tx) (ps : List (Tx × Tx)) : (natL (plsOf N ps)) = intL ((plsOf N ps).map fun i : Nat => (i : Int)) ∧ ((plsOf N ps).map fun i : Nat => (i : Int)).Pairwise (· < ·) := by
  refine ⟨natL_int _, ?_⟩
  rw [List.pairwise_map]
  have : (plsOf N ps).Pairwise (· < ·) := List.Pairwise.filter _ List.pairwise_lt_range
  exact this.imp fun h => by omega
theorem pls_mem {N : List Tx} {ps : List (Tx × Tx)} (hv : vPair N ps) (k : Int) : k ∈ ((plsOf N ps).map fun i : Nat => (i : Int)) ↔ ∃ q ∈ ps, (ixN N q.1 : Int) ≤ k ∧ k ≤ (ixN N q.2 : Int) := by
  rw [List.mem_map]
  constructor
  · rintro ⟨i, hi, rfl⟩
    unfold plsOf hitB at hi
    rw [List.mem_filter, List.any_eq_true] at hi
    obtain ⟨_, q, hq, hb⟩ := hi
    rw [Bool.and_eq_true, decide_eq_true_eq, decide_eq_true_eq] at hb
    exact ⟨q, hq, by omega, by omega⟩
  · rintro ⟨q, hq, h1, h2⟩
    have := ix_lt (hv q hq).2
    refine ⟨k.toNat, ?_, by omega⟩
    unfold plsOf hitB
    rw [List.mem_filter, List.any_eq_true, List.mem_range]
    exact ⟨by omega, q, hq, by rw [Bool.and_eq_true, decide_eq_true_eq, decide_eq_true_eq]; omega⟩
/-! k40: the graph, walked -/
structure Pg where
  nm : Tx
  xs : List D
  ps : List (Tx × Tx)
def parD (g : Pg) : D := .tup [.str g.nm, .tup g.xs]
def rowT (N : List Tx) (g : Pg) : D := .tup (natL (plsOf N g.ps))
structure Fp (S Z : Sto) : Prop where
  le : S.length ≤ Z.length
  at_ : ∀ m, m < S.length → Z[m]? = S[m]?
theorem Fp.app {S : Sto} (Y : Sto) : Fp S (S ++ Y) := ⟨by rw [List.length_append]; omega, fun m h => List.getElem?_append_left h⟩
theorem Fp.more {S Z : Sto} (h : Fp S Z) (Y : Sto) : Fp S (Z ++ Y) := ⟨by rw [List.length_append]; have := h.le; omega, fun m hm => by rw [List.getElem?_append_left (by have := h.le; omega)]; exact h.at_ m hm⟩
theorem Fp.set {S Z : Sto} (h : Fp S Z) {n : Nat} (hn : S.length ≤ n) (o : Ob) : Fp S (Z.set n o) := ⟨by rw [List.length_set]; exact h.le, fun m hm => by rw [List.getElem?_set_ne (by omega)]; exact h.at_ m hm⟩
theorem ok_trimFp {S : Sto} {o : Out D} {P : D → Prop} (h : OkO o (fun d S' => Fp S S' ∧ P d) (fun _ _ => False)) : OkO (trim S o) (fun d S' => Fp S S' ∧ P d) (fun _ _ => False) := by
  cases o with
  | ok d S' =>
    unfold trim
    simp only
    split
    · exact ⟨⟨Nat.le_refl _, fun _ _ => rfl⟩, h.2⟩
    · exact h
  | ex e S' => exact h.elim
  | bad => exact h.elim
theorem t_places {gs : List Pg} (hn : (gs.map (·.nm)).Nodup) (hl : gs.length ≤ 40) (S : Sto) {E : Evn} (hE : E[0]? = some (some (.tup (gs.map parD)))) (hE2 : E.length = 10) :
    OkO (mDc (iEnumD (mCons (mVar 0) mNil)) false [8, 9, 3, 3] [8, 9, 3] mYes (mVar 9) (mVar 8) E S) (fun d S' => d = .loc S.length ∧ S' = S ++ [.dic (plcF 0 (gs.map (·.nm)))]) (fun _ _ => False) := by
  obtain ⟨e0, e1, e2, e3, e4, e5, e6, e7, e8, e9, rfl⟩ : ∃ e0 e1 e2 e3 e4 e5 e6 e7 e8 e9, E = [e0, e1, e2, e3, e4, e5, e6, e7, e8, e9] := by
    match E, hE2 with
    | [e0, e1, e2, e3, e4, e5, e6, e7, e8, e9], _ => exact ⟨_, _, _, _, _, _, _, _, _, _, rfl⟩
  simp only [List.getElem?_cons_zero, Option.some.injEq] at hE
  subst hE
  walk_at "auto*"
  have hel : (enumD (gs.map parD)).length = gs.length := by rw [enumD_len, List.length_map]
  refine ok_compV (fun i S' => Hid (S' = S ++ [.dic (plcF 0 ((gs.map (·.nm)).take i))])) _ 0 _ (hid rfl) (fun _ _ _ => trivial) ?_ ?_
  · rintro i x _ hi hS
    obtain ⟨y, hy, rfl⟩ := enumD_get hi
    rw [List.getElem?_map, Option.map_eq_some_iff] at hy
    obtain ⟨g, hg, rfl⟩ := hy
    rw [Nat.zero_add] at hS ⊢
    have hS : _ = S ++ [Ob.dic (plcF 0 ((gs.map (·.nm)).take i))] := hS
    subst hS
    have hnm : (gs.map (·.nm))[i]? = some g.nm := by rw [List.getElem?_map, hg]; rfl
    have hil : i < (gs.map (·.nm)).length := (List.getElem?_eq_some_iff.mp hnm).1
    have ht : (gs.map (·.nm)).take (i + 1) = (gs.map (·.nm)).take i ++ [g.nm] := by rw [List.take_succ, hnm]; rfl
    have htl : ((gs.map (·.nm)).take i).length = i := by rw [List.length_take]; omega
    have hnew : hasD (plcF 0 ((gs.map (·.nm)).take i)) (keyT g.nm) = false := by
      rw [plc_has, decide_eq_false]
      intro hm
      obtain ⟨j, hj⟩ := List.mem_iff_getElem?.mp hm
      have hjl : j < i := by have := (List.getElem?_eq_some_iff.mp hj).1; omega
      rw [List.getElem?_take_of_lt hjl] at hj
      have := (List.getElem?_inj (show j < (gs.map (·.nm)).length by omega) hn).mp (hj.trans hnm.symm)
      omega
    have hput : putD (plcF 0 ((gs.map (·.nm)).take i)) (keyT g.nm) (.int (i : Nat)) = plcF 0 ((gs.map (·.nm)).take (i + 1)) := by
      unfold putD
      rw [if_neg (by rw [hnew]; decide), ht, plc_snoc, htl, Nat.zero_add]
    have hpl : (plcF 0 ((gs.map (·.nm)).take i)).length < 16777216 := by rw [plc_len, htl]; rw [List.length_map] at hil; omega
    have fin : Hid ((S ++ [Ob.dic (plcF 0 ((gs.map (·.nm)).take i))]).set S.length (.dic (putD (plcF 0 ((gs.map (·.nm)).take i)) (keyT g.nm) (.int (i : Nat)))) = S ++ [.dic (plcF 0 ((gs.map (·.nm)).take (i + 1)))]) := hid (by rw [hput, List.set_append_right _ _ (Nat.le_refl _), Nat.sub_self]; rfl)
    have hg0 : (S ++ [Ob.dic (plcF 0 ((gs.map (·.nm)).take i))])[S.length]? = some (.dic (plcF 0 ((gs.map (·.nm)).take i))) := by rw [List.getElem?_append_right (Nat.le_refl _), Nat.sub_self]; rfl
    unfold parD
    clear ht htl hnew hput hnm hi hel hn
    generalize plcF 0 ((gs.map (·.nm)).take i) = KV at *
    generalize S ++ [Ob.dic KV] = Z at *
    walk_at "auto*"
    exact ⟨KV, keyT g.nm, rfl, rfl, hpl, fin⟩
  · intro S' hS
    have hS : S' = S ++ [Ob.dic (plcF 0 ((gs.map (·.nm)).take (0 + (enumD (gs.map parD)).length)))] := hS
    rw [hel, Nat.zero_add, List.take_of_length_le (by rw [List.length_map]; exact Nat.le_refl _)] at hS
    exact ⟨rfl, hS⟩
theorem t_graph {k l : Nat} (hk : l + 2 ≤ k) {gs : List Pg} (hn : (gs.map (·.nm)).Nodup) (hl : gs.length ≤ 40) (hg : ∀ g ∈ gs, BlP l g.xs g.ps ∧ vPair (gs.map (·.nm)) g.ps ∧ g.ps.length ≤ 10000) (S : Sto) :
    OkO ((T k).graph_of [.tup (gs.map parD)] S) (fun d S' => Fp S S' ∧ d = .tup (gs.map (rowT (gs.map (·.nm))))) (fun _ _ => False) := by
  obtain ⟨k, rfl⟩ := Nat.exists_eq_add_of_le' (show 1 ≤ k by omega)
  rw [T_graph_of, a_runT]
  refine ok_trimFp ?_
  unfold b_graph_of
  walk_at "run"
  obtain ⟨N, hN0⟩ : ∃ N, N = gs.map (·.nm) := ⟨_, rfl⟩
  have tp := t_places hn hl S (E := [some (.tup (gs.map parD)), none, none, none, none, none, none, none, none, none]) rfl rfl
  rw [← hN0] at tp
  have hN := hid hN0
  clear hN0
  refine ok_cut (fun E S' => Hid (S' = S ++ [.dic (plcF 0 N)] ∧ E = [some (.tup (gs.map parD)), some (.loc S.length), none, none, none, none, none, none, none, none])) ?_ ?_
  · rw [w_set]
    refine ok_imp tp ?_ (fun _ _ h => h.elim)
    rintro _ _ ⟨rfl, rfl⟩
    walk_at "auto*"
    exact hid ⟨rfl, rfl⟩
  clear tp
  rintro _ _ ⟨rfl, rfl⟩
  refine ok_cut (fun E S' => Hid (S' = S ++ [.dic (plcF 0 N), .lst []] ∧ E = [some (.tup (gs.map parD)), some (.loc S.length), some (.loc (S.length + 1)), none, none, none, none, none, none, none])) ?_ ?_
  · have hlen : (S ++ [Ob.dic (plcF 0 N)]).length = S.length + 1 := by rw [List.length_append]; rfl
    walk_at "auto*"
    exact hid ⟨rfl, by rw [hlen]⟩
  rintro _ _ ⟨rfl, rfl⟩
  refine ok_cut (fun E S' => Hid (Fp S S' ∧ S'[S.length + 1]? = some (.lst (gs.map (rowT N))) ∧ (∃ u : Nat → Option D, E = [u 0, u 1, some (.loc (S.length + 1)), u 3, u 4, u 5, u 6, u 7, u 8, u 9]))) ?_ ?_
  · have i1 : (S ++ [Ob.dic (plcF 0 N), Ob.lst []])[S.length]? = some (.dic (plcF 0 N)) := by rw [List.getElem?_append_right (Nat.le_refl _), Nat.sub_self]; rfl
    have i2 : (S ++ [Ob.dic (plcF 0 N), Ob.lst []])[S.length + 1]? = some (.lst ((gs.take 0).map (rowT N))) := by rw [List.getElem?_append_right (by omega), show S.length + 1 - S.length = 1 by omega]; rfl
    have i0 : Fp S (S ++ [Ob.dic (plcF 0 N), Ob.lst []]) := Fp.app _
    replace i0 := hid i0
    replace i1 := hid i1
    replace i2 := hid i2
    generalize S ++ [Ob.dic (plcF 0 N), Ob.lst []] = Z at *
    walk_at "auto*"
    refine ok_forM (fun i E S' => Hid (Fp S S' ∧ S'[S.length]? = some (.dic (plcF 0 N)) ∧ S'[S.length + 1]? = some (.lst ((gs.take i).map (rowT N))) ∧ (∃ u : Nat → Option D, E = [some (.tup (gs.map parD)), some (.loc S.length), some (.loc (S.length + 1)), u 3, u 4, u 5, u 6, u 7, u 8, u 9]))) (hid ⟨i0, i1, i2, exE rfl⟩) ?_ ?_
    · clear i0 i1 i2
      clear Z
      rintro i g _ Z hgi ⟨i0, i1, i2, u, rfl⟩
      obtain ⟨hb, hv, hpl⟩ := hg g (List.mem_of_getElem? hgi)
      replace hN : N = gs.map (·.nm) := hN
      rw [← hN] at hv
      have hpd : parD g = .tup [.str g.nm, .tup g.xs] := rfl
      rw [hpd]
      have hN40 : N.length ≤ 40 := by rw [hN, List.length_map]; exact hl
      have hnd : N.Nodup := by rw [hN]; exact hn
      have hgt : gs.take (i + 1) = gs.take i ++ [g] := by rw [List.take_succ, hgi]; rfl
      have hgl : ((gs.take i).map (rowT N)).length ≤ 100 := by rw [List.length_map, List.length_take]; omega
      have hZS : S.length + 1 < Z.length := (List.getElem?_eq_some_iff.mp i2).1
      clear hN hn hl hg hgi
      have htg : gT 2 (gsCons (gN 3) (gsCons (gN 4) gsNil)) (D.tup [D.str g.nm, D.tup g.xs]) [some (.tup (gs.map parD)), some (.loc S.length), some (.loc (S.length + 1)), u 3, u 4, u 5, u 6, u 7, u 8, u 9] Z = .ok [some (.tup (gs.map parD)), some (.loc S.length), some (.loc (S.length + 1)), some (.str g.nm), some (.tup g.xs), u 5, u 6, u 7, u 8, u 9] Z := rfl
      rw [htg, w_ok]
      clear htg
      unfold l_graph_of_3
      refine ok_cut (fun E S' => Hid (S' = Z ++ [.set WB.b (fun _ => false) 0] ∧ (∃ u : Nat → Option D, E = [some (.tup (gs.map parD)), some (.loc S.length), some (.loc (S.length + 1)), u 3, some (.tup g.xs), some (.loc Z.length), u 6, u 7, u 8, u 9]))) ?_ ?_
      · walk_at "auto*"
        exact hid ⟨rfl, exE rfl⟩
      clear u
      rintro _ _ ⟨rfl, u, rfl⟩
      have hC : ∀ k, (∃ q ∈ g.ps, (ixN N q.1 : Int) ≤ k ∧ k ≤ (ixN N q.2 : Int)) → 0 ≤ k ∧ k < (40 : Int) := by
        rintro k ⟨q, hq, h1, h2⟩
        have := ix_lt (hv q hq).2
        omega
      refine ok_cut (fun E S' => Hid (∃ f n, S'[Z.length]? = some (.set WB.b f n) ∧ StF f n (fun k => ∃ q ∈ g.ps, (ixN N q.1 : Int) ≤ k ∧ k ≤ (ixN N q.2 : Int)) ∧ Fp S S' ∧ S'[S.length]? = some (.dic (plcF 0 N)) ∧ S'[S.length + 1]? = some (.lst ((gs.take i).map (rowT N))) ∧ (∃ u : Nat → Option D, E = [some (.tup (gs.map parD)), some (.loc S.length), some (.loc (S.length + 1)), u 3, u 4, some (.loc Z.length), u 6, u 7, u 8, u 9]))) ?_ ?_
      · have tp := t_pf l k (by omega) g.xs g.ps (Z ++ [Ob.set WB.b (fun _ => false) 0]) hb (by omega)
        have j1 : (Z ++ [Ob.set WB.b (fun _ => false) 0])[Z.length]? = some (.set WB.b (fun _ => false) 0) := by rw [List.getElem?_append_right (Nat.le_refl _), Nat.sub_self]; rfl
        have j0 : Fp S (Z ++ [Ob.set WB.b (fun _ => false) 0]) := i0.more _
        have j2 : (Z ++ [Ob.set WB.b (fun _ => false) 0])[S.length]? = some (.dic (plcF 0 N)) := by rw [List.getElem?_append_left (by omega)]; exact i1
        have j3 : (Z ++ [Ob.set WB.b (fun _ => false) 0])[S.length + 1]? = some (.lst ((gs.take i).map (rowT N))) := by rw [List.getElem?_append_left (by omega)]; exact i2
        have hl1 : (Z ++ [Ob.set WB.b (fun _ => false) 0]).length = Z.length + 1 := by rw [List.length_append]; rfl
        clear i0 i1 i2 hb
        replace j0 := hid j0
        replace j1 := hid j1
        replace j2 := hid j2
        replace j3 := hid j3
        generalize Z ++ [Ob.set WB.b (fun _ => false) 0] = Z1 at *
        walk_at "auto*"
        refine ok_imp tp ?_ (fun _ _ h => h.elim)
        rintro _ Z2 ⟨n2, rfl, hG⟩
        have g0 := hG.at_
        have g1 := hG.le
        obtain ⟨Y, hY⟩ := hG.ex
        clear hG tp
        have old : ∀ m o, Z1[m]? = some o → Z2[m]? = some o := fun m o h => by rw [hY, List.getElem?_append_left (List.getElem?_eq_some_iff.mp h).1]; exact h
        have k0 : Fp S Z2 := by rw [hY]; exact Fp.more (show Fp S Z1 from j0) Y
        have k1 := old _ _ (show Z1[Z.length]? = some (.set WB.b (fun _ => false) 0) from j1)
        have k2 := old _ _ (show Z1[S.length]? = some (.dic (plcF 0 N)) from j2)
        have k3 := old _ _ (show Z1[S.length + 1]? = some (.lst ((gs.take i).map (rowT N))) from j3)
        clear old hY j0 j1 j2 j3
        replace k0 := hid k0
        rw [hl1] at g1
        replace k1 := hid k1
        replace k2 := hid k2
        replace k3 := hid k3
        walk_at "auto*"
        refine ok_forL (fun t E S' => Hid (S'[n2]? = some (.lst (g.ps.map pairD)) ∧ ∃ f n, S'[Z.length]? = some (.set WB.b f n) ∧ StF f n (fun k => ∃ q ∈ g.ps.take t, (ixN N q.1 : Int) ≤ k ∧ k ≤ (ixN N q.2 : Int)) ∧ Fp S S' ∧ S'[S.length]? = some (.dic (plcF 0 N)) ∧ S'[S.length + 1]? = some (.lst ((gs.take i).map (rowT N))) ∧ (∃ u : Nat → Option D, E = [some (.tup (gs.map parD)), some (.loc S.length), some (.loc (S.length + 1)), u 3, u 4, some (.loc Z.length), u 6, u 7, u 8, u 9]))) (hid ⟨g0, _, _, k1, StF.nil.congr fun k => ⟨fun h => h.elim, fun ⟨q, hq, _⟩ => by simp at hq⟩, k0, k2, k3, exE rfl⟩) (fun t E S' h => h.1) ?_ ?_
        · clear g0 k0 k1 k2 k3 u
          clear Z2
          rintro t x _ Z2 htx ⟨g0, f, n, k1, hS, k0, k2, k3, u, rfl⟩
          rw [List.getElem?_map, Option.map_eq_some_iff] at htx
          obtain ⟨q, hq, rfl⟩ := htx
          have hqm := List.mem_of_getElem? hq
          obtain ⟨v1, v2⟩ := hv q hqm
          have a1 := ix_lt v1
          have a2 := ix_lt v2
          have htk : g.ps.take (t + 1) = g.ps.take t ++ [q] := by rw [List.take_succ, hq]; rfl
          have hCt : ∀ k, (∃ q ∈ g.ps.take t, (ixN N q.1 : Int) ≤ k ∧ k ≤ (ixN N q.2 : Int)) → 0 ≤ k ∧ k < (40 : Int) := fun k ⟨q', h1, h2⟩ => hC k ⟨q', List.mem_of_mem_take h1, h2⟩
          have dg : ∀ (x : Tx) (m : Nat) {Z : Sto}, Z[S.length]? = some (.dic (plcF 0 N)) → N[m]? = some x → gDget Z (.loc S.length) (.str x) = some (.int (m : Nat)) := fun x m Z hz hx => by
            have := plc_val N 0 m x hnd hx
            rw [Nat.zero_add] at this
            unfold gDget dicAt
            simp only [hz]
            exact this
          have d1 := dg q.1 _ k2 (ix_spec v1).1
          have d2 := dg q.2 _ k2 (ix_spec v2).1
          have htg : gT 2 (gsCons (gN 6) (gsCons (gN 7) gsNil)) (pairD q) [some (.tup (gs.map parD)), some (.loc S.length), some (.loc (S.length + 1)), u 3, u 4, some (.loc Z.length), u 6, u 7, u 8, u 9] Z2 = .ok [some (.tup (gs.map parD)), some (.loc S.length), some (.loc (S.length + 1)), u 3, u 4, some (.loc Z.length), some (.str q.1), some (.str q.2), u 8, u 9] Z2 := rfl
          rw [htg, w_ok]
          clear htg dg v1 v2 hqm hq
          unfold l_graph_of_2
          generalize hqA : ixN N q.1 = A at *
          generalize hqB : ixN N q.2 = B at *
          replace hqA := hid hqA
          replace hqB := hid hqB
          obtain ⟨m, hm⟩ : ∃ m : Nat, ((B : Int) + 1 - (A : Int)).toNat = m := ⟨_, rfl⟩
          replace k0 := hid k0
          replace k1 := hid k1
          replace k2 := hid k2
          replace k3 := hid k3
          replace g0 := hid g0
          replace hS := hid hS
          replace hC := hid hC
          replace hCt := hid hCt
          replace hv := hid hv
          walk_at "auto*"
          replace hS : StF f n (fun k => ∃ q ∈ g.ps.take t, (ixN N q.1 : Int) ≤ k ∧ k ≤ (ixN N q.2 : Int)) := hS
          replace hqA : ixN N q.1 = A := hqA
          replace hqB : ixN N q.2 = B := hqB
          have hsb : (42 : Nat) < scanBound := by decide
          refine ok_forR (fun j E S' => Hid (S'[n2]? = some (.lst (g.ps.map pairD)) ∧ ∃ f n, S'[Z.length]? = some (.set WB.b f n) ∧ StF f n (fun k => (∃ q ∈ g.ps.take t, (ixN N q.1 : Int) ≤ k ∧ k ≤ (ixN N q.2 : Int)) ∨ ((A : Int) ≤ k ∧ k < (A : Int) + (j : Int))) ∧ Fp S S' ∧ S'[S.length]? = some (.dic (plcF 0 N)) ∧ S'[S.length + 1]? = some (.lst ((gs.take i).map (rowT N))) ∧ (∃ u : Nat → Option D, E = [some (.tup (gs.map parD)), some (.loc S.length), some (.loc (S.length + 1)), u 3, u 4, some (.loc Z.length), u 6, u 7, u 8, u 9]))) (hid ⟨g0, f, n, k1, hS.congr fun k => ⟨.inl, fun h => h.resolve_right (by omega)⟩, k0, k2, k3, exE rfl⟩) ?_ ?_
          · clear g0 k0 k1 k2 k3 hS u f n d1 d2
            clear Z2
            rintro j _ Z4 hj ⟨g0, f, n, k1, hS, k0, k2, k3, u, rfl⟩
            have hCt' : ∀ k, (∃ q ∈ g.ps.take t, (ixN N q.1 : Int) ≤ k ∧ k ≤ (ixN N q.2 : Int)) → 0 ≤ k ∧ k < (40 : Int) := hCt
            have hn40 := hS.le (m := 40) (fun k h => by
              rcases h with h | h
              · exact hCt' k h
              · omega)
            have hadd := hS.add ((A : Int) + (j : Int))
            have hzl := (List.getElem?_eq_some_iff.mp k1).1
            have fin : ∀ f' n', StF f' n' (fun x => ((∃ q ∈ g.ps.take t, (ixN N q.1 : Int) ≤ x ∧ x ≤ (ixN N q.2 : Int)) ∨ ((A : Int) ≤ x ∧ x < (A : Int) + (j : Int))) ∨ x = (A : Int) + (j : Int)) → Hid ((Z4.set Z.length (.set WB.b f' n'))[n2]? = some (.lst (g.ps.map pairD)) ∧ ∃ f n, (Z4.set Z.length (.set WB.b f' n'))[Z.length]? = some (.set WB.b f n) ∧ StF f n (fun k => (∃ q ∈ g.ps.take t, (ixN N q.1 : Int) ≤ k ∧ k ≤ (ixN N q.2 : Int)) ∨ ((A : Int) ≤ k ∧ k < (A : Int) + ((j + 1 : Nat) : Int))) ∧ Fp S (Z4.set Z.length (.set WB.b f' n')) ∧ (Z4.set Z.length (.set WB.b f' n'))[S.length]? = some (.dic (plcF 0 N)) ∧ (Z4.set Z.length (.set WB.b f' n'))[S.length + 1]? = some (.lst ((gs.take i).map (rowT N)))) := by
              intro f' n' hst
              refine hid ⟨by rw [List.getElem?_set_ne (by omega)]; exact g0, f', n', List.getElem?_set_self hzl, hst.congr fun k => ⟨?_, ?_⟩, k0.set (by omega) _, by rw [List.getElem?_set_ne (by omega)]; exact k2, by rw [List.getElem?_set_ne (by omega)]; exact k3⟩
              · rintro ((h | h) | h)
                · exact .inl h
                · exact .inr (by omega)
                · exact .inr (by omega)
              · rintro (h | h)
                · exact .inl (.inl h)
                · by_cases c : k = (A : Int) + (j : Int)
                  · exact .inr c
                  · exact .inl (.inr (by omega))
            have fin2 := fin _ _ hadd
            replace fin2 := hid fin2
            rw [w_gN]
            walk_at "n"
            unfold l_graph_of_1
            clear g0 k0 k2 k3 hS hadd fin hCt' hCt htk hqA hqB
            generalize ((j + 1 : Nat) : Int) = j1 at *
            walk_at "auto*"
            obtain ⟨b0, f', n', b1, b2, b3, b4, b5⟩ := fin2
            exact hid ⟨b0, f', n', b1, b2, b3, b4, b5, exE rfl⟩
          · rintro _ Z5 ⟨g0, f', n', b1, b2, b3, b4, b5, u', rfl⟩
            refine hid ⟨g0, f', n', b1, b2.congr fun k => ?_, b3, b4, b5, exE rfl⟩
            rw [htk]
            constructor
            · rintro (⟨q', h1, h2⟩ | h)
              · exact ⟨q', List.mem_append_left _ h1, h2⟩
              · exact ⟨q, List.mem_append_right _ (List.mem_singleton.mpr rfl), by rw [hqA]; omega, by rw [hqB]; omega⟩
            · rintro ⟨q', h1, h2⟩
              rcases List.mem_append.mp h1 with h1 | h1
              · exact .inl ⟨q', h1, h2⟩
              · rw [List.mem_singleton.mp h1, hqA, hqB] at h2
                exact .inr (by omega)
        · rintro _ Z3 ⟨g0, f, n, k1, hS, k0, k2, k3, u, rfl⟩
          rw [List.length_map, List.take_length] at hS
          exact hid ⟨f, n, k1, hS, k0, k2, k3, exE rfl⟩
      clear u i0 i1 i2
      rintro _ Z3 ⟨f, n, k1, hS, k0, k2, k3, u, rfl⟩
      have hn40 := hS.le (m := 40) hC
      obtain ⟨p1, p2⟩ := pls_pw N g.ps
      have hsr := hS.srt p2 (pls_mem hv)
      have hzl := (List.getElem?_eq_some_iff.mp k3).1
      have hrow : rowT N g = .tup (intL ((plsOf N g.ps).map fun i : Nat => (i : Int))) := by unfold rowT; rw [p1]
      have fin0 := k0.set (n := S.length + 1) (by omega) (.lst ((gs.take i).map (rowT N) ++ [rowT N g]))
      have fin : (Z3.set (S.length + 1) (.lst ((gs.take i).map (rowT N) ++ [rowT N g])))[S.length]? = some (.dic (plcF 0 N)) ∧ (Z3.set (S.length + 1) (.lst ((gs.take i).map (rowT N) ++ [rowT N g])))[S.length + 1]? = some (.lst ((gs.take (i + 1)).map (rowT N))) := ⟨by rw [List.getElem?_set_ne (by omega)]; exact k2, by rw [List.getElem?_set_self hzl, hgt, List.map_append]; rfl⟩
      rw [hrow] at fin fin0
      replace fin0 := hid fin0
      obtain ⟨fin1, fin2⟩ := fin
      replace fin1 := hid fin1
      replace fin2 := hid fin2
      clear hS hC hv p1 p2 hrow k0 k2 hgt hb
      generalize (plsOf N g.ps).map (fun i : Nat => (i : Int)) = PL at *
      generalize (gs.take i).map (rowT N) = RW at *
      walk_at "auto*"
      exact hid ⟨fin0, fin1, fin2, exE rfl⟩
    · rintro _ Z ⟨i0, i1, i2, u, rfl⟩
      rw [List.take_length] at i2
      exact hid ⟨i0, i2, exE rfl⟩
  rintro _ Z ⟨h0, h, u, rfl⟩
  rw [← show N = gs.map (·.nm) from hN]
  walk_at "auto*"
/-! a comprehension over a list of the store -/
theorem ok_compKC {α : Type} {one : Bool} {is : List Nat} {t : MT} {e : ME} {E0 : Evn} {S0 : Sto} {c : Option (Nat × List D)} (hck : ∀ acc, chkOk c (S0 ++ [.lst acc])) (g : α → D) (p : α → Bool) (f : α → D) : ∀ (xs : List α) (acc : List D) (_ : PD.sizeOk (acc.length + xs.length))
    (_ : ∀ x ∈ xs, ∀ acc, OkP (stN one is (g x) E0) fun E1 => OkO (t E1 (S0 ++ [.lst acc])) (fun b S' => S' = S0 ++ [.lst acc] ∧ b = p x ∧ (b = true → OkO (e E1 (S0 ++ [.lst acc])) (fun y S' => S' = S0 ++ [.lst acc] ∧ lb S0.length y = true ∧ y = f x) (fun _ _ => False))) (fun _ _ => False)),
    compD c one is t e E0 S0 (xs.map g) acc = .ok (acc ++ (xs.filter p).map f) S0
  | [], acc, _, _ => by rw [List.map_nil, compD, if_pos (hck _)]; simp
  | x :: l, acc, hz, h => by
    have h0 := h x List.mem_cons_self acc
    have hz1 : sizeOk (acc.length + l.length) := by unfold PD.sizeOk at *; simp only [List.length_cons] at hz; omega
    rw [List.map_cons, compD, if_pos (hck _)]
    cases h1 : stN one is (g x) E0 with
    | none => rw [h1] at h0; exact h0.elim
    | some E1 =>
      rw [h1, w_some] at h0
      simp only
      cases h2 : t E1 (S0 ++ [.lst acc]) with
      | bad => rw [h2] at h0; exact h0.elim
      | ex _ _ => rw [h2] at h0; exact h0.elim
      | ok b S1 =>
        rw [h2, w_ok] at h0
        obtain ⟨rfl, rfl, h3⟩ := h0
        simp only
        rw [if_pos trivial]
        cases hp : p x with
        | false =>
          rw [if_neg (by simp), ok_compKC hck g p f l acc hz1 fun y hy => h y (List.mem_cons_of_mem _ hy)]
          simp [List.filter_cons, hp]
        | true =>
          have h4 := h3 hp
          rw [if_pos rfl]
          cases h5 : e E1 (S0 ++ [.lst acc]) with
          | bad => rw [h5] at h4; exact h4.elim
          | ex _ _ => rw [h5] at h4; exact h4.elim
          | ok y S2 =>
            rw [h5, w_ok] at h4
            obtain ⟨rfl, h6, rfl⟩ := h4
            simp only
            rw [if_pos ⟨rfl, h6, by unfold PD.sizeOk at *; simp only [List.length_cons] at hz; omega⟩, ok_compKC hck g p f l _ (by unfold PD.sizeOk at *; simp only [List.length_cons, List.length_append, List.length_nil] at hz ⊢; omega) fun y hy => h y (List.mem_cons_of_mem _ hy)]
            simp [List.filter_cons, hp]
theorem ok_compK {α : Type} {one : Bool} {is : List Nat} {t : MT} {e : ME} {E0 : Evn} {S0 : Sto} {QL : List D → Sto → Prop} {X : Exn → Sto → Prop} {xs : List α} {g : α → D} {c : Option (Nat × List D)} (hck : ∀ acc, chkOk c (S0 ++ [.lst acc])) (p : α → Bool) (f : α → D) (hz : xs.length ≤ 16777216)
    (h : ∀ x ∈ xs, ∀ acc, OkP (stN one is (g x) E0) fun E1 => OkO (t E1 (S0 ++ [.lst acc])) (fun b S' => S' = S0 ++ [.lst acc] ∧ b = p x ∧ (b = true → OkO (e E1 (S0 ++ [.lst acc])) (fun y S' => S' = S0 ++ [.lst acc] ∧ lb S0.length y = true ∧ y = f x) (fun _ _ => False))) (fun _ _ => False))
    (q : QL ((xs.filter p).map f) S0) : OkO (compD c one is t e E0 S0 (xs.map g) []) QL X := by
  rw [ok_compKC hck g p f xs [] (sizeOk_of (by simpa using hz)) h]
  exact q
/-! k40: a turn of the law -/
structure LI (ns : List Int) (N : List Tx) (i : Nat) (gs : List Pg) (W S : Sto) : Prop where
  dw : Dw ns W S
  nm : W[0]? = some (.lst (N.map D.str))
  pr : W[1]? = some (.lst (gs.map parD))
  du : W[2]? = some (.lst (gs.map (rowT N)))
  gn : gs.map (·.nm) = N.take i
  gl : gs.length = i
  gk : ∀ g ∈ gs, BlP 4 g.xs g.ps ∧ vPair N g.ps ∧ g.ps.length ≤ 864
theorem dw_more {ns : List Int} {W S : Sto} (h : Dw ns W S) (Y : Sto) : Dw ns (W ++ Y) (S ++ Y) := by
  obtain ⟨p, v, s, h1, h2, rfl⟩ := h
  exact ⟨p, v, s, h1, h2, rfl⟩
theorem lw_stmts {ns : List Int} {N : List Tx} (hN : 1 ≤ N.length) (hN2 : N.length ≤ 40) {f : Nat} (hf : 0 ≠ f) {W S : Sto} (h : Stt ns N 0 f W S []) {E : Evn} (hE : E.length = 14) (hE1 : E[1]? = some (some (.loc 0))) (hE3 : E[3]? = some (some (.loc (0 + 1)))) (hE7 : E[7]? = some (some (.loc (f + 1)))) :
    OkO (mB gTuple (mCons (mCompL (iRange1 (mCons (mCall (T 9)._law_draw (mCons (mVar 1) (mCons (mC (.int 5)) mNil))) mNil)) true [11] [11] mYes (mCall (T 9)._law_statement (mCons (mVar 1) (mCons (mVar 3) (mCons (mVar 7) (mCons (mC (.int 4)) mNil)))))) mNil) E S)
      (fun d S' => Hid (∃ xs ps W', d = .tup xs ∧ BlP 4 xs ps ∧ Stt ns N 0 f W' S' ps ∧ Fw W W' f ∧ ps.length ≤ 864 ∧ vPair N ps)) (fun _ _ => False) := by
  obtain ⟨e0, e1, e2, e3, e4, e5, e6, e7, e8, e9, e10, e11, e12, e13, rfl⟩ : ∃ e0 e1 e2 e3 e4 e5 e6 e7 e8 e9 e10 e11 e12 e13, E = [e0, e1, e2, e3, e4, e5, e6, e7, e8, e9, e10, e11, e12, e13] := by
    match E, hE with
    | [e0, e1, e2, e3, e4, e5, e6, e7, e8, e9, e10, e11, e12, e13], _ => exact ⟨_, _, _, _, _, _, _, _, _, _, _, _, _, _, rfl⟩
  simp only [List.getElem?_cons_zero, List.getElem?_cons_succ, Option.some.injEq] at hE1 hE3 hE7
  subst hE1 hE3 hE7
  obtain ⟨d, S1, h1, d0, d1, td⟩ := t_draw (k := 9) (by omega) 5 (by decide) (by decide) h.dw
  obtain ⟨z, rfl⟩ := Int.eq_ofNat_of_zero_le d0
  have h2 := h.draw h1
  have hlS := dw_len h1
  obtain ⟨lp, lf⟩ := h.lt
  clear h
  replace h2 := hid h2
  walk_at "auto*"
  rw [hlS]
  replace h2 : Stt ns N 0 f W S1 [] := h2
  have hm := h2.more (.lst [])
  have hz5 : z < 5 := by omega
  have hgl : (W ++ [Ob.lst []])[W.length]? = some (.lst []) := by rw [List.getElem?_append_right (Nat.le_refl _), Nat.sub_self]; rfl
  refine ok_compX (fun j S' => Hid (∃ xs ps W', Stt ns N 0 f W' S' ps ∧ Fw W W' f ∧ W.length < W'.length ∧ W'[W.length]? = some (.lst xs) ∧ BlP 4 xs ps ∧ ps.length ≤ j * 216 ∧ xs.length = j ∧ vPair N ps)) _ 0 _ (hid ⟨[], [], _, hm.1, hm.2, by rw [List.length_append]; exact Nat.lt_succ_self _, hgl, rfl, Nat.zero_le _, rfl, fun q hq => by cases hq⟩) (fun _ _ _ => trivial) ?_ ?_
  · clear hm hgl h2 h1 td hlS
    rintro j x Z hj hP
    have hjl := (List.getElem?_eq_some_iff.mp hj).1
    rw [rng_len] at hjl
    rw [Nat.zero_add] at hP ⊢
    obtain ⟨xs, ps, W1, a1, a2, a3, a4, a5, a6, a7, a8⟩ := hP
    have ts := st_all 3 9 (by decide) ns N 0 f W1 Z ps a1 hf hN hN2 (by omega)
    replace ts : OkO ((T 9)._law_statement [.loc 0, .loc 1, .loc (f + 1), .int 4] Z) _ _ := ts
    have fin : ∀ (d : D) (S' : Sto) (q2 : List (Tx × Tx)) (W2 : Sto), Stt ns N 0 f W2 S' (ps ++ q2) → Fw W1 W2 f → StP (BlP 3) d q2 → q2.length ≤ 6 ^ 3 → vPair N q2 →
        S'[W.length + 1]? = some (.lst xs) ∧ xs.length < 16777216 ∧ Hid (∃ xs' ps' W', Stt ns N 0 f W' (S'.set (W.length + 1) (.lst (xs ++ [d]))) ps' ∧ Fw W W' f ∧ W.length < W'.length ∧ W'[W.length]? = some (.lst xs') ∧ BlP 4 xs' ps' ∧ ps'.length ≤ (j + 1) * 216 ∧ xs'.length = j + 1 ∧ vPair N ps') := by
      intro d S' q2 W2 b1 b2 b3 b4 b5
      have c1 : W2[W.length]? = some (.lst xs) := by rw [b2.at_ _ a3 (by omega)]; exact a4
      refine ⟨by rw [dw_get b1.dw]; exact c1, by omega, hid ⟨xs ++ [d], ps ++ q2, W2.set W.length (.lst (xs ++ [d])), ?_, ?_, ?_, ?_, ?_, ?_, ?_, ?_⟩⟩
      · exact b1.oth (by omega) (by omega) _
      · refine ⟨by rw [List.length_set]; exact (a2.trans b2).le, fun m m1 m2 => ?_⟩
        rw [List.getElem?_set_ne (by omega)]
        exact (a2.trans b2).at_ m m1 m2
      · rw [List.length_set]; have := b2.le; omega
      · rw [List.getElem?_set_self (by have := b2.le; omega)]
      · exact LsP.snoc a5 b3
      · rw [List.length_append]; have : (6 : Nat) ^ 3 = 216 := by decide
        omega
      · rw [List.length_append, a7]; rfl
      · exact a8.app b5
    replace fin := hid fin
    clear a1 a2 a3 a4 a5 a6 a8
    generalize W.length + 1 = n0 at *
    walk_at "auto*"
    refine ok_imp ts ?_ (fun _ _ h => h.elim)
    rintro d S' ⟨q2, W2, b1, b2, b3, b4, b5⟩
    obtain ⟨g1, g2, g3⟩ := fin d S' q2 W2 b1 b2 b3 b4 b5
    exact ⟨xs, g1, g2, g3⟩
  · clear hm hgl h2 h1 td hlS
    intro Z hP
    rw [Nat.zero_add, rng_len] at hP
    obtain ⟨xs, ps, W1, a1, a2, a3, a4, a5, a6, a7, a8⟩ := hP
    have hz1 : Z[W.length + 1]? = some (.lst xs) := by rw [dw_get a1.dw]; exact a4
    have fin : Hid (∃ xs' ps W', D.tup xs = .tup xs' ∧ BlP 4 xs' ps ∧ Stt ns N 0 f W' Z ps ∧ Fw W W' f ∧ ps.length ≤ 864 ∧ vPair N ps) := hid ⟨xs, ps, W1, rfl, a5, a1, a2, by omega, a8⟩
    have hxl : xs.length ≤ 100 := by omega
    clear a1 a2 a3 a4 a5 a6 a8
    walk_at "auto*"
/-! k40: a turn of the law, walked -/
structure LJ (ns : List Int) (N : List Tx) (gs : List Pg) (g : Pg) (f : Nat) (W S : Sto) : Prop where
  dw : Dw ns W S
  nm : W[0]? = some (.lst (N.map D.str))
  pr : W[1]? = some (.lst ((gs ++ [g]).map parD))
  du : W[2]? = some (.lst (gs.map (rowT N)))
  fd : W[f]? = some (.lst (g.ps.map pairD))
theorem LJ.more {ns : List Int} {N : List Tx} {gs : List Pg} {g : Pg} {f : Nat} {W S : Sto} (h : LJ ns N gs g f W S) (Y : Sto) : LJ ns N gs g f (W ++ Y) (S ++ Y) := by
  have l : ∀ {m : Nat} {o : Ob}, W[m]? = some o → (W ++ Y)[m]? = some o := fun e => by rw [List.getElem?_append_left (List.getElem?_eq_some_iff.mp e).1]; exact e
  exact ⟨dw_more h.dw Y, l h.nm, l h.pr, l h.du, l h.fd⟩
theorem gIx_idx {S : Sto} {n : Nat} {N : List Tx} (h : S[n]? = some (.lst (N.map D.str))) {x : Tx} (hx : x ∈ N) : gIdx S (.loc n) [.str x] = some (.int (ixN N x : Nat)) := by
  have a : gIdx S (.loc n) [.str x] = gIdx S (.lst (N.map D.str)) [.str x] := by
    unfold gIdx
    simp only [seqF, h]
  have b : OkP (gIdx S (.lst (N.map D.str)) [.str x]) (fun d => d = .int (ixN N x : Nat)) := by
    rw [p_idxL (allStr_map _), strsOf_map, (ix_spec hx).2]
    rfl
  rw [a]
  cases e : gIdx S (.lst (N.map D.str)) [.str x] with
  | none => rw [e] at b; exact b.elim
  | some d => rw [e] at b; exact congrArg some (show d = _ from b)
theorem okS_pairs : ∀ (ps : List (Tx × Tx)), ps.length ≤ 1000 → okS 2 (.tup (ps.map pairD)) = true := fun ps h => by
  simp only [okS, Bool.and_eq_true, decide_eq_true_eq, List.length_map]
  refine ⟨h, ?_⟩
  rw [List.all_eq_true]
  intro d hd
  obtain ⟨q, _, rfl⟩ := List.mem_map.mp hd
  rfl
theorem lw_turn {ns : List Int} {N : List Tx} (hN2 : N.length ≤ 40) {i : Nat} (hi : i < N.length) {gs : List Pg} {W S : Sto} (h : LI ns N i gs W S) {E : Evn} (hE : (∃ u : Nat → Option D, E = [some (.fz (ns.map D.int)), some (.loc 0), some (.int (N.length : Nat)), some (.loc 1), some (.loc 2), some (.loc 3), some (.int (i : Nat)), u 7, u 8, u 9, u 10, u 11, u 12, u 13])) :
    OkS (l_law_2 (T 9) E S) (fun E S' => Hid (∃ gs W, LI ns N (i + 1) gs W S' ∧ (∃ u : Nat → Option D, E = [some (.fz (ns.map D.int)), some (.loc 0), some (.int (N.length : Nat)), some (.loc 1), some (.loc 2), some (.loc 3), u 6, u 7, u 8, u 9, u 10, u 11, u 12, u 13]))) (fun _ _ => False) (fun _ _ _ => False) (fun _ _ => False) (fun _ _ => False) := by
  obtain ⟨u, rfl⟩ := hE
  unfold l_law_2
  have hSl := dw_len h.dw
  have hf3 : 3 ≤ W.length := (List.getElem?_eq_some_iff.mp h.du).1
  refine ok_cut (fun E S' => Hid (S' = S ++ [.lst (([] : List (Tx × Tx)).map pairD)] ∧ (∃ u : Nat → Option D, E = [some (.fz (ns.map D.int)), some (.loc 0), some (.int (N.length : Nat)), some (.loc 1), some (.loc 2), some (.loc 3), some (.int (i : Nat)), some (.loc (W.length + 1)), u 8, u 9, u 10, u 11, u 12, u 13]))) ?_ ?_
  · clear h
    walk_at "auto*"
    refine hid ⟨rfl, ?_⟩
    rw [hSl]
    exact exE rfl
  clear u
  rintro _ _ ⟨rfl, u, rfl⟩
  have hst : Stt ns N 0 W.length (W ++ [.lst (([] : List (Tx × Tx)).map pairD)]) (S ++ [.lst (([] : List (Tx × Tx)).map pairD)]) [] := ⟨dw_app h.dw _, by rw [List.getElem?_append_left (by omega)]; exact h.nm, by rw [List.getElem?_append_right (Nat.le_refl _), Nat.sub_self]; rfl⟩
  refine ok_cut (fun E S' => Hid (∃ xs ps W', BlP 4 xs ps ∧ Stt ns N 0 W.length W' S' ps ∧ Fw (W ++ [.lst (([] : List (Tx × Tx)).map pairD)]) W' W.length ∧ ps.length ≤ 864 ∧ vPair N ps ∧ (∃ u : Nat → Option D, E = [some (.fz (ns.map D.int)), some (.loc 0), some (.int (N.length : Nat)), some (.loc 1), some (.loc 2), some (.loc 3), some (.int (i : Nat)), some (.loc (W.length + 1)), some (.tup xs), u 9, u 10, u 11, u 12, u 13]))) ?_ ?_
  · rw [w_set]
    refine ok_imp (lw_stmts (by omega) hN2 (by omega) hst rfl rfl rfl rfl) ?_ (fun _ _ h => h.elim)
    rintro _ S' ⟨xs, ps, W', rfl, b1, b2, b3, b4, b5⟩
    rw [w_n]
    exact hid ⟨xs, ps, W', b1, b2, b3, b4, b5, exE rfl⟩
  clear u
  rintro _ Z ⟨xs, ps, W1, b1, b2, b3, b4, b5, u, rfl⟩
  have old : ∀ {m : Nat} {o : Ob}, m < W.length → W[m]? = some o → W1[m]? = some o := fun hm e => by rw [b3.at_ _ (by rw [List.length_append]; omega) (by omega), List.getElem?_append_left hm]; exact e
  have c1 := old (by omega) h.pr
  have c2 := old (by omega) h.du
  have hnmi : N[i]? = some N[i] := List.getElem?_eq_getElem hi
  generalize hnm : N[i] = nm at hnmi
  have hle : W.length + 1 ≤ W1.length := by have := b3.le; rw [List.length_append] at this; exact this
  refine ok_cut (fun E S' => Hid ((∃ W', LJ ns N gs ⟨nm, xs, ps⟩ W.length W' S') ∧ (∃ u : Nat → Option D, E = [some (.fz (ns.map D.int)), some (.loc 0), some (.int (N.length : Nat)), some (.loc 1), some (.loc 2), some (.loc 3), some (.int (i : Nat)), some (.loc (W.length + 1)), some (.tup xs), u 9, u 10, u 11, u 12, u 13]))) ?_ ?_
  · have fin : ∃ W', LJ ns N gs ⟨nm, xs, ps⟩ W.length W' (Z.set 2 (.lst (gs.map parD ++ [.tup [.str nm, .tup xs]]))) := by
      refine ⟨W1.set 1 (.lst (gs.map parD ++ [.tup [.str nm, .tup xs]])), dw_set b2.dw 1 _, ?_, ?_, ?_, ?_⟩
      · rw [List.getElem?_set_ne (by decide)]; exact b2.nm
      · rw [List.getElem?_set_self (by omega), List.map_append]; rfl
      · rw [List.getElem?_set_ne (by decide)]; exact c2
      · rw [List.getElem?_set_ne (by omega)]; exact b2.fd
    have z1 : Z[1]? = some (.lst (N.map D.str)) := by rw [show (1 : Nat) = 0 + 1 from rfl, dw_get b2.dw]; exact b2.nm
    have z2 : Z[2]? = some (.lst (gs.map parD)) := by rw [show (2 : Nat) = 1 + 1 from rfl, dw_get b2.dw]; exact c1
    have ix := ix_names z1 hnmi
    have hgl := h.gl
    have hF : (gs.map parD).length ≤ 100 := by rw [List.length_map]; omega
    replace fin := hid fin
    clear h b1 b2 b3 b5 c1 c2 old hst hnm hnmi z1
    generalize gs.map parD = GP at *
    walk_at "auto*"
    exact hid ⟨fin, exE rfl⟩
  clear u b2 b3 old c1 c2 hle
  clear Z W1
  rintro _ Z ⟨⟨W1, hJ⟩, u, rfl⟩
  refine ok_cut (fun E S' => Hid (∃ n W', S'[n]? = some (.lst (ps.map pairD)) ∧ LJ ns N gs ⟨nm, xs, ps⟩ W.length W' S' ∧ (∃ u : Nat → Option D, E = [some (.fz (ns.map D.int)), some (.loc 0), some (.int (N.length : Nat)), some (.loc 1), some (.loc 2), some (.loc 3), some (.int (i : Nat)), some (.loc (W.length + 1)), u 8, some (.loc n), u 10, u 11, u 12, u 13]))) ?_ ?_
  · have tp := t_pf 4 9 (by decide) xs ps Z b1 (by omega)
    have key : ∀ S' n, Gr Z S' n ps → ∃ W', S'[n]? = some (.lst (ps.map pairD)) ∧ LJ ns N gs ⟨nm, xs, ps⟩ W.length W' S' := fun S' n hG => by
      obtain ⟨Y, rfl⟩ := hG.ex
      exact ⟨_, hG.at_, hJ.more Y⟩
    replace key := hid key
    clear h b1 b5 hst hnm hnmi hJ
    walk_at "auto*"
    refine ok_imp tp ?_ (fun _ _ h => h.elim)
    rintro _ S' ⟨n, rfl, hG⟩
    obtain ⟨W', k1, k2⟩ := key S' n hG
    replace k1 := hid k1
    replace k2 := hid k2
    clear key tp hG
    walk_at "auto*"
    exact hid ⟨n, W', k1, k2, exE rfl⟩
  clear u hJ
  clear Z W1
  rintro _ Z ⟨n, W1, hp, hJ, u, rfl⟩
  unfold q_law_1
  refine ok_cut (fun E S' => Hid (Z = S' ∧ (∃ u : Nat → Option D, E = [some (.fz (ns.map D.int)), some (.loc 0), some (.int (N.length : Nat)), some (.loc 1), some (.loc 2), some (.loc 3), some (.int (i : Nat)), some (.loc (W.length + 1)), u 8, u 9, u 10, u 11, u 12, u 13]))) ?_ ?_
  · have zf : Z[W.length + 1]? = some (.lst (ps.map pairD)) := by rw [dw_get hJ.dw]; exact hJ.fd
    have hs := t_same 2 _ (okS_pairs ps (by omega)) 9 (by decide) Z
    have hisi : gIsi Z [.loc n, .ty "list"] = some (.bl true) := by simp [gIsi, hp, isTy]
    clear h b1 b5 hst hnm hnmi hJ
    have hF : (ps.map pairD).length ≤ 1000 := by rw [List.length_map]; omega
    generalize ps.map pairD = PD at *
    walk_at "auto*"
    exact hid ⟨rfl, exE rfl⟩
  clear u hp
  clear n
  rintro _ _ ⟨rfl, u, rfl⟩
  refine ok_cut (fun E S' => Hid (S' = Z ++ [.lst (natL [])] ∧ (∃ u : Nat → Option D, E = [some (.fz (ns.map D.int)), some (.loc 0), some (.int (N.length : Nat)), some (.loc 1), some (.loc 2), some (.loc 3), some (.int (i : Nat)), some (.loc (W.length + 1)), u 8, u 9, some (.loc Z.length), u 11, u 12, u 13]))) ?_ ?_
  · clear h b1 b5 hst hnm hnmi hJ
    walk_at "auto*"
    exact hid ⟨rfl, exE rfl⟩
  clear u
  rintro _ _ ⟨rfl, u, rfl⟩
  have hlZ := dw_len hJ.dw
  have hgi := h.gl
  refine ok_cut (fun E S' => Hid (S' = Z ++ [.lst (natL (plsOf N ps))] ∧ (∃ u : Nat → Option D, E = [some (.fz (ns.map D.int)), some (.loc 0), some (.int (N.length : Nat)), some (.loc 1), some (.loc 2), some (.loc 3), u 6, u 7, u 8, u 9, some (.loc Z.length), u 11, u 12, u 13]))) ?_ ?_
  · clear h b1 hst hnm hnmi
    have z1 : ∀ Y : Sto, (Z ++ Y)[1]? = some (.lst (N.map D.str)) := fun Y => by
      rw [show (1 : Nat) = 0 + 1 from rfl, dw_get (hJ.more Y).dw]; exact (hJ.more Y).nm
    have zf : ∀ Y : Sto, (Z ++ Y)[W.length + 1]? = some (.lst (ps.map pairD)) := fun Y => by
      rw [dw_get (hJ.more Y).dw]; exact (hJ.more Y).fd
    have h0 : natL [] = natL ((List.range 0).filter (hitB N ps)) := rfl
    rw [h0]
    have hW : W.length + 1 < Z.length := by have := (List.getElem?_eq_some_iff.mp hJ.fd).1; omega
    clear hJ hlZ
    walk_at "auto*"
    refine ok_forR (fun j E S' => Hid (S' = Z ++ [.lst (natL ((List.range j).filter (hitB N ps)))] ∧ (∃ u : Nat → Option D, E = [some (.fz (ns.map D.int)), some (.loc 0), some (.int (N.length : Nat)), some (.loc 1), some (.loc 2), some (.loc 3), some (.int (i : Nat)), some (.loc (W.length + 1)), u 8, u 9, some (.loc Z.length), u 11, u 12, u 13]))) (hid ⟨rfl, exE rfl⟩) ?_ ?_
    · clear u
      rintro j _ _ hj ⟨rfl, u, rfl⟩
      have e0 : (0 : Int) + (j : Int) = (j : Int) := Int.zero_add _
      rw [w_gN, e0]
      walk_at "n"
      unfold l_law_1
      have hrs : (List.range (j + 1)).filter (hitB N ps) = (List.range j).filter (hitB N ps) ++ (if hitB N ps j = true then [j] else []) := by
        rw [List.range_succ, List.filter_append]
        congr 1
        rw [List.filter_cons]
        split <;> rfl
      have hput : ∀ o : Ob, (Z ++ [Ob.lst (natL ((List.range j).filter (hitB N ps)))]).set Z.length o = Z ++ [o] := fun o => by rw [List.set_append_right _ _ (Nat.le_refl _), Nat.sub_self]; rfl
      have hg : (Z ++ [Ob.lst (natL ((List.range j).filter (hitB N ps)))])[Z.length]? = some (.lst (natL ((List.range j).filter (hitB N ps)))) := by rw [List.getElem?_append_right (Nat.le_refl _), Nat.sub_self]; rfl
      have hL : (natL ((List.range j).filter (hitB N ps))).length ≤ 100 := by
        unfold natL
        rw [List.length_map]
        have := List.length_filter_le (hitB N ps) (List.range j)
        rw [List.length_range] at this
        omega
      have zf1 := zf [Ob.lst (natL ((List.range j).filter (hitB N ps)))]
      have zf2 : ∀ acc : List D, (Z ++ [Ob.lst (natL ((List.range j).filter (hitB N ps)))] ++ [Ob.lst acc])[W.length + 1]? = some (.lst (ps.map pairD)) := fun acc => by rw [List.append_assoc]; exact zf _
      have zn2 : ∀ acc : List D, (Z ++ [Ob.lst (natL ((List.range j).filter (hitB N ps)))] ++ [Ob.lst acc])[1]? = some (.lst (N.map D.str)) := fun acc => by rw [List.append_assoc]; exact z1 _
      have fin1 : hitB N ps j = true → Hid (Z ++ [.lst (natL ((List.range j).filter (hitB N ps)) ++ [.int (j : Nat)])] = Z ++ [.lst (natL ((List.range (j + 1)).filter (hitB N ps)))]) := fun q => hid (by
        rw [hrs, if_pos q]
        unfold natL
        rw [List.map_append]
        rfl)
      have fin0 : ¬ hitB N ps j = true → Hid (Z ++ [.lst (natL ((List.range j).filter (hitB N ps)))] = Z ++ [.lst (natL ((List.range (j + 1)).filter (hitB N ps)))]) := fun q => hid (by
        rw [hrs, if_neg q, List.append_nil])
      have hlen : ((ps.filter fun q => decide (ixN N q.1 ≤ j) && decide (j ≤ ixN N q.2)).map fun _ => D.int 1).length > 0 ↔ hitB N ps j = true := by
        rw [List.length_map]
        unfold hitB
        rw [List.any_eq_true]
        constructor
        · intro q
          obtain ⟨x, hx⟩ := List.exists_mem_of_length_pos q
          rw [List.mem_filter] at hx
          exact ⟨x, hx.1, hx.2⟩
        · rintro ⟨x, hx, hb⟩
          exact List.length_pos_of_mem (List.mem_filter.mpr ⟨hx, hb⟩)
      have hlen2 : ((ps.filter fun q => decide (ixN N q.1 ≤ j) && decide (j ≤ ixN N q.2)).map fun _ => D.int 1).length ≤ 1000 := by
        rw [List.length_map]
        have := List.length_filter_le (fun q : Tx × Tx => decide (ixN N q.1 ≤ j) && decide (j ≤ ixN N q.2)) ps
        omega
      clear hrs zf z1
      generalize Z ++ [Ob.lst (natL ((List.range j).filter (hitB N ps)))] = Z1 at *
      generalize natL ((List.range j).filter (hitB N ps)) = L0 at *
      walk_at "auto*"
      refine ok_compK (xs := ps) (g := pairD) (fun acc => zf2 acc) (fun q => decide (ixN N q.1 ≤ j) && decide (j ≤ ixN N q.2)) (fun _ => D.int 1) (by omega) (fun q hq acc => ?_) ?_
      · have i1 := gIx_idx (zn2 acc) (b5 q hq).1
        have i2 := gIx_idx (zn2 acc) (b5 q hq).2
        have hst : stN false [12, 13] (pairD q) [some (.fz (ns.map D.int)), some (.loc 0), some (.int (N.length : Nat)), some (.loc 1), some (.loc 2), some (.loc 3), some (.int (i : Nat)), some (.loc (W.length + 1)), u 8, u 9, some (.loc Z.length), some (.int (j : Nat)), none, none] = some [some (.fz (ns.map D.int)), some (.loc 0), some (.int (N.length : Nat)), some (.loc 1), some (.loc 2), some (.loc 3), some (.int (i : Nat)), some (.loc (W.length + 1)), u 8, u 9, some (.loc Z.length), some (.int (j : Nat)), some (.str q.1), some (.str q.2)] := rfl
        have zn3 := zn2 acc
        rw [hst, w_some]
        clear hst zn2 zf2 hlen hlen2 fin0 fin1
        generalize ixN N q.1 = A at *
        generalize ixN N q.2 = B at *
        by_cases q1 : A ≤ j
        · have q1' : (A : Int) ≤ (j : Int) := by omega
          by_cases q2 : j ≤ B
          · have q2' : (j : Int) ≤ (B : Int) := by omega
            rw [decide_eq_true q1, decide_eq_true q2]
            have hlb : lb Z1.length (D.int 1) = true := rfl
            walk_at "auto*"
          · have q2' : ¬ (j : Int) ≤ (B : Int) := by omega
            rw [decide_eq_true q1, decide_eq_false q2]
            walk_at "auto*"
        · have q1' : ¬ (A : Int) ≤ (j : Int) := by omega
          rw [decide_eq_false q1, Bool.false_and]
          walk_at "auto*"
      · clear zn2 zf2
        generalize (ps.filter fun q => decide (ixN N q.1 ≤ j) && decide (j ≤ ixN N q.2)).map (fun _ => D.int 1) = FR at *
        by_cases q : hitB N ps j = true
        · have f1 := fin1 q
          have q2 : (FR.length : Int) > 0 := by have := hlen.mpr q; omega
          clear hlen fin0 fin1
          walk_at "auto*"
          exact hid ⟨(hput _).trans f1, exE rfl⟩
        · have f1 := fin0 q
          have q2 : ¬ (FR.length : Int) > 0 := fun z => q (hlen.mp (by omega))
          clear hlen fin0 fin1
          walk_at "auto*"
          exact hid ⟨f1, exE rfl⟩
    · rintro _ _ ⟨rfl, u, rfl⟩
      exact hid ⟨rfl, exE rfl⟩
  clear u
  rintro _ _ ⟨rfl, u, rfl⟩
  have hM := hJ.more [.lst (natL (plsOf N ps))]
  have hdu : ∃ W', Dw ns W' ((Z ++ [Ob.lst (natL (plsOf N ps))]).set 3 (.lst (gs.map (rowT N) ++ [.tup (natL (plsOf N ps))]))) ∧ LI ns N (i + 1) (gs ++ [(⟨nm, xs, ps⟩ : Pg)]) W' ((Z ++ [Ob.lst (natL (plsOf N ps))]).set 3 (.lst (gs.map (rowT N) ++ [.tup (natL (plsOf N ps))]))) := by
    have hd := dw_set hM.dw 2 (.lst (gs.map (rowT N) ++ [.tup (natL (plsOf N ps))]))
    refine ⟨_, hd, hd, ?_, ?_, ?_, ?_, ?_, ?_⟩
    · rw [List.getElem?_set_ne (by decide)]; exact hM.nm
    · rw [List.getElem?_set_ne (by decide)]; exact hM.pr
    · rw [List.getElem?_set_self (List.getElem?_eq_some_iff.mp hM.du).1, List.map_append]; rfl
    · rw [List.map_append, h.gn, List.take_succ, hnmi]; rfl
    · rw [List.length_append, h.gl]; rfl
    · intro g hg
      rcases List.mem_append.mp hg with hg | hg
      · exact h.gk g hg
      · rw [List.mem_singleton.mp hg]; exact ⟨b1, b5, b4⟩
  obtain ⟨W', _, hLI⟩ := hdu
  have z3 : (Z ++ [Ob.lst (natL (plsOf N ps))])[3]? = some (.lst (gs.map (rowT N))) := by rw [show (3 : Nat) = 2 + 1 from rfl, dw_get hM.dw]; exact hM.du
  have zp : (Z ++ [Ob.lst (natL (plsOf N ps))])[Z.length]? = some (.lst (natL (plsOf N ps))) := by rw [List.getElem?_append_right (Nat.le_refl _), Nat.sub_self]; rfl
  have hF : (gs.map (rowT N)).length ≤ 100 := by rw [List.length_map]; omega
  have hL : (natL (plsOf N ps)).length ≤ 100 := by
    unfold natL plsOf
    rw [List.length_map]
    have := List.length_filter_le (hitB N ps) (List.range N.length)
    rw [List.length_range] at this
    omega
  replace hLI := hid hLI
  clear h hM hJ b1 b5 hst hnm hnmi hlZ
  generalize Z ++ [Ob.lst (natL (plsOf N ps))] = Z1 at *
  generalize natL (plsOf N ps) = PL at *
  generalize gs.map (rowT N) = RW at *
  walk_at "auto*"
  exact hid ⟨_, W', hLI, exE rfl⟩
/-! k40: the law -/
theorem okS_rows {N : List Tx} (h : N.length ≤ 40) : ∀ (gs : List Pg), gs.length ≤ 1000 → okS 2 (.tup (gs.map (rowT N))) = true := fun gs hl => by
  simp only [okS, Bool.and_eq_true, decide_eq_true_eq, List.length_map]
  refine ⟨hl, ?_⟩
  rw [List.all_eq_true]
  intro d hd
  obtain ⟨g, _, rfl⟩ := List.mem_map.mp hd
  have hL : (natL (plsOf N g.ps)).length ≤ 1000 := by
    unfold natL plsOf
    rw [List.length_map]
    have := List.length_filter_le (hitB N g.ps) (List.range N.length)
    rw [List.length_range] at this
    omega
  unfold rowT
  simp only [okS, Bool.and_eq_true, decide_eq_true_eq]
  refine ⟨hL, ?_⟩
  rw [List.all_eq_true]
  intro d hd
  obtain ⟨i, _, rfl⟩ := List.mem_map.mp hd
  rfl
theorem law_true (ns : List Int) (hn : ns.length ≤ 63) : ∃ S', (T 10).law [.fz (ns.map D.int)] [] = .ok (.bl true) S' := by
  suffices h : OkO ((T 10).law [.fz (ns.map D.int)] []) (fun d _ => d = .bl true) (fun _ _ => False) by
    obtain ⟨d, S', e, rfl⟩ := ok_get h
    exact ⟨S', e⟩
  rw [show (10 : Nat) = 9 + 1 from rfl, T_law]
  unfold b_law q_law_2
  walk_at "run"
  refine ok_cut (fun E S' => Hid (Dw ns [] S' ∧ E = [some (.fz (ns.map D.int)), some (.loc 0), none, none, none, none, none, none, none, none, none, none, none, none])) ?_ ?_
  · have td := t_draws (k := 9) (by omega) ns
    walk_at "auto*"
    refine ok_imp td ?_ (fun _ _ h => h.elim)
    rintro _ S ⟨rfl, h⟩
    walk_at "auto*"
    exact hid ⟨h, rfl⟩
  rintro _ S ⟨h, rfl⟩
  refine ok_cut (fun E S' => Hid (∃ c : Nat, 1 ≤ c ∧ c ≤ 40 ∧ Dw ns [] S' ∧ E = [some (.fz (ns.map D.int)), some (.loc 0), some (.int (c : Nat)), none, none, none, none, none, none, none, none, none, none, none])) ?_ ?_
  · obtain ⟨d, S1, h1, d0, d1, td⟩ := t_draw (k := 9) (by omega) 5 (by decide) (by decide) h
    obtain ⟨d2, S2, h2, d3, d4, td2⟩ := t_draw (k := 9) (by omega) 9 (by decide) (by decide) h1
    obtain ⟨d5, S5, h5, d6, d7, td5⟩ := t_draw (k := 9) (by omega) 40 (by decide) (by decide) h1
    obtain ⟨c2, hc2⟩ : ∃ c : Nat, 1 + d2 = (c : Int) := ⟨(1 + d2).toNat, by omega⟩
    obtain ⟨c5, hc5⟩ : ∃ c : Nat, 1 + d5 = (c : Int) := ⟨(1 + d5).toNat, by omega⟩
    replace h2 := hid h2
    replace h5 := hid h5
    clear h h1
    by_cases q : d = 0
    · have q0 : ([D.int 9, .int 40] : List D)[Int.toNat 1]? = some (.int 40) := rfl
      walk_at "auto*"
      exact hid ⟨c5, by omega, by omega, h5, rfl⟩
    · have q0 : ([D.int 9, .int 40] : List D)[Int.toNat 0]? = some (.int 9) := rfl
      walk_at "auto*"
      exact hid ⟨c2, by omega, by omega, h2, rfl⟩
  clear h
  clear S
  rintro _ S ⟨c, c1, c2, h, rfl⟩
  refine ok_cut (fun E S' => Hid (∃ N : List Tx, N.Nodup ∧ N.length = c ∧ Dw ns [.lst (N.map D.str)] S' ∧ E = [some (.fz (ns.map D.int)), some (.loc 0), some (.int (c : Nat)), some (.loc 1), none, none, none, none, none, none, none, none, none, none])) ?_ ?_
  · have tn := t_names (k := 9) (by omega) h c c2
    clear h
    walk_at "auto*"
    refine ok_imp tn ?_ (fun _ _ h => h.elim)
    rintro _ S' ⟨N, n1, n2, rfl, n4⟩
    replace n1 := hid n1
    replace n4 := hid n4
    walk_at "auto*"
    exact hid ⟨N, n1, n2, n4, rfl⟩
  clear h
  clear S
  rintro _ S ⟨N, n1, rfl, h, rfl⟩
  have hl := dw_len h
  refine ok_cut (fun E S' => Hid (S' = S ++ [.lst []] ∧ E = [some (.fz (ns.map D.int)), some (.loc 0), some (.int (N.length : Nat)), some (.loc 1), some (.loc 2), none, none, none, none, none, none, none, none, none])) ?_ ?_
  · clear h n1
    walk_at "auto*"
    exact hid ⟨rfl, by rw [hl]; rfl⟩
  rintro _ _ ⟨rfl, rfl⟩
  refine ok_cut (fun E S' => Hid (S' = S ++ [.lst [], .lst []] ∧ E = [some (.fz (ns.map D.int)), some (.loc 0), some (.int (N.length : Nat)), some (.loc 1), some (.loc 2), some (.loc 3), none, none, none, none, none, none, none, none])) ?_ ?_
  · clear h n1
    have hl2 : (S ++ [Ob.lst []]).length = 3 := by rw [List.length_append, hl]; rfl
    walk_at "auto*"
    exact hid ⟨rfl, by rw [hl2]⟩
  rintro _ _ ⟨rfl, rfl⟩
  have h0 : LI ns N 0 [] [.lst (N.map D.str), .lst [], .lst []] (S ++ [.lst [], .lst []]) := ⟨dw_more h [.lst [], .lst []], rfl, rfl, rfl, by simp, rfl, fun g hg => by cases hg⟩
  refine ok_cut (fun E S' => Hid (∃ gs W, LI ns N N.length gs W S' ∧ (∃ u : Nat → Option D, E = [some (.fz (ns.map D.int)), some (.loc 0), some (.int (N.length : Nat)), some (.loc 1), some (.loc 2), some (.loc 3), u 6, u 7, u 8, u 9, u 10, u 11, u 12, u 13]))) ?_ ?_
  · replace h0 := hid h0
    clear h n1
    generalize S ++ [Ob.lst [], Ob.lst []] = Z at *
    walk_at "auto*"
    refine ok_forR (fun i E S' => Hid (∃ gs W, LI ns N i gs W S' ∧ (∃ u : Nat → Option D, E = [some (.fz (ns.map D.int)), some (.loc 0), some (.int (N.length : Nat)), some (.loc 1), some (.loc 2), some (.loc 3), u 6, u 7, u 8, u 9, u 10, u 11, u 12, u 13]))) (hid ⟨[], _, h0, exE rfl⟩) ?_ ?_
    · clear h0
      clear Z
      rintro i _ Z hi ⟨gs, W, h0, u, rfl⟩
      have e0 : (0 : Int) + (i : Int) = (i : Int) := Int.zero_add _
      rw [w_gN, e0]
      walk_at "n"
      exact oks_imp (lw_turn c2 hi h0 (exE rfl)) (fun _ _ h => h) (fun _ _ h => h.elim) (fun _ _ _ h => h.elim) (fun _ _ h => h.elim) (fun _ _ h => h.elim)
    · rintro _ Z h
      exact h
  clear h0 h hl
  clear S
  rintro _ S ⟨gs, W, h0, u, rfl⟩
  have hgn : gs.map (·.nm) = N := by rw [h0.gn, List.take_length]
  have z2 : S[2]? = some (.lst (gs.map parD)) := by rw [show (2 : Nat) = 1 + 1 from rfl, dw_get h0.dw]; exact h0.pr
  have z3 : S[3]? = some (.lst (gs.map (rowT N))) := by rw [show (3 : Nat) = 2 + 1 from rfl, dw_get h0.dw]; exact h0.du
  have hgl := h0.gl
  have tg := t_graph (k := 9) (l := 4) (by decide) (gs := gs) (by rw [hgn]; exact n1) (by omega) (fun g hg => ⟨(h0.gk g hg).1, by rw [hgn]; exact (h0.gk g hg).2.1, by have := (h0.gk g hg).2.2; omega⟩) S
  rw [hgn] at tg
  have hok := okS_rows c2 gs (by omega)
  have hs := t_same 2 _ hok 9 (by decide)
  have hF : (gs.map parD).length ≤ 100 := by rw [List.length_map]; omega
  have hF2 : (gs.map (rowT N)).length ≤ 100 := by rw [List.length_map]; omega
  have z30 := (List.getElem?_eq_some_iff.mp z3).1
  clear h0 hgn hok n1
  generalize gs.map parD = GP at *
  generalize gs.map (rowT N) = RW at *
  walk_at "auto*"
  refine ok_imp tg ?_ (fun _ _ h => h.elim)
  rintro _ S' ⟨hfp, rfl⟩
  have z4 : S'[3]? = some (.lst RW) := by rw [hfp.at_ 3 z30]; exact z3
  walk_at "auto*"
end Law
open PySem PySem.W PySem.Calls PyProof.Rows
set_option maxRecDepth 100000 in
set_option maxHeartbeats 0 in
theorem PySem.Challenge.cw_cardwright_k40_performed_paragraphs_holds : PySem.Challenge.rw_cardwright_k40_performed_paragraphs.Holds := by
  w_on; o_law
  refine HandSHeadRun.head_any (r := OpenLaw.row PySem.Challenge.rw_cardwright_k40_performed_paragraphs) (q := view (OpenLaw.row PySem.Challenge.rw_cardwright_k40_performed_paragraphs).prog [13]) (H := Law.hk) (ob := Law.ob) (M := 1440) (loose := Law.loose) (d := HandSHeadRun.topDef (OpenLaw.row PySem.Challenge.rw_cardwright_k40_performed_paragraphs).prog 13) (kwd := []) Law.ob_eq
    (by kernel_rfl) (fun s => by kernel_rfl) Law.run (by kernel_rfl) (by kernel_rfl) (by kernel_rfl) (by rfl) (by first | assumption | decide +kernel) (by decide +kernel) ⟨rfl, rfl, rfl, rfl, rfl, by decide +kernel⟩ ?hw ?hc
  case hw => w_witness2
  case hc =>
    refine PD.walk_WB (l := PySem.Challenge.rw_cardwright_k40_performed_paragraphs) (n := 63) (k := PD.lv (9 + 1)) (x := "script") (m := fun b => (@Law.T ⟨b⟩ (9 + 1)).law) rfl (by decide) (by kernel_rfl) ⟨rfl, by decide, by decide⟩ ?F fun b => @Law.law_true ⟨b⟩
    intro w mg fa h Y G hmg0
    letI : PD.WB := ⟨w.params.followText "set-order"⟩
    obtain ⟨K, KX, c, c2⟩ := Y
    have hmg : mg ("law" : PySem.Str) = some (.ref fa) := by
      have e : (HandSHeadRun.topDef (OpenLaw.row PySem.Challenge.rw_cardwright_k40_performed_paragraphs).prog 13).name = ("law" : PySem.Str) := by kernel_rfl
      rw [← e]
      exact hmg0
    have x := Law.facts KX G c c2
    obtain ⟨fd, F⟩ := c.def_ 11 (d := Law.e_law) rfl
    refine ⟨K, fd, KX, fun s u => L2.FunD.bindsA (ps := ["script"]) F (fun _ _ _ _ _ _ us hl => match us, hl with | [_], _ => rfl) s [u] rfl, fun base _ _ => ?_⟩
    exact PD.law_fn F (He.glo_ok KX G (c.fact 11 rfl)) hmg Law.sc_law fun f cdv A outer s H E hr => Law.d_law (Law.gs_all x rfl 9) (PD.lv_ge 9) hr
#print axioms PySem.Challenge.cw_cardwright_k40_performed_paragraphs_holds
