import PyProof.Rows.All
import Wide.All
import OpenK.AllK
import Wide.FinOn
import HandS.ForMost
import HandS.ForExc
import HandS.Wide
import HandS.WideMore
import HandS.Defaults
import HandS.CallSlots
import HandS.IsInst
import HandS.Flow
import HandS.TupAny
import HandS.StrMore
import HandS.HeadHook2
import KE.KStateDown
import Lean
import HandS.Head0
import HandS.Head1
import HandS.Head2
import HandS.HeadEnd
import HandS.HeadHook1
import HandS.WordsExc
import HandS.TryOnly
import HandS.ExcIs
import HandS.ExcField
import PySem.Challenge.RW_cardwright_k03_cutting_and_rounding
set_option Elab.async false
set_option linter.all false
set_option maxRecDepth 100000
set_option maxHeartbeats 4000000
/-! PyD: values as plain data, a store that is counted, defs as plain functions. -/
namespace PD
open PySem PySem.Spec PyProof.Rows L2

abbrev Tx := List Nat
/-- a size within the line; no decision of it is ever run -/
def sizeOk (n : Nat) : Prop := n ≤ sizeLine
/-- plain data; loc n: the n-th thing of the store -/
inductive D where
  | non | bl (b : Bool) | int (i : Int) | str (x : Tx) | tup (xs : List D) | lst (xs : List D) | fz (xs : List D) | loc (n : Nat) | ty (n : String) | glo (x : String) | exo
inductive Ob where
  | lst (xs : List D)
  | dic (kvs : List (Key × D))
  | set (S : Int → Bool) (n : Nat)
  | ins (c : Str) (fs : List (Str × D))
abbrev Sto := List Ob
/-- an error's class -/
inductive Cl where
  | own (x : String) | bi (n : String)
structure Exn where
  cls : Cl
  fs : Option (List (Str × D))
inductive Out (α : Type) where
  | ok (a : α) (S : Sto)
  | ex (e : Exn) (S : Sto)
  | bad
def Out.bind {α β : Type} : Out α → (α → Sto → Out β) → Out β
  | .ok a S, f => f a S
  | .ex e S, _ => .ex e S
  | .bad, _ => .bad
@[simp] theorem bind_ok {α β : Type} (a : α) (S : Sto) (f : α → Sto → Out β) : (Out.ok a S).bind f = f a S := rfl
@[simp] theorem bind_ex {α β : Type} (e : Exn) (S : Sto) (f : α → Sto → Out β) : (Out.ex e S).bind f = .ex e S := rfl
@[simp] theorem bind_bad {α β : Type} (f : α → Sto → Out β) : (Out.bad : Out α).bind f = .bad := rfl
abbrev Evn := List (Option D)
abbrev ME := Evn → Sto → Out D
abbrev MT := Evn → Sto → Out Bool
abbrev MA := Evn → Sto → Out (List D)
/-- a def's own meaning -/
abbrev MF := List D → Sto → Out D
inductive SO where
  | nx (E : Evn) (S : Sto)
  | rt (d : D) (S : Sto)
  | bk (E : Evn) (S : Sto)
  | ct (E : Evn) (S : Sto)
  | ex (e : Exn) (E : Evn) (S : Sto)
  | bad
abbrev MS := Evn → Sto → SO
def Out.toS {α : Type} (E : Evn) : Out α → (α → Sto → SO) → SO
  | .ok a S, f => f a S
  | .ex e S, _ => .ex e E S
  | .bad, _ => .bad
@[simp] theorem toS_ok {α : Type} (E : Evn) (a : α) (S : Sto) (f : α → Sto → SO) : (Out.ok a S).toS E f = f a S := rfl
@[simp] theorem toS_ex {α : Type} (E : Evn) (e : Exn) (S : Sto) (f : α → Sto → SO) : (Out.ex e S).toS E f = .ex e E S := rfl
@[simp] theorem toS_bad {α : Type} (E : Evn) (f : α → Sto → SO) : (Out.bad : Out α).toS E f = .bad := rfl

/-! ### what the data stand for -/
def KL (K : PySem.W.Frag) (a : Addr) (xs : List V) : Prop :=
  ∃ (o : Obj) (its : Array Value) (n : Nat), K.lookup a = some o ∧ o.cls = .type "list" ∧ o.dict = none ∧ o.data = .seq its n ∧ its.size ≤ sizeLine ∧ Vals xs its.toList
def LstP (ρ : List Addr) (H : Hp) (a : Addr) (vs : List V) : Prop := a ∉ ρ ∧ H a = some (.lst vs)
/-- a list that is locked, or stands in the written part -/
def FzP (K : PySem.W.Frag) (H : Hp) (a : Addr) (vs : List V) : Prop := (∃ o, H a = some (.frz o (.lst vs))) ∨ KL K a vs
def sv (x : Tx) : V := .str ⟨x.toArray⟩
mutual
def DV (K : PySem.W.Frag) (ρ : List Addr) (H : Hp) : D → V → Prop
  | .non, v => v = .non
  | .bl b, v => v = .bl b
  | .int i, v => v = .int i
  | .str x, v => v = sv x
  | .tup xs, v => ∃ a vs, v = .ref a ∧ SqT K H a vs ∧ DVs K ρ H xs vs
  | .lst xs, v => ∃ a vs, v = .ref a ∧ LstP ρ H a vs ∧ DVs K ρ H xs vs
  | .fz xs, v => ∃ a vs, v = .ref a ∧ FzP K H a vs ∧ DVs K ρ H xs vs
  | .loc n, v => ∃ a, v = .ref a ∧ ρ[n]? = some a
  | .ty n, v => v = .ty n
  | .glo x, v => v = .ref (He.ga K x)
  | .exo, v => ∃ a, v = .ref a
def DVs (K : PySem.W.Frag) (ρ : List Addr) (H : Hp) : List D → List V → Prop
  | [], vs => vs = []
  | x :: xs, vs => ∃ v r, vs = v :: r ∧ DV K ρ H x v ∧ DVs K ρ H xs r
end
/-- the world goes on -/
structure Ext (K : PySem.W.Frag) (ρ : List Addr) (H : Hp) (ρ' : List Addr) (H' : Hp) : Prop where
  pre : ∃ t, ρ' = ρ ++ t
  tup : ∀ a vs, SqT K H a vs → SqT K H' a vs
  lst : ∀ a vs, a ∉ ρ → H a = some (.lst vs) → a ∉ ρ' ∧ H' a = some (.lst vs)
  fz : ∀ a o vs, H a = some (.frz o (.lst vs)) → H' a = some (.frz o (.lst vs))
  xd : ∀ a fs, H a = some (.xd fs) → H' a = some (.xd fs)
theorem Ext.refl {K : PySem.W.Frag} {ρ : List Addr} {H : Hp} : Ext K ρ H ρ H := ⟨⟨[], by simp⟩, fun _ _ h => h, fun _ _ h g => ⟨h, g⟩, fun _ _ _ h => h, fun _ _ h => h⟩
theorem Ext.trans {K : PySem.W.Frag} {ρ ρ1 ρ2 : List Addr} {H H1 H2 : Hp} (a : Ext K ρ H ρ1 H1) (b : Ext K ρ1 H1 ρ2 H2) : Ext K ρ H ρ2 H2 := by
  obtain ⟨t, rfl⟩ := a.pre
  obtain ⟨u, rfl⟩ := b.pre
  refine ⟨⟨t ++ u, by simp⟩, fun x vs h => b.tup x vs (a.tup x vs h), fun x vs h g => ?_, fun x o vs h => b.fz x o vs (a.fz x o vs h), fun x fs h => b.xd x fs (a.xd x fs h)⟩
  obtain ⟨h1, g1⟩ := a.lst x vs h g
  exact b.lst x vs h1 g1
theorem LstP.mono {K : PySem.W.Frag} {ρ ρ' : List Addr} {H H' : Hp} (e : Ext K ρ H ρ' H') {a : Addr} {vs : List V} (h : LstP ρ H a vs) : LstP ρ' H' a vs := e.lst a vs h.1 h.2
theorem LstP.seq {K : PySem.W.Frag} {ρ : List Addr} {H : Hp} {a : Addr} {vs : List V} (h : LstP ρ H a vs) : SqL K H a vs := SqL.of h.2
theorem FzP.mono {K : PySem.W.Frag} {ρ ρ' : List Addr} {H H' : Hp} (e : Ext K ρ H ρ' H') {a : Addr} {vs : List V} (h : FzP K H a vs) : FzP K H' a vs := by
  rcases h with ⟨o, h⟩ | h
  · exact .inl ⟨o, e.fz a o vs h⟩
  · exact .inr h
theorem FzP.seq {K : PySem.W.Frag} {H : Hp} {a : Addr} {vs : List V} (h : FzP K H a vs) : SqL K H a vs := by
  rcases h with ⟨o, h⟩ | h
  · exact .inl (.inr ⟨o, h⟩)
  · exact .inr h
theorem FzP.of {K : PySem.W.Frag} {H : Hp} {a : Addr} {vs : List V} (h : SqL K H a vs) : (∃ o, H a = some (.frz o (.lst vs))) ∨ KL K a vs ∨ H a = some (.lst vs) := by
  rcases h with (h | ⟨o, h⟩) | h
  · exact .inr (.inr h)
  · exact .inl ⟨o, h⟩
  · exact .inr (.inl h)
mutual
theorem DV.mono {K : PySem.W.Frag} {ρ ρ' : List Addr} {H H' : Hp} (e : Ext K ρ H ρ' H') : ∀ (d : D) (v : V), DV K ρ H d v → DV K ρ' H' d v
  | .non, _, h => by simp only [DV] at h ⊢; exact h
  | .bl _, _, h => by simp only [DV] at h ⊢; exact h
  | .int _, _, h => by simp only [DV] at h ⊢; exact h
  | .str _, _, h => by simp only [DV] at h ⊢; exact h
  | .ty _, _, h => by simp only [DV] at h ⊢; exact h
  | .glo _, _, h => by simp only [DV] at h ⊢; exact h
  | .exo, _, h => by simp only [DV] at h ⊢; exact h
  | .tup xs, _, h => by
    simp only [DV] at h ⊢
    obtain ⟨a, vs, rfl, h1, h2⟩ := h
    exact ⟨a, vs, rfl, e.tup _ _ h1, DVs.mono e xs vs h2⟩
  | .lst xs, _, h => by
    simp only [DV] at h ⊢
    obtain ⟨a, vs, rfl, h1, h2⟩ := h
    exact ⟨a, vs, rfl, h1.mono e, DVs.mono e xs vs h2⟩
  | .fz xs, _, h => by
    simp only [DV] at h ⊢
    obtain ⟨a, vs, rfl, h1, h2⟩ := h
    exact ⟨a, vs, rfl, h1.mono e, DVs.mono e xs vs h2⟩
  | .loc n, _, h => by
    simp only [DV] at h ⊢
    obtain ⟨a, rfl, h1⟩ := h
    obtain ⟨t, rfl⟩ := e.pre
    exact ⟨a, rfl, by rw [List.getElem?_append_left (List.getElem?_eq_some_iff.mp h1).1]; exact h1⟩
theorem DVs.mono {K : PySem.W.Frag} {ρ ρ' : List Addr} {H H' : Hp} (e : Ext K ρ H ρ' H') : ∀ (ds : List D) (vs : List V), DVs K ρ H ds vs → DVs K ρ' H' ds vs
  | [], _, h => by simp only [DVs] at h ⊢; exact h
  | x :: xs, _, h => by
    simp only [DVs] at h ⊢
    obtain ⟨v, r, rfl, h1, h2⟩ := h
    exact ⟨v, r, rfl, DV.mono e x v h1, DVs.mono e xs r h2⟩
end
theorem DVs.length {K : PySem.W.Frag} {ρ : List Addr} {H : Hp} : ∀ {ds : List D} {vs : List V}, DVs K ρ H ds vs → ds.length = vs.length
  | [], _, h => by simp only [DVs] at h; subst h; rfl
  | x :: xs, _, h => by
    simp only [DVs] at h
    obtain ⟨v, r, rfl, h1, h2⟩ := h
    simp [DVs.length h2]
theorem DVs.get {K : PySem.W.Frag} {ρ : List Addr} {H : Hp} : ∀ {ds : List D} {vs : List V} {i : Nat} {d : D}, DVs K ρ H ds vs → ds[i]? = some d → ∃ v, vs[i]? = some v ∧ DV K ρ H d v
  | [], _, _, _, _, e => by simp at e
  | x :: xs, _, i, d, h, e => by
    simp only [DVs] at h
    obtain ⟨v, r, rfl, h1, h2⟩ := h
    cases i with
    | zero => simp at e; subst e; exact ⟨v, rfl, h1⟩
    | succ i =>
      obtain ⟨u, q1, q2⟩ := DVs.get (i := i) (d := d) h2 (by simpa using e)
      exact ⟨u, by simpa using q1, q2⟩
theorem DVs.getV {K : PySem.W.Frag} {ρ : List Addr} {H : Hp} {ds : List D} {vs : List V} {i : Nat} {v : V} (h : DVs K ρ H ds vs) (e : vs[i]? = some v) : ∃ d, ds[i]? = some d ∧ DV K ρ H d v := by
  have hl := h.length
  have hi : i < vs.length := (List.getElem?_eq_some_iff.mp e).1
  obtain ⟨u, q1, q2⟩ := h.get (i := i) (d := ds[i]'(by omega)) (List.getElem?_eq_getElem _)
  rw [e] at q1
  cases q1
  exact ⟨_, List.getElem?_eq_getElem _, q2⟩
theorem DVs.append {K : PySem.W.Frag} {ρ : List Addr} {H : Hp} : ∀ {ds es : List D} {vs us : List V}, DVs K ρ H ds vs → DVs K ρ H es us → DVs K ρ H (ds ++ es) (vs ++ us)
  | [], _, _, _, h, g => by simp only [DVs] at h; subst h; simpa using g
  | x :: xs, _, _, _, h, g => by
    simp only [DVs] at h
    obtain ⟨v, r, rfl, h1, h2⟩ := h
    simp only [List.cons_append, DVs]
    exact ⟨v, _, rfl, h1, DVs.append h2 g⟩
theorem DVs.take {K : PySem.W.Frag} {ρ : List Addr} {H : Hp} : ∀ {ds : List D} {vs : List V} (n : Nat), DVs K ρ H ds vs → DVs K ρ H (ds.take n) (vs.take n)
  | _, _, 0, _ => by simp [DVs]
  | [], _, n + 1, h => by simp only [DVs] at h; subst h; simp [DVs]
  | x :: xs, _, n + 1, h => by
    simp only [DVs] at h
    obtain ⟨v, r, rfl, h1, h2⟩ := h
    simp only [List.take_succ_cons, DVs]
    exact ⟨v, _, rfl, h1, DVs.take n h2⟩
theorem DVs.drop {K : PySem.W.Frag} {ρ : List Addr} {H : Hp} : ∀ {ds : List D} {vs : List V} (n : Nat), DVs K ρ H ds vs → DVs K ρ H (ds.drop n) (vs.drop n)
  | _, _, 0, h => by simpa using h
  | [], _, n + 1, h => by simp only [DVs] at h; subst h; simp [DVs]
  | x :: xs, _, n + 1, h => by
    simp only [DVs] at h
    obtain ⟨v, r, rfl, h1, h2⟩ := h
    simpa using DVs.drop n h2
theorem DVs.set {K : PySem.W.Frag} {ρ : List Addr} {H : Hp} {d : D} {v : V} (q : DV K ρ H d v) : ∀ {ds : List D} {vs : List V} (n : Nat), DVs K ρ H ds vs → DVs K ρ H (ds.set n d) (vs.set n v)
  | [], _, _, h => by simp only [DVs] at h; subst h; simp [DVs]
  | x :: xs, _, 0, h => by
    simp only [DVs] at h
    obtain ⟨w, r, rfl, h1, h2⟩ := h
    simp only [List.set_cons_zero, DVs]
    exact ⟨v, r, rfl, q, h2⟩
  | x :: xs, _, n + 1, h => by
    simp only [DVs] at h
    obtain ⟨w, r, rfl, h1, h2⟩ := h
    simp only [List.set_cons_succ, DVs]
    exact ⟨w, _, rfl, h1, DVs.set q n h2⟩
theorem DVs.reverse {K : PySem.W.Frag} {ρ : List Addr} {H : Hp} : ∀ {ds : List D} {vs : List V}, DVs K ρ H ds vs → DVs K ρ H ds.reverse vs.reverse
  | [], _, h => by simp only [DVs] at h; subst h; simp [DVs]
  | x :: xs, _, h => by
    simp only [DVs] at h
    obtain ⟨w, r, rfl, h1, h2⟩ := h
    simp only [List.reverse_cons]
    exact (DVs.reverse h2).append (by simp only [DVs]; exact ⟨w, [], rfl, h1, rfl⟩)
theorem DVs.one {K : PySem.W.Frag} {ρ : List Addr} {H : Hp} {d : D} {v : V} (h : DV K ρ H d v) : DVs K ρ H [d] [v] := by simp only [DVs]; exact ⟨v, [], rfl, h, rfl⟩

/-- what stands at a place of the store -/
def OR (K : PySem.W.Frag) (ρ : List Addr) (H : Hp) (a : Addr) : Ob → Prop
  | .lst xs => ∃ vs, H a = some (.lst vs) ∧ DVs K ρ H xs vs
  | .dic kvs => ∃ vs : List V, H a = some (.dK ((kvs.map (·.1)).zip vs)) ∧ DVs K ρ H (kvs.map (·.2)) vs
  | .set S n => H a = some (.set S n)
  | .ins c fs => ∃ dx vs, H a = some (.ins (He.ga K c) dx ((fs.map (·.1)).zip vs)) ∧ DVs K ρ H (fs.map (·.2)) vs
structure Rel (K : PySem.W.Frag) (ρ : List Addr) (S : Sto) (H : Hp) : Prop where
  len : ρ.length = S.length
  nd : ρ.Nodup
  at_ : ∀ (n : Nat) (o : Ob) (a : Addr), S[n]? = some o → ρ[n]? = some a → OR K ρ H a o
/-- an error as it lies -/
def Cl.val (K : PySem.W.Frag) : Cl → Value
  | .own x => .ref (He.ga K x)
  | .bi n => .type n
def XR (K : PySem.W.Frag) (ρ : List Addr) (H : Hp) (e : Exn) (c : Value) (dx : Option Addr) : Prop :=
  c = e.cls.val K ∧ match e.fs with
    | none => dx = none
    | some fs => ∃ d vs, dx = some d ∧ H d = some (.xd ((fs.map (·.1)).zip vs)) ∧ DVs K ρ H (fs.map (·.2)) vs
abbrev XQ := Value → Option Addr → Hp → Prop
/-- how an outcome lies in the heap -/
def Post {α β : Type} (K : PySem.W.Frag) (R : List Addr → Hp → α → β → Prop) (ρ : List Addr) (H : Hp) (Q : β → Hp → Prop) (Z : XQ) : Out α → Prop
  | .ok d S' => ∀ ρ' H' v, Rel K ρ' S' H' → Ext K ρ H ρ' H' → R ρ' H' d v → Q v H'
  | .ex e S' => ∀ ρ' H' c dx, Rel K ρ' S' H' → Ext K ρ H ρ' H' → XR K ρ' H' e c dx → Z c dx H'
  | .bad => False
theorem Post.start {α β : Type} {K : PySem.W.Frag} {R : List Addr → Hp → α → β → Prop} {ρ ρ1 : List Addr} {H H1 : Hp} {Q : β → Hp → Prop} {Z : XQ} {o : Out α} (h : Post K R ρ H Q Z o) (e : Ext K ρ H ρ1 H1) : Post K R ρ1 H1 Q Z o := by
  cases o with
  | ok d S => exact fun ρ' H' v r x => h ρ' H' v r (e.trans x)
  | ex d S => exact fun ρ' H' c dx r x => h ρ' H' c dx r (e.trans x)
  | bad => exact h
theorem Post.imp {α β : Type} {K : PySem.W.Frag} {R : List Addr → Hp → α → β → Prop} {ρ : List Addr} {H : Hp} {Q Q' : β → Hp → Prop} {Z : XQ} {o : Out α} (h : Post K R ρ H Q Z o) (i : ∀ v H', Q v H' → Q' v H') : Post K R ρ H Q' Z o := by
  cases o with
  | ok d S => exact fun ρ' H' v r x y => i _ _ (h ρ' H' v r x y)
  | ex d S => exact h
  | bad => exact h
theorem Post.bind {α β γ δ : Type} {K : PySem.W.Frag} {R : List Addr → Hp → α → β → Prop} {R2 : List Addr → Hp → γ → δ → Prop} {ρ : List Addr} {H : Hp} {Q : δ → Hp → Prop} {Z : XQ} {o : Out α} {f : α → Sto → Out γ} (h : Post K R2 ρ H Q Z (o.bind f)) :
    Post K R ρ H (fun v H1 => ∃ ρ1 S1 d, Rel K ρ1 S1 H1 ∧ Ext K ρ H ρ1 H1 ∧ R ρ1 H1 d v ∧ Post K R2 ρ1 H1 Q Z (f d S1)) Z o := by
  cases o with
  | ok d S => exact fun ρ' H' v r x y => ⟨ρ', S, d, r, x, y, Post.start h x⟩
  | ex d S => exact h
  | bad => exact h
/-- what is wanted of an error; what holds meanwhile -/
structure WW (K : PySem.W.Frag) where
  w : WX
  g : List Addr → Hp → Prop
  gm : ∀ ρ H ρ' H', Ext K ρ H ρ' H' → g ρ H → g ρ' H'
  /-- a name that holds a caught error, where there is one: nothing is stored meanwhile -/
  fix : Option (Nat × Addr)
def WW.of {K : PySem.W.Frag} (w : WX) : WW K := ⟨w, fun _ _ => True, fun _ _ _ _ _ _ => trivial, none⟩
theorem XR.mono {K : PySem.W.Frag} {ρ ρ' : List Addr} {H H' : Hp} (x : Ext K ρ H ρ' H') {e : Exn} {c : Value} {dx : Option Addr} (h : XR K ρ H e c dx) : XR K ρ' H' e c dx := by
  obtain ⟨h1, h2⟩ := h
  refine ⟨h1, ?_⟩
  cases q : e.fs with
  | none => rw [q] at h2; exact h2
  | some fs =>
    rw [q] at h2
    obtain ⟨d, vs, a1, a2, a3⟩ := h2
    exact ⟨d, vs, a1, x.xd _ _ a2, DVs.mono x _ _ a3⟩
def ER (K : PySem.W.Frag) (W : WW K) (ρ : List Addr) (H : Hp) (E : Evn) (σ : L2.St) : Prop := W.g ρ H ∧ (∀ i a, W.fix = some (i, a) → σ[i]? = some (some (.ref a))) ∧ E.length = σ.length ∧ ∀ (i : Nat) (d : D), E[i]? = some (some d) → ∃ v, σ[i]? = some (some v) ∧ DV K ρ H d v
theorem ER.mono {K : PySem.W.Frag} {W : WW K} {ρ ρ' : List Addr} {H H' : Hp} (e : Ext K ρ H ρ' H') {E : Evn} {σ : L2.St} (h : ER K W ρ H E σ) : ER K W ρ' H' E σ :=
  ⟨W.gm _ _ _ _ e h.1, h.2.1, h.2.2.1, fun i d q => let ⟨v, a, b⟩ := h.2.2.2 i d q; ⟨v, a, DV.mono e d v b⟩⟩
theorem ER.set {K : PySem.W.Frag} {W : WW K} {ρ : List Addr} {H : Hp} {E : Evn} {σ : L2.St} (hw : W.fix = none) (h : ER K W ρ H E σ) (i : Nat) {d : D} {v : V} (q : DV K ρ H d v) : ER K W ρ H (E.set i (some d)) (σ.set i (some v)) := by
  refine ⟨h.1, fun j a z => (by rw [hw] at z; cases z), by simpa using h.2.2.1, fun j u e => ?_⟩
  by_cases hj : i = j
  · subst hj
    have hl : i < E.length := by
      have := (List.getElem?_eq_some_iff.mp e).1
      simpa using this
    rw [List.getElem?_set_self hl] at e
    cases e
    exact ⟨v, by rw [List.getElem?_set_self (by have := h.2.2.1; omega)], q⟩
  · rw [List.getElem?_set_ne hj] at e
    obtain ⟨w, a, b⟩ := h.2.2.2 j u e
    exact ⟨w, by rw [List.getElem?_set_ne hj]; exact a, b⟩
theorem ER.unset {K : PySem.W.Frag} {W : WW K} {ρ : List Addr} {H : Hp} {E : Evn} {σ : L2.St} (hw : W.fix = none) (h : ER K W ρ H E σ) (i : Nat) : ER K W ρ H (E.set i none) (σ.set i none) := by
  refine ⟨h.1, fun j a z => (by rw [hw] at z; cases z), by simpa using h.2.2.1, fun j u e => ?_⟩
  by_cases hj : i = j
  · subst hj
    by_cases hl : i < E.length
    · rw [List.getElem?_set_self hl] at e; cases e
    · rw [List.getElem?_eq_none (by simpa using hl)] at e; cases e
  · rw [List.getElem?_set_ne hj] at e
    obtain ⟨w, a, b⟩ := h.2.2.2 j u e
    exact ⟨w, by rw [List.getElem?_set_ne hj]; exact a, b⟩
theorem ER.wish {K : PySem.W.Frag} {W W' : WW K} {ρ : List Addr} {H : Hp} {E : Evn} {σ : L2.St} (h : ER K W ρ H E σ) (g : W'.g ρ H) (f : ∀ i a, W'.fix = some (i, a) → σ[i]? = some (some (.ref a))) : ER K W' ρ H E σ := ⟨g, f, h.2.2⟩
/-- the readings -/
def tE (K : PySem.W.Frag) (W : WW K) (m : ME) : TE := fun σ H Q => ∃ ρ S E, Rel K ρ S H ∧ ER K W ρ H E σ ∧ Post K (DV K) ρ H Q (fun c dx H' => W.w c dx σ H') (m E S)
def tT (K : PySem.W.Frag) (W : WW K) (m : MT) : TT := fun σ H Q => ∃ ρ S E, Rel K ρ S H ∧ ER K W ρ H E σ ∧ Post K (fun _ _ (b c : Bool) => b = c) ρ H Q (fun c dx H' => W.w c dx σ H') (m E S)
def tA (K : PySem.W.Frag) (W : WW K) (m : MA) : TA := fun σ H Q => ∃ ρ S E, Rel K ρ S H ∧ ER K W ρ H E σ ∧ Post K (DVs K) ρ H Q (fun c dx H' => W.w c dx σ H') (m E S)
def SPost (K : PySem.W.Frag) (W : WW K) (ρ : List Addr) (H : Hp) (D : Ends) : SO → Prop
  | .nx E' S' => ∀ ρ' H' σ', Rel K ρ' S' H' → Ext K ρ H ρ' H' → ER K W ρ' H' E' σ' → D.nx σ' H'
  | .bk E' S' => ∀ ρ' H' σ', Rel K ρ' S' H' → Ext K ρ H ρ' H' → ER K W ρ' H' E' σ' → D.bk σ' H'
  | .ct E' S' => ∀ ρ' H' σ', Rel K ρ' S' H' → Ext K ρ H ρ' H' → ER K W ρ' H' E' σ' → D.ct σ' H'
  | .rt d S' => ∀ ρ' H' v, Rel K ρ' S' H' → Ext K ρ H ρ' H' → DV K ρ' H' d v → D.rt v H'
  | .ex e E' S' => ∀ ρ' H' σ' c dx, Rel K ρ' S' H' → Ext K ρ H ρ' H' → ER K W ρ' H' E' σ' → XR K ρ' H' e c dx → W.w c dx σ' H'
  | .bad => False
theorem SPost.start {K : PySem.W.Frag} {W : WW K} {ρ ρ1 : List Addr} {H H1 : Hp} {D : Ends} {o : SO} (h : SPost K W ρ H D o) (e : Ext K ρ H ρ1 H1) : SPost K W ρ1 H1 D o := by
  cases o with
  | nx E S => exact fun ρ' H' σ' r x => h ρ' H' σ' r (e.trans x)
  | bk E S => exact fun ρ' H' σ' r x => h ρ' H' σ' r (e.trans x)
  | ct E S => exact fun ρ' H' σ' r x => h ρ' H' σ' r (e.trans x)
  | rt d S => exact fun ρ' H' v r x => h ρ' H' v r (e.trans x)
  | ex d E S => exact fun ρ' H' σ' c dx r x => h ρ' H' σ' c dx r (e.trans x)
  | bad => exact h
def tS (K : PySem.W.Frag) (W : WW K) (m : MS) : TS := fun D σ H => ∃ ρ S E, Rel K ρ S H ∧ ER K W ρ H E σ ∧ SPost K W ρ H D (m E S)
/-- from an expression's outcome to a statement's -/
theorem SPost.bind {α β : Type} {K : PySem.W.Frag} {W : WW K} {R : List Addr → Hp → α → β → Prop} {ρ : List Addr} {H : Hp} {D : Ends} {E : Evn} {σ : L2.St} {o : Out α} {f : α → Sto → SO} (er : ER K W ρ H E σ) (h : SPost K W ρ H D (o.toS E f)) :
    Post K R ρ H (fun v H1 => ∃ ρ1 S1 d, Rel K ρ1 S1 H1 ∧ Ext K ρ H ρ1 H1 ∧ R ρ1 H1 d v ∧ SPost K W ρ1 H1 D (f d S1)) (fun c dx H' => W.w c dx σ H') o := by
  cases o with
  | ok d S => exact fun ρ' H' v r x y => ⟨ρ', S, d, r, x, y, SPost.start h x⟩
  | ex d S => exact fun ρ' H' c dx r x y => h ρ' H' σ c dx r x (er.mono x) y
  | bad => exact h
/-! the judgements -/
def ED (X : Cx) (W : WW X.K) (e : Expr) (m : ME) : Prop := PE X e (tE X.K W m)
def TD (X : Cx) (W : WW X.K) (e : Expr) (m : MT) : Prop := PT X e (tT X.K W m)
def WD (X : Cx) (W : WW X.K) (e : Expr) (m : MT) : Prop := PW X e (tT X.K W m)
def AD (X : Cx) (W : WW X.K) (es : List Expr) (m : MA) : Prop := PA X es (tA X.K W m)
def SD (X : Cx) (W : WW X.K) (st : Stmt) (m : MS) : Prop := PS X st (tS X.K W m)
def BD (X : Cx) (W : WW X.K) (st : List Stmt) (m : MS) : Prop := PSs X st (tS X.K W m)
theorem PE.imp {X : Cx} {e : Expr} {t t' : TE} (h : PE X e t) (i : ∀ σ H Q, t' σ H Q → t σ H Q) : PE X e t' := ⟨fun pins s σ H Q I q => h.run pins s σ H Q I (i _ _ _ q)⟩
theorem PT.imp {X : Cx} {e : Expr} {t t' : TT} (h : PT X e t) (i : ∀ σ H Q, t' σ H Q → t σ H Q) : PT X e t' := ⟨fun pins s σ H Q I q => h.run pins s σ H Q I (i _ _ _ q)⟩
theorem PW.imp {X : Cx} {e : Expr} {t t' : TT} (h : PW X e t) (i : ∀ σ H Q, t' σ H Q → t σ H Q) : PW X e t' := ⟨fun wh pins s σ H Q I q => h.run wh pins s σ H Q I (i _ _ _ q)⟩
theorem PA.imp {X : Cx} {e : List Expr} {t t' : TA} (h : PA X e t) (i : ∀ σ H Q, t' σ H Q → t σ H Q) : PA X e t' := ⟨fun pos pins s σ H Q I q => h.run pos pins s σ H Q I (i _ _ _ q)⟩
theorem PS.imp {X : Cx} {e : Stmt} {t t' : TS} (h : PS X e t) (i : ∀ D σ H, t' D σ H → t D σ H) : PS X e t' := ⟨fun pins s σ H Q I q => h.run pins s σ H Q I (i _ _ _ q)⟩
theorem PSs.imp {X : Cx} {e : List Stmt} {t t' : TS} (h : PSs X e t) (i : ∀ D σ H, t' D σ H → t D σ H) : PSs X e t' := ⟨fun pins s σ H Q I q => h.run pins s σ H Q I (i _ _ _ q)⟩
theorem PI.imp {X : Cx} {tg e : Expr} {t t' : TI} (h : PI X tg e t) (i : ∀ σ H Q, t' σ H Q → t σ H Q) : PI X tg e t' := ⟨fun pins s σ H Q I q => h.run pins s σ H Q I (i _ _ _ q)⟩
end PD

/-! PyD1: expressions. -/
namespace PD
open PySem PySem.Spec PyProof.Rows L2

/-! ### names, constants -/
def mVar (i : Nat) : ME := fun E S => match E[i]? with
  | some (some d) => .ok d S
  | _ => .bad
def mC (d : D) : ME := fun _ S => .ok d S
section
variable {X : Cx} {W : WW X.K} {pos : Pos}
theorem ed_of {e : Expr} {t : TE} {m : ME} (h : PE X e t) (i : ∀ σ H Q ρ S E, Rel X.K ρ S H → ER X.K W ρ H E σ → Post X.K (DV X.K) ρ H Q (fun c dx H' => W.w c dx σ H') (m E S) → t σ H Q) : ED X W e m :=
  PE.imp h fun σ H Q ⟨ρ, S, E, r, er, p⟩ => i σ H Q ρ S E r er p
theorem ed_var {i : Nat} {e : Expr} (h : PE X e (tVar i)) : ED X W e (mVar i) := by
  refine ed_of h fun σ H Q ρ S E r er p => ?_
  unfold mVar at p
  cases q : E[i]? with
  | none => rw [q] at p; exact p.elim
  | some o =>
    cases o with
    | none => rw [q] at p; exact p.elim
    | some d =>
      rw [q] at p
      obtain ⟨v, a, b⟩ := er.2.2.2 i d q
      exact ⟨v, a, p ρ H v r Ext.refl b⟩
theorem ed_c {e : Expr} {v : V} {d : D} (h : PE X e (tC v)) (hd : ∀ ρ H, DV X.K ρ H d v) : ED X W e (mC d) :=
  ed_of h fun σ H Q ρ S E r er p => p ρ H v r Ext.refl (hd ρ H)
theorem ed_int {i : Int} {j : Nat} : ED X W (.Constant (.int i) j pos) (mC (.int i)) := ed_c pe_int fun _ _ => by simp [DV]
theorem ed_bl {b : Bool} {j : Nat} : ED X W (.Constant (.bool b) j pos) (mC (.bl b)) := ed_c pe_bl fun _ _ => by simp [DV]
theorem ed_non {j : Nat} : ED X W (.Constant .none j pos) (mC .non) := ed_c pe_non fun _ _ => by simp [DV]
theorem ed_str {x : Str} {j : Nat} {c : Tx} (hc : x = ⟨c.toArray⟩) : ED X W (.Constant (.str x) j pos) (mC (.str c)) := ed_c pe_str fun _ _ => by simp [DV, sv, hc]
/-- an object of the module's top by its name -/
theorem ed_glo {x : String} (hg : Gl X (x : Str)) (hm : X.mg (x : Str) = some (.ref (He.ga X.K x))) (hd : ((x : Str) == ("__debug__" : Str)) = false := by decide) : ED X W (.Name (x : Str) pos) (mC (.glo x)) :=
  ed_c (pe_glob (v := .ref (He.ga X.K x)) hg hm rfl hd) fun _ _ => by simp [DV]
theorem ed_ty {x : Str} {n : String} (hg : Gl X x) (hm : X.mg x = none) (hv : bootBuiltins x = some (.type n)) (hn : x ≠ "__name__" := by decide) (hd : (x == ("__debug__" : Str)) = false := by decide) : ED X W (.Name x pos) (mC (.ty n)) :=
  ed_c (pe_bltn (v := .ty n) hg hm hv rfl hn hd) fun _ _ => by simp [DV]
/-- a constant of the module's top: GC says what it is -/
def GC (K : PySem.W.Frag) (mg : Str → Option Value) (x : Str) (d : D) : Prop := ∃ u v, mg x = some u ∧ RelV v u ∧ ∀ ρ H, DV K ρ H d v
theorem ed_gc {x : Str} {d : D} (hg : Gl X x) (h : GC X.K X.mg x d) (hd : (x == ("__debug__" : Str)) = false := by decide) : ED X W (.Name x pos) (mC d) := by
  obtain ⟨u, v, h1, h2, h3⟩ := h
  exact ed_c (pe_glob hg h1 h2 hd) h3
/-! ### two expressions in a row -/
def mBin (g : Sto → D → D → Option D) (a b : ME) : ME := fun E S => (a E S).bind fun x S1 => (b E S1).bind fun y S2 => match g S2 x y with
  | some d => .ok d S2
  | none => .bad
/-- an operator by plain data -/
def rP (K : PySem.W.Frag) (g : Sto → D → D → Option D) : R2 := fun x y H Q => ∃ ρ S dx dy d, Rel K ρ S H ∧ DV K ρ H dx x ∧ DV K ρ H dy y ∧ g S dx dy = some d ∧ ∀ ρ' H' v, Rel K ρ' S H' → Ext K ρ H ρ' H' → DV K ρ' H' d v → Q v H'
theorem post_opt {K : PySem.W.Frag} {ρ : List Addr} {H : Hp} {Q : V → Hp → Prop} {Z : XQ} {S : Sto} {o : Option D} (p : Post K (DV K) ρ H Q Z (match o with | some d => Out.ok d S | none => Out.bad)) :
    ∃ d, o = some d ∧ ∀ ρ' H' v, Rel K ρ' S H' → Ext K ρ H ρ' H' → DV K ρ' H' d v → Q v H' := by
  cases o with
  | none => exact p.elim
  | some d => exact ⟨d, rfl, p⟩
variable {a b : Expr} {ma mb : ME} {g : Sto → D → D → Option D}
theorem bin_read {r : R2} (hr : ∀ x y H Q, rP X.K g x y H Q → r x y H Q) : ∀ σ H Q ρ S E, Rel X.K ρ S H → ER X.K W ρ H E σ → Post X.K (DV X.K) ρ H Q (fun c dx H' => W.w c dx σ H') (mBin g ma mb E S) → tOp r (tE X.K W ma) (tE X.K W mb) σ H Q := by
  intro σ H Q ρ S E re er p
  refine ⟨ρ, S, E, re, er, (Post.bind (R := DV X.K) p).imp fun x H1 ⟨ρ1, S1, dx, r1, e1, d1, p1⟩ => ?_⟩
  refine ⟨ρ1, S1, E, r1, er.mono e1, (Post.bind (R := DV X.K) p1).imp fun y H2 ⟨ρ2, S2, dy, r2, e2, d2, p2⟩ => ?_⟩
  obtain ⟨d, hd, q⟩ := post_opt p2
  exact hr _ _ _ _ ⟨ρ2, S2, dx, dy, d, r2, DV.mono e2 _ _ d1, d2, hd, q⟩
theorem ed_bin {op : Operator} {r : R2} (ho : OpR X (binaryOp op) r) (hr : ∀ x y H Q, rP X.K g x y H Q → r x y H Q) (ha : ED X W a ma) (hb : ED X W b mb) : ED X W (.BinOp a op b pos) (mBin g ma mb) :=
  ed_of (pe_op ho ha hb) (bin_read hr)
theorem ed_cmp {op : CmpOp} {r : R2} (ho : OpR X (compareOp op) r) (hr : ∀ x y H Q, rP X.K g x y H Q → r x y H Q) (ha : ED X W a ma) (hb : ED X W b mb) (hm : behindInMarks op b = false) : ED X W (.Compare a [op] [b] pos) (mBin g ma mb) :=
  ed_of (pe_cmpR ho ha hb hm) (bin_read hr)
/-- the test of a comparison -/
def asB (m : ME) : MT := fun E S => (m E S).bind fun d S1 => match d with
  | .bl b => .ok b S1
  | _ => .bad
theorem td_of {e : Expr} {t : TT} {m : MT} (h : PT X e t) (i : ∀ σ H Q ρ S E, Rel X.K ρ S H → ER X.K W ρ H E σ → Post X.K (fun _ _ (b c : Bool) => b = c) ρ H Q (fun c dx H' => W.w c dx σ H') (m E S) → t σ H Q) : TD X W e m :=
  PT.imp h fun σ H Q ⟨ρ, S, E, r, er, p⟩ => i σ H Q ρ S E r er p
theorem asB_read {m : ME} {t : TE} (ht : ∀ σ H Q, tE X.K W m σ H Q → t σ H Q) : ∀ σ H Q ρ S E, Rel X.K ρ S H → ER X.K W ρ H E σ → Post X.K (fun _ _ (b c : Bool) => b = c) ρ H Q (fun c dx H' => W.w c dx σ H') (asB m E S) → t σ H (fun x H' => ∃ k, x = .bl k ∧ Q k H') := by
  intro σ H Q ρ S E r er p
  refine ht _ _ _ ⟨ρ, S, E, r, er, (Post.bind (R := DV X.K) p).imp fun x H1 ⟨ρ1, S1, d, r1, e1, d1, p1⟩ => ?_⟩
  cases d with
  | bl k =>
    simp only [DV] at d1
    exact ⟨k, d1, p1 ρ1 H1 k r1 Ext.refl rfl⟩
  | _ => exact p1.elim
theorem td_cmp {op : CmpOp} {r : R2} (ho : OpR X (compareOp op) r) (hr : ∀ x y H Q, rP X.K g x y H Q → r x y H Q) (ha : ED X W a ma) (hb : ED X W b mb) (hm : behindInMarks op b = false) : TD X W (.Compare a [op] [b] pos) (asB (mBin g ma mb)) :=
  td_of (pt_cmpR ho ha hb hm) (asB_read fun σ H Q ⟨ρ, S, E, r, er, p⟩ => bin_read hr σ H Q ρ S E r er p)
theorem td_val {e : Expr} {m : ME} (h : ED X W e m) (he : ∀ whole, isTrue e X.env whole = (do let v ← whole; standAt e.pos; holding [v] (truthy v)) := by intro _; rfl) : TD X W e (asB m) :=
  td_of (pt_val h he) (asB_read fun σ H Q q => q)
/-! and, or, not as tests -/
def mAnd (a b : MT) : MT := fun E S => (a E S).bind fun x S1 => if x = true then b E S1 else .ok false S1
def mOr (a b : MT) : MT := fun E S => (a E S).bind fun x S1 => if x = true then .ok true S1 else b E S1
def mNot (a : MT) : MT := fun E S => (a E S).bind fun x S1 => .ok (!x) S1
variable {ta tb : MT} {rest : List Expr}
theorem and_read : ∀ σ H Q ρ S E, Rel X.K ρ S H → ER X.K W ρ H E σ → Post X.K (fun _ _ (b c : Bool) => b = c) ρ H Q (fun c dx H' => W.w c dx σ H') (mAnd ta tb E S) → tAnd (tT X.K W ta) (tT X.K W tb) σ H Q := by
  intro σ H Q ρ S E r er p
  refine ⟨ρ, S, E, r, er, (Post.bind (R := fun _ _ (b c : Bool) => b = c) p).imp fun x H1 ⟨ρ1, S1, d, r1, e1, d1, p1⟩ => ?_⟩
  subst d1
  cases d with
  | true => rw [if_pos rfl] at p1 ⊢; exact ⟨ρ1, S1, E, r1, er.mono e1, p1⟩
  | false => rw [if_neg (by simp)] at p1 ⊢; exact p1 ρ1 H1 false r1 Ext.refl rfl
theorem or_read : ∀ σ H Q ρ S E, Rel X.K ρ S H → ER X.K W ρ H E σ → Post X.K (fun _ _ (b c : Bool) => b = c) ρ H Q (fun c dx H' => W.w c dx σ H') (mOr ta tb E S) → tOr (tT X.K W ta) (tT X.K W tb) σ H Q := by
  intro σ H Q ρ S E r er p
  refine ⟨ρ, S, E, r, er, (Post.bind (R := fun _ _ (b c : Bool) => b = c) p).imp fun x H1 ⟨ρ1, S1, d, r1, e1, d1, p1⟩ => ?_⟩
  subst d1
  cases d with
  | true => rw [if_pos rfl] at p1 ⊢; exact p1 ρ1 H1 true r1 Ext.refl rfl
  | false => rw [if_neg (by simp)] at p1 ⊢; exact ⟨ρ1, S1, E, r1, er.mono e1, p1⟩
theorem wd_and1 (ha : TD X W a ta) : WD X W (.BoolOp .And [a] pos) ta := pw_and1 ha
theorem wd_or1 (ha : TD X W a ta) : WD X W (.BoolOp .Or [a] pos) ta := pw_or1 ha
theorem wd_and (ha : TD X W a ta) (hb : WD X W (.BoolOp .And (b :: rest) pos) tb) : WD X W (.BoolOp .And (a :: b :: rest) pos) (mAnd ta tb) :=
  PW.imp (pw_and ha hb) fun σ H Q ⟨ρ, S, E, r, er, p⟩ => and_read σ H Q ρ S E r er p
theorem wd_or (ha : TD X W a ta) (hb : WD X W (.BoolOp .Or (b :: rest) pos) tb) : WD X W (.BoolOp .Or (a :: b :: rest) pos) (mOr ta tb) :=
  PW.imp (pw_or ha hb) fun σ H Q ⟨ρ, S, E, r, er, p⟩ => or_read σ H Q ρ S E r er p
theorem td_w (h : WD X W a ta) : TD X W a ta := PW.pt h
theorem td_not (ha : TD X W a ta) : TD X W (.UnaryOp .Not a pos) (mNot ta) := by
  refine td_of (pt_not ha) fun σ H Q ρ S E r er p => ?_
  refine ⟨ρ, S, E, r, er, (Post.bind (R := fun _ _ (b c : Bool) => b = c) p).imp fun x H1 ⟨ρ1, S1, d, r1, e1, d1, p1⟩ => ?_⟩
  subst d1
  exact p1 ρ1 H1 _ r1 Ext.refl rfl
/-! and, or, not as values (of truths) -/
def mAndV (a b : ME) : ME := fun E S => (a E S).bind fun x S1 => match x with
  | .bl true => b E S1
  | .bl false => .ok (.bl false) S1
  | _ => .bad
def mOrV (a b : ME) : ME := fun E S => (a E S).bind fun x S1 => match x with
  | .bl true => .ok (.bl true) S1
  | .bl false => b E S1
  | _ => .bad
def mNotV (a : ME) : ME := fun E S => (a E S).bind fun x S1 => match x with
  | .bl b => .ok (.bl (!b)) S1
  | _ => .bad
theorem ed_one {op : BoolOp} {m : ME} (h : ED X W a m) : ED X W (.BoolOp op [a] pos) m := pe_one h
theorem ed_and (ha : ED X W a ma) (hb : ED X W (.BoolOp .And (b :: rest) pos) mb) : ED X W (.BoolOp .And (a :: b :: rest) pos) (mAndV ma mb) := by
  refine ed_of (pe_and ha hb) fun σ H Q ρ S E r er p => ?_
  refine ⟨ρ, S, E, r, er, (Post.bind (R := DV X.K) p).imp fun x H1 ⟨ρ1, S1, d, r1, e1, d1, p1⟩ => ?_⟩
  cases d with
  | bl k =>
    simp only [DV] at d1
    refine ⟨k, d1, ?_⟩
    cases k with
    | true => rw [if_pos rfl]; exact ⟨ρ1, S1, E, r1, er.mono e1, p1⟩
    | false => rw [if_neg (by simp)]; exact p1 ρ1 H1 _ r1 Ext.refl (by simp [DV])
  | _ => exact p1.elim
theorem ed_or (ha : ED X W a ma) (hb : ED X W (.BoolOp .Or (b :: rest) pos) mb) : ED X W (.BoolOp .Or (a :: b :: rest) pos) (mOrV ma mb) := by
  refine ed_of (pe_or ha hb) fun σ H Q ρ S E r er p => ?_
  refine ⟨ρ, S, E, r, er, (Post.bind (R := DV X.K) p).imp fun x H1 ⟨ρ1, S1, d, r1, e1, d1, p1⟩ => ?_⟩
  cases d with
  | bl k =>
    simp only [DV] at d1
    refine ⟨k, d1, ?_⟩
    cases k with
    | true => rw [if_pos rfl]; exact p1 ρ1 H1 _ r1 Ext.refl (by simp [DV])
    | false => rw [if_neg (by simp)]; exact ⟨ρ1, S1, E, r1, er.mono e1, p1⟩
  | _ => exact p1.elim
theorem ed_not (ha : ED X W a ma) : ED X W (.UnaryOp .Not a pos) (mNotV ma) := by
  refine ed_of (pe_not ha) fun σ H Q ρ S E r er p => ?_
  refine ⟨ρ, S, E, r, er, (Post.bind (R := DV X.K) p).imp fun x H1 ⟨ρ1, S1, d, r1, e1, d1, p1⟩ => ?_⟩
  cases d with
  | bl k =>
    simp only [DV] at d1
    exact ⟨k, d1, p1 ρ1 H1 _ r1 Ext.refl (by simp [DV])⟩
  | _ => exact p1.elim
def mIfE (c : MT) (a b : ME) : ME := fun E S => (c E S).bind fun x S1 => if x = true then a E S1 else b E S1
theorem ed_if {c : Expr} {mc : MT} (hc : TD X W c mc) (ha : ED X W a ma) (hb : ED X W b mb) : ED X W (.IfExp c a b pos) (mIfE mc ma mb) := by
  refine ed_of (pe_ifExp hc ha hb) fun σ H Q ρ S E r er p => ?_
  refine ⟨ρ, S, E, r, er, (Post.bind (R := fun _ _ (b c : Bool) => b = c) p).imp fun x H1 ⟨ρ1, S1, d, r1, e1, d1, p1⟩ => ?_⟩
  subst d1
  cases d with
  | true => rw [if_pos rfl] at p1 ⊢; exact ⟨ρ1, S1, E, r1, er.mono e1, p1⟩
  | false => rw [if_neg (by simp)] at p1 ⊢; exact ⟨ρ1, S1, E, r1, er.mono e1, p1⟩
/-! ### one operand -/
def mUn (g : Sto → D → Option D) (a : ME) : ME := fun E S => (a E S).bind fun x S1 => match g S1 x with
  | some d => .ok d S1
  | none => .bad
def rP1 (K : PySem.W.Frag) (g : Sto → D → Option D) : V → Hp → VK → Prop := fun x H Q => ∃ ρ S dx d, Rel K ρ S H ∧ DV K ρ H dx x ∧ g S dx = some d ∧ ∀ ρ' H' v, Rel K ρ' S H' → Ext K ρ H ρ' H' → DV K ρ' H' d v → Q v H'
theorem ed_un {op : UnaryOp} {r : V → Hp → VK → Prop} {g : Sto → D → Option D} (ho : UnR X (unaryOp op) r) (hr : ∀ x H Q, rP1 X.K g x H Q → r x H Q) (ha : ED X W a ma) : ED X W (.UnaryOp op a pos) (mUn g ma) := by
  refine ed_of (pe_un ho ha) fun σ H Q ρ S E r er p => ?_
  refine ⟨ρ, S, E, r, er, (Post.bind (R := DV X.K) p).imp fun x H1 ⟨ρ1, S1, d, r1, e1, d1, p1⟩ => ?_⟩
  obtain ⟨u, hu, q⟩ := post_opt p1
  exact hr _ _ _ ⟨ρ1, S1, d, u, r1, d1, hu, q⟩
/-! ### rows of expressions -/
def mNil : MA := fun _ S => .ok [] S
def mCons (a : ME) (r : MA) : MA := fun E S => (a E S).bind fun x S1 => (r E S1).bind fun xs S2 => .ok (x :: xs) S2
theorem ad_nil : AD X W [] mNil := PA.imp pa_nil fun σ H Q ⟨ρ, S, E, r, er, p⟩ => p ρ H [] r Ext.refl (by simp [DVs])
theorem ad_cons {e : Expr} {es : List Expr} {m : ME} {ms : MA} (h : ED X W e m) (hr : AD X W es ms) (hs : starEach (e :: es) X.env = (false, eval e X.env) :: starEach es X.env := by rfl) : AD X W (e :: es) (mCons m ms) := by
  refine PA.imp (pa_cons h hr hs) fun σ H Q ⟨ρ, S, E, r, er, p⟩ => ?_
  refine ⟨ρ, S, E, r, er, (Post.bind (R := DV X.K) p).imp fun x H1 ⟨ρ1, S1, d, r1, e1, d1, p1⟩ => ?_⟩
  refine ⟨ρ1, S1, E, r1, er.mono e1, (Post.bind (R := DVs X.K) p1).imp fun xs H2 ⟨ρ2, S2, ds, r2, e2, d2, p2⟩ => ?_⟩
  exact p2 ρ2 H2 (x :: xs) r2 Ext.refl (by simp only [DVs]; exact ⟨x, xs, rfl, DV.mono e2 _ _ d1, d2⟩)
/-! new things -/
theorem rd_none {H : Hp} {a p : Addr} {u : HO} (hp : H p = none) (h : Rd H a u) : a ≠ p := fun z => by
  subst z
  rcases h with h | ⟨o, h⟩ <;> rw [hp] at h <;> cases h
theorem Rd.upd {H : Hp} {a p : Addr} {u o : HO} (hne : a ≠ p) (h : Rd H a u) : Rd (upd H p o) a u := by
  unfold Rd
  rw [upd_ne hne]
  exact h
/-- a thing is laid anew and not tracked -/
theorem Ext.new {K : PySem.W.Frag} {ρ : List Addr} {H : Hp} {p : Addr} {o : HO} (hp : H p = none) : Ext K ρ H ρ (upd H p o) :=
  ⟨⟨[], by simp⟩, fun a vs h => h.imp (fun h => Rd.upd (rd_none hp h) h) id, fun a vs h g => ⟨h, by rw [upd_ne (ne_of_none g hp)]; exact g⟩, fun a u vs h => by rw [upd_ne (ne_of_none h hp)]; exact h, fun a fs h => by rw [upd_ne (ne_of_none h hp)]; exact h⟩
theorem OR.mono {K : PySem.W.Frag} {ρ ρ' : List Addr} {H H' : Hp} (e : Ext K ρ H ρ' H') {a : Addr} {o : Ob} (h : OR K ρ H a o) (k : ∀ u, H a = some u → H' a = some u) : OR K ρ' H' a o := by
  cases o with
  | lst xs => obtain ⟨vs, h1, h2⟩ := h; exact ⟨vs, k _ h1, DVs.mono e _ _ h2⟩
  | dic xs => obtain ⟨vs, h1, h2⟩ := h; exact ⟨vs, k _ h1, DVs.mono e _ _ h2⟩
  | set S n => exact k _ h
  | ins c fs => obtain ⟨dx, vs, h1, h2⟩ := h; exact ⟨dx, vs, k _ h1, DVs.mono e _ _ h2⟩
theorem OR.some {K : PySem.W.Frag} {ρ : List Addr} {H : Hp} {a : Addr} {o : Ob} (h : OR K ρ H a o) : ∃ u, H a = some u := by
  cases o with
  | lst xs => obtain ⟨vs, h1, h2⟩ := h; exact ⟨_, h1⟩
  | dic xs => obtain ⟨vs, h1, h2⟩ := h; exact ⟨_, h1⟩
  | set S n => exact ⟨_, h⟩
  | ins c fs => obtain ⟨dx, vs, h1, h2⟩ := h; exact ⟨_, h1⟩
theorem Rel.mem {K : PySem.W.Frag} {ρ : List Addr} {S : Sto} {H : Hp} (r : Rel K ρ S H) {a : Addr} (h : a ∈ ρ) : ∃ u, H a = some u := by
  obtain ⟨n, hn, e⟩ := List.getElem_of_mem h
  have h2 : n < S.length := by rw [← r.len]; exact hn
  exact (r.at_ n S[n] a (List.getElem?_eq_getElem h2) (by rw [List.getElem?_eq_getElem hn, e])).some
theorem Rel.new {K : PySem.W.Frag} {ρ : List Addr} {S : Sto} {H : Hp} (r : Rel K ρ S H) {p : Addr} {o : HO} (hp : H p = none) : Rel K ρ S (upd H p o) :=
  ⟨r.len, r.nd, fun n u a h1 h2 => (r.at_ n u a h1 h2).mono (Ext.new hp) fun w hw => by rw [upd_ne (ne_of_none hw hp)]; exact hw⟩
theorem Rel.notin {K : PySem.W.Frag} {ρ : List Addr} {S : Sto} {H : Hp} (r : Rel K ρ S H) {p : Addr} (hp : H p = none) : p ∉ ρ := fun h => by
  obtain ⟨u, e⟩ := r.mem h
  rw [hp] at e
  cases e
open Classical in
noncomputable def mTup (a : MA) : ME := fun E S => (a E S).bind fun xs S1 => if sizeOk (xs.length) then .ok (.tup xs) S1 else .bad
/- a list that is never changed -/
open Classical in
noncomputable def mLst (a : MA) : ME := fun E S => (a E S).bind fun xs S1 => if sizeOk (xs.length) then .ok (.lst xs) S1 else .bad
/- a list that may change -/
open Classical in
noncomputable def mLoc (a : MA) : ME := fun E S => (a E S).bind fun xs S1 => if sizeOk (xs.length) then .ok (.loc S1.length) (S1 ++ [.lst xs]) else .bad
theorem dv_tup {K : PySem.W.Frag} {ρ : List Addr} {H : Hp} {p : Addr} {xs : List D} {vs : List V} (hp : H p = none) (h : DVs K ρ H xs vs) : DV K ρ (upd H p (.tup vs)) (.tup xs) (.ref p) := by
  simp only [DV]
  exact ⟨p, vs, rfl, SqT.of upd_same, DVs.mono (Ext.new hp) _ _ h⟩
theorem dv_lst {K : PySem.W.Frag} {ρ : List Addr} {H : Hp} {p : Addr} {xs : List D} {vs : List V} (hp : H p = none) (hn : p ∉ ρ) (h : DVs K ρ H xs vs) : DV K ρ (upd H p (.lst vs)) (.lst xs) (.ref p) := by
  simp only [DV]
  exact ⟨p, vs, rfl, ⟨hn, upd_same⟩, DVs.mono (Ext.new hp) _ _ h⟩
theorem Ext.alloc {K : PySem.W.Frag} {ρ : List Addr} {H : Hp} {p : Addr} {o : HO} (hp : H p = none) : Ext K ρ H (ρ ++ [p]) (upd H p o) :=
  ⟨⟨[p], rfl⟩, fun a vs h => h.imp (fun h => Rd.upd (rd_none hp h) h) id, fun a vs h g => ⟨by simp [h, ne_of_none g hp], by rw [upd_ne (ne_of_none g hp)]; exact g⟩, fun a u vs h => by rw [upd_ne (ne_of_none h hp)]; exact h, fun a fs h => by rw [upd_ne (ne_of_none h hp)]; exact h⟩
theorem Rel.alloc {K : PySem.W.Frag} {ρ : List Addr} {S : Sto} {H : Hp} (r : Rel K ρ S H) {p : Addr} {o : HO} {u : Ob} (hp : H p = none) (h : OR K (ρ ++ [p]) (upd H p o) p u) : Rel K (ρ ++ [p]) (S ++ [u]) (upd H p o) := by
  refine ⟨by simp [r.len], ?_, fun n w a h1 h2 => ?_⟩
  · rw [List.nodup_append]
    refine ⟨r.nd, by simp, fun x hx y hy z => ?_⟩
    simp only [List.mem_singleton] at hy
    subst hy z
    exact r.notin hp hx
  · by_cases hn : n < S.length
    · rw [List.getElem?_append_left hn] at h1
      rw [List.getElem?_append_left (by rw [r.len]; exact hn)] at h2
      exact (r.at_ n w a h1 h2).mono (Ext.alloc hp) fun q hq => by rw [upd_ne (ne_of_none hq hp)]; exact hq
    · have hn2 : n = S.length := by
        have := (List.getElem?_eq_some_iff.mp h1).1
        simp only [List.length_append, List.length_singleton] at this
        omega
      subst hn2
      rw [List.getElem?_append_right (Nat.le_refl _), Nat.sub_self] at h1
      rw [List.getElem?_append_right (by rw [r.len]; exact Nat.le_refl _), r.len, Nat.sub_self] at h2
      simp only [List.getElem?_cons_zero, Option.some.injEq] at h1 h2
      subst h1 h2
      exact h
theorem dv_loc {K : PySem.W.Frag} {ρ : List Addr} {S : Sto} {H H' : Hp} (r : Rel K ρ S H) {p : Addr} : DV K (ρ ++ [p]) H' (.loc S.length) (.ref p) := by
  simp only [DV]
  exact ⟨p, rfl, by rw [List.getElem?_append_right (by rw [r.len]; exact Nat.le_refl _), r.len, Nat.sub_self]; rfl⟩
variable {es : List Expr} {ms : MA}
theorem ed_tup {x1} (h : AD X W es ms) : ED X W (.Tuple es x1 pos) (mTup ms) := by
  refine ed_of (pe_tup h) fun σ H Q ρ S E r er p => ?_
  refine ⟨ρ, S, E, r, er, (Post.bind (R := DVs X.K) p).imp fun vs H1 ⟨ρ1, S1, ds, r1, e1, d1, p1⟩ => ?_⟩
  by_cases hl : sizeOk (ds.length)
  · rw [if_pos hl] at p1
    exact ⟨by rw [← d1.length]; exact hl, fun q hq => p1 ρ1 _ _ (r1.new hq) (Ext.new hq) (dv_tup hq d1)⟩
  · rw [if_neg hl] at p1; exact p1.elim
theorem ed_lst (h : AD X W es ms) : ED X W (.List es pos) (mLst ms) := by
  refine ed_of (pe_lst h) fun σ H Q ρ S E r er p => ?_
  refine ⟨ρ, S, E, r, er, (Post.bind (R := DVs X.K) p).imp fun vs H1 ⟨ρ1, S1, ds, r1, e1, d1, p1⟩ => ?_⟩
  by_cases hl : sizeOk (ds.length)
  · rw [if_pos hl] at p1
    exact ⟨by rw [← d1.length]; exact hl, fun q hq => p1 ρ1 _ _ (r1.new hq) (Ext.new hq) (dv_lst hq (r1.notin hq) d1)⟩
  · rw [if_neg hl] at p1; exact p1.elim
theorem ed_loc (h : AD X W es ms) : ED X W (.List es pos) (mLoc ms) := by
  refine ed_of (pe_lst h) fun σ H Q ρ S E r er p => ?_
  refine ⟨ρ, S, E, r, er, (Post.bind (R := DVs X.K) p).imp fun vs H1 ⟨ρ1, S1, ds, r1, e1, d1, p1⟩ => ?_⟩
  by_cases hl : sizeOk (ds.length)
  · rw [if_pos hl] at p1
    refine ⟨by rw [← d1.length]; exact hl, fun q hq => p1 (ρ1 ++ [q]) _ _ (r1.alloc hq ⟨vs, upd_same, DVs.mono (Ext.alloc hq) _ _ d1⟩) (Ext.alloc hq) (dv_loc r1)⟩
  · rw [if_neg hl] at p1; exact p1.elim
/-! ### calls -/
def mCall (f : MF) (a : MA) : ME := fun E S => (a E S).bind fun ds S1 => f ds S1
/-- a def's promise by plain data -/
def spM (K : PySem.W.Frag) (n : Nat) (m : MF) : Sp := fun vs H Q E => ∃ ρ S ds, Rel K ρ S H ∧ DVs K ρ H ds vs ∧ ds.length = n ∧ Post K (DV K) ρ H Q E (m ds S)
structure CallF (P : Program) (w : World) (K : PySem.W.Frag) (mg : Str → Option Value) (base : Heap) (k : Nat) (x : Str) (n : Nat) (m : MF) : Prop where
  ex : ∃ f fd ps, FnOk P w K mg base (L2.CX P w) k f fd ps (spM K n m) ∧ mg x = some (.ref f) ∧ PySem.W.keepIn K (.ref f) = true ∧ Binds K fd ps []
theorem ed_call {x : Str} {n k : Nat} {m : MF} {p : Pos} {e : Expr} (c : CallF X.prog X.w X.K X.mg X.base k x n m) (hr : Room k X.A) (tk : Takes X W.w) (hg : Gl X x) (ha : AD X W (e :: es) ms)
    (hl : ∀ E S ds S', ms E S = .ok ds S' → ds.length = n) (hdb : (x == ("__debug__" : Str)) = false := by decide) (he : starEach (e :: es) X.env = (false, eval e X.env) :: starEach es X.env := by rfl) (hpl : (backTo pos (starEach es X.env)).any (·.1) = false := by rfl) :
    ED X W (.Call (.Name x p) (e :: es) [] pos) (mCall m ms) := by
  obtain ⟨f, fd, ps, F, hm, hk, hb⟩ := c.ex
  refine ed_of (pe_callSD (E := fun σ c dx H => W.w c dx σ H) F hr hg hm hk hb .nil (fun σ => passAt tk σ) ha hdb he hpl) fun σ H Q ρ S E r er p => ?_
  refine ⟨ρ, S, E, r, er, ?_⟩
  have hl' := hl E S
  unfold mCall at p
  cases q : ms E S with
  | bad => rw [q] at p; exact p.elim
  | ex e S' => rw [q] at p; exact p
  | ok ds S' =>
    rw [q] at p
    have hn := hl' ds S' q
    intro ρ1 H1 vs r1 e1 d1
    rw [List.append_nil]
    exact ⟨ρ1, S', ds, r1, d1, hn, p.start e1⟩
theorem len_nil : ∀ E S ds S', mNil E S = .ok ds S' → ds.length = 0 := fun E S ds S' h => by cases h; rfl
theorem len_cons {a : ME} {r : MA} {n : Nat} (h : ∀ E S ds S', r E S = .ok ds S' → ds.length = n) : ∀ E S ds S', mCons a r E S = .ok ds S' → ds.length = n + 1 := fun E S ds S' q => by
  unfold mCons at q
  cases e1 : a E S with
  | bad => rw [e1] at q; cases q
  | ex e S1 => rw [e1] at q; cases q
  | ok x S1 =>
    rw [e1] at q
    cases e2 : r E S1 with
    | bad => rw [bind_ok, e2] at q; cases q
    | ex e S2 => rw [bind_ok, e2] at q; cases q
    | ok xs S2 =>
      rw [bind_ok, e2] at q
      cases q
      simp [h E S1 xs _ e2]
/-! built-ins of values: g reads the store -/
def mB (g : Sto → List D → Option D) (a : MA) : ME := fun E S => (a E S).bind fun xs S1 => match g S1 xs with
  | some d => .ok d S1
  | none => .bad
def rPB (K : PySem.W.Frag) (g : Sto → List D → Option D) : List V → Hp → VK → Prop := fun vs H Q => ∃ ρ S ds d, Rel K ρ S H ∧ DVs K ρ H ds vs ∧ g S ds = some d ∧ ∀ ρ' H' v, Rel K ρ' S H' → Ext K ρ H ρ' H' → DV K ρ' H' d v → Q v H'
theorem b_read {g : Sto → List D → Option D} {r : List V → Hp → VK → Prop} (hr : ∀ vs H Q, rPB X.K g vs H Q → r vs H Q) : ∀ σ H Q ρ S E, Rel X.K ρ S H → ER X.K W ρ H E σ → Post X.K (DV X.K) ρ H Q (fun c dx H' => W.w c dx σ H') (mB g ms E S) → tCB r (tA X.K W ms) σ H Q := by
  intro σ H Q ρ S E re er p
  refine ⟨ρ, S, E, re, er, (Post.bind (R := DVs X.K) p).imp fun vs H1 ⟨ρ1, S1, ds, r1, e1, d1, p1⟩ => ?_⟩
  obtain ⟨d, hd, q⟩ := post_opt p1
  exact hr _ _ _ ⟨ρ1, S1, ds, d, r1, d1, hd, q⟩
theorem ed_callB {x : Str} {id : String} {r : List V → Hp → VK → Prop} {g : Sto → List D → Option D} {e : Expr} {p : Pos} (hc : CallR X (.builtin id) r) (hr : ∀ vs H Q, rPB X.K g vs H Q → r vs H Q) (hg : Gl X x) (hm : X.mg x = none) (hv : bootBuiltins x = some (.builtin id)) (ha : AD X W (e :: es) ms)
    (hn : x ≠ "__name__" := by decide) (hdb : (x == ("__debug__" : Str)) = false := by decide) (he : starEach (e :: es) X.env = (false, eval e X.env) :: starEach es X.env := by rfl) (hpl : (backTo pos (starEach es X.env)).any (·.1) = false := by rfl) :
    ED X W (.Call (.Name x p) (e :: es) [] pos) (mB g ms) := by
  first
    | exact ed_of (pe_callB hc hg hm hv ha hn hdb he hpl) (b_read hr)
    | exact ed_of (pe_callB hc hg hm hv ha hn hdb) (b_read hr)
theorem ed_callTy {x : Str} {T : String} {r : List V → Hp → VK → Prop} {g : Sto → List D → Option D} {e : Expr} {p : Pos} (hc : CallR X (.type T) r) (hr : ∀ vs H Q, rPB X.K g vs H Q → r vs H Q) (hg : Gl X x) (hm : X.mg x = none) (hv : bootBuiltins x = some (.type T)) (ha : AD X W (e :: es) ms)
    (hn : x ≠ "__name__" := by decide) (hdb : (x == ("__debug__" : Str)) = false := by decide) (he : starEach (e :: es) X.env = (false, eval e X.env) :: starEach es X.env := by rfl) (hpl : (backTo pos (starEach es X.env)).any (·.1) = false := by rfl) :
    ED X W (.Call (.Name x p) (e :: es) [] pos) (mB g ms) := by
  first
    | exact ed_of (pe_callTy hc hg hm hv ha hn hdb he hpl) (b_read hr)
    | exact ed_of (pe_callTy hc hg hm hv ha hn hdb) (b_read hr)
/-! items, slices -/
theorem ed_ix {r : R2} (hi : IxR X r) (hr : ∀ x y H Q, rP X.K g x y H Q → r x y H Q) (ha : ED X W a ma) (hb : ED X W b mb) (hs : PlainIx b) : ED X W (.Subscript a b pos) (mBin g ma mb) :=
  ed_of (pe_ix hi ha hb hs) (bin_read hr)
abbrev MO := Evn → Sto → Out (Option Int)
def mNoPart : MO := fun _ S => .ok none S
def mPart (a : ME) : MO := fun E S => (a E S).bind fun d S1 => match d with
  | .int i => .ok (some i) S1
  | _ => .bad
def tO (K : PySem.W.Frag) (W : WW K) (m : MO) : TO := fun σ H Q => ∃ ρ S E, Rel K ρ S H ∧ ER K W ρ H E σ ∧ Post K (fun _ _ (b c : Option Int) => b = c) ρ H Q (fun c dx H' => W.w c dx σ H') (m E S)
def OD (X : Cx) (W : WW X.K) (e : Option Expr) (m : MO) : Prop := PO X e (tO X.K W m)
theorem PO.imp {X : Cx} {e : Option Expr} {t t' : TO} (h : PO X e t) (i : ∀ σ H Q, t' σ H Q → t σ H Q) : PO X e t' := ⟨fun pins s σ H Q I q => h.run pins s σ H Q I (i _ _ _ q)⟩
theorem od_none : OD X W none mNoPart := PO.imp po_none fun σ H Q ⟨ρ, S, E, r, er, p⟩ => p ρ H none r Ext.refl rfl
theorem od_some {e : Expr} {m : ME} (h : ED X W e m) : OD X W (some e) (mPart m) := by
  refine PO.imp (po_some h) fun σ H Q ⟨ρ, S, E, r, er, p⟩ => ?_
  refine ⟨ρ, S, E, r, er, (Post.bind (R := DV X.K) p).imp fun x H1 ⟨ρ1, S1, d, r1, e1, d1, p1⟩ => ?_⟩
  cases d with
  | int i => simp only [DV] at d1; exact ⟨i, d1, p1 ρ1 H1 _ r1 Ext.refl rfl⟩
  | _ => exact p1.elim
def mSl (g : Sto → D → Option Int → Option Int → Option D) (a : ME) (lo hi : MO) : ME := fun E S => (a E S).bind fun x S1 => (lo E S1).bind fun l S2 => (hi E S2).bind fun u S3 => match g S3 x l u with
  | some d => .ok d S3
  | none => .bad
def rPS (K : PySem.W.Frag) (g : Sto → D → Option Int → Option Int → Option D) : V → Option Int → Option Int → Hp → VK → Prop := fun x lo hi H Q => ∃ ρ S dx d, Rel K ρ S H ∧ DV K ρ H dx x ∧ g S dx lo hi = some d ∧ ∀ ρ' H' v, Rel K ρ' S H' → Ext K ρ H ρ' H' → DV K ρ' H' d v → Q v H'
theorem ed_sl {lo hi : Option Expr} {ml mh : MO} {p2 : Pos} {r : V → Option Int → Option Int → Hp → VK → Prop} {g : Sto → D → Option Int → Option Int → Option D} (hsl : SlR X r) (hr : ∀ x l u H Q, rPS X.K g x l u H Q → r x l u H Q) (ha : ED X W a ma) (hl : OD X W lo ml) (hu : OD X W hi mh) :
    ED X W (.Subscript a (.Slice lo hi none p2) pos) (mSl g ma ml mh) := by
  refine ed_of (pe_slice hsl ha hl hu) fun σ H Q ρ S E re er p => ?_
  refine ⟨ρ, S, E, re, er, (Post.bind (R := DV X.K) p).imp fun x H1 ⟨ρ1, S1, dx, r1, e1, d1, p1⟩ => ?_⟩
  refine ⟨ρ1, S1, E, r1, er.mono e1, (Post.bind (R := fun _ _ (b c : Option Int) => b = c) p1).imp fun l H2 ⟨ρ2, S2, dl, r2, e2, d2, p2⟩ => ?_⟩
  subst d2
  refine ⟨ρ2, S2, E, r2, er.mono (e1.trans e2), (Post.bind (R := fun _ _ (b c : Option Int) => b = c) p2).imp fun u H3 ⟨ρ3, S3, du, r3, e3, d3, p3⟩ => ?_⟩
  subst d3
  obtain ⟨d, hd, q⟩ := post_opt p3
  exact hr _ _ _ _ _ ⟨ρ3, S3, dx, d, r3, DV.mono (e2.trans e3) _ _ d1, hd, q⟩
/-! methods of built-in types -/
def mBM (g : Sto → D → List D → Option D) (o : ME) (a : MA) : ME := fun E S => (o E S).bind fun x S1 => (a E S1).bind fun xs S2 => match g S2 x xs with
  | some d => .ok d S2
  | none => .bad
end
end PD

/-! PyD2: statements. -/
namespace PD
open PySem PySem.Spec PyProof.Rows L2

def mSeq (a b : MS) : MS := fun E S => match a E S with
  | .nx E' S' => b E' S'
  | r => r
def mSkip : MS := fun E S => .nx E S
def mBreak : MS := fun E S => .bk E S
def mCont : MS := fun E S => .ct E S
def mIf (c : MT) (a b : MS) : MS := fun E S => (c E S).toS E fun x S1 => if x = true then a E S1 else b E S1
def mRet (a : ME) : MS := fun E S => (a E S).toS E fun d S1 => .rt d S1
def mRetN : MS := fun _ S => .rt .non S
def mDrop (a : ME) : MS := fun E S => (a E S).toS E fun _ S1 => .nx E S1
abbrev MG := D → Evn → Sto → Out Evn
abbrev MGs := List D → Evn → Sto → Out Evn
def gN (i : Nat) : MG := fun d E S => .ok (E.set i (some d)) S
def gsNil : MGs := fun ds E S => match ds with
  | [] => .ok E S
  | _ => .bad
def Out.noex {α : Type} : Out α → Out α
  | .ok a S => .ok a S
  | _ => .bad
@[simp] theorem noex_ok {α : Type} (a : α) (S : Sto) : (Out.ok a S).noex = .ok a S := rfl
def gsCons (g : MG) (r : MGs) : MGs := fun ds E S => match ds with
  | d :: ds => (g d E S).bind fun E' S' => (r ds E' S').noex
  | [] => .bad
def gT (n : Nat) (g : MGs) : MG := fun d E S => match d with
  | .tup xs => if xs.length = n then g xs E S else .bad
  | _ => .bad
def mAsg (a : ME) (g : MG) : MS := fun E S => (a E S).toS E fun d S1 => (g d E S1).toS E fun E' S2 => .nx E' S2
def mSet (i : Nat) (a : ME) : MS := fun E S => (a E S).toS E fun d S1 => .nx (E.set i (some d)) S1
section
variable {X : Cx} {W : WW X.K} {pos : Pos}
theorem sd_of {st : Stmt} {t : TS} {m : MS} (h : PS X st t) (i : ∀ D σ H ρ S E, Rel X.K ρ S H → ER X.K W ρ H E σ → SPost X.K W ρ H D (m E S) → t D σ H) : SD X W st m :=
  PS.imp h fun D σ H ⟨ρ, S, E, r, er, p⟩ => i D σ H ρ S E r er p
theorem bd_of {st : List Stmt} {t : TS} {m : MS} (h : PSs X st t) (i : ∀ D σ H ρ S E, Rel X.K ρ S H → ER X.K W ρ H E σ → SPost X.K W ρ H D (m E S) → t D σ H) : BD X W st m :=
  PSs.imp h fun D σ H ⟨ρ, S, E, r, er, p⟩ => i D σ H ρ S E r er p
theorem bd_nil : BD X W [] mSkip := bd_of pss_nil fun D σ H ρ S E r er p => p ρ H σ r Ext.refl er
theorem bd_one {st : Stmt} {m : MS} (h : SD X W st m) : BD X W [st] m := pss_one h
theorem bd_cons {st : Stmt} {rest : List Stmt} {a b : MS} (h1 : SD X W st a) (h2 : BD X W rest b) : BD X W (st :: rest) (mSeq a b) := by
  refine bd_of (pss_cons h1 h2) fun D σ H ρ S E r er p => ?_
  refine ⟨ρ, S, E, r, er, ?_⟩
  unfold mSeq at p
  cases q : a E S with
  | nx E' S' =>
    rw [q] at p
    exact fun ρ' H' σ' r' e' er' => ⟨ρ', S', E', r', er', p.start e'⟩
  | rt d S' => rw [q] at p; exact p
  | bk E' S' => rw [q] at p; exact p
  | ct E' S' => rw [q] at p; exact p
  | ex e E' S' => rw [q] at p; exact p
  | bad => rw [q] at p; exact p
theorem sd_pass : SD X W (.Pass pos) mSkip := sd_of ps_pass fun D σ H ρ S E r er p => p ρ H σ r Ext.refl er
theorem sd_break : SD X W (.Break pos) mBreak := sd_of ps_break fun D σ H ρ S E r er p => p ρ H σ r Ext.refl er
theorem sd_cont : SD X W (.Continue pos) mCont := sd_of ps_continue fun D σ H ρ S E r er p => p ρ H σ r Ext.refl er
theorem sd_if {c : Expr} {a b : List Stmt} {mc : MT} {ma mb : MS} (hc : TD X W c mc) (ha : BD X W a ma) (hb : BD X W b mb) : SD X W (.If c a b pos) (mIf mc ma mb) := by
  refine sd_of (ps_if hc ha hb) fun D σ H ρ S E r er p => ?_
  refine ⟨ρ, S, E, r, er, (SPost.bind (R := fun _ _ (b c : Bool) => b = c) er p).imp fun x H1 ⟨ρ1, S1, d, r1, e1, d1, p1⟩ => ?_⟩
  subst d1
  cases d with
  | true => rw [if_pos rfl] at p1 ⊢; exact ⟨ρ1, S1, E, r1, er.mono e1, p1⟩
  | false => rw [if_neg (by simp)] at p1 ⊢; exact ⟨ρ1, S1, E, r1, er.mono e1, p1⟩
theorem sd_ret {e : Expr} {m : ME} (h : ED X W e m) : SD X W (.Return (some e) pos) (mRet m) := by
  refine sd_of (ps_ret h) fun D σ H ρ S E r er p => ?_
  refine ⟨ρ, S, E, r, er, (SPost.bind (R := DV X.K) er p).imp fun x H1 ⟨ρ1, S1, d, r1, e1, d1, p1⟩ => ?_⟩
  exact p1 ρ1 H1 x r1 Ext.refl d1
theorem sd_retN : SD X W (.Return none pos) mRetN := sd_of ps_retN fun D σ H ρ S E r er p => p ρ H .non r Ext.refl (by simp [DV])
theorem sd_expr {e : Expr} {m : ME} (h : ED X W e m) (hs : swapsWith e none pos.line X.env = pure false := by rfl) : SD X W (.Expr e pos) (mDrop m) := by
  refine sd_of (ps_expr h hs) fun D σ H ρ S E r er p => ?_
  refine ⟨ρ, S, E, r, er, (SPost.bind (R := DV X.K) er p).imp fun x H1 ⟨ρ1, S1, d, r1, e1, d1, p1⟩ => ?_⟩
  exact p1 ρ1 H1 σ r1 Ext.refl (er.mono e1)
/-! targets -/
def tG (K : PySem.W.Frag) (W : WW K) (g : MG) : TG := fun v σ H Q => ∃ ρ S E d, Rel K ρ S H ∧ ER K W ρ H E σ ∧ DV K ρ H d v ∧ Post K (ER K W) ρ H Q (fun c dx H' => W.w c dx σ H') (g d E S)
def tGs (K : PySem.W.Frag) (W : WW K) (g : MGs) : TGs := fun vs σ H Q => ∃ ρ S E ds, Rel K ρ S H ∧ ER K W ρ H E σ ∧ DVs K ρ H ds vs ∧ Post K (ER K W) ρ H Q (fun c dx H' => W.w c dx σ H') (g ds E S)
def GD (X : Cx) (W : WW X.K) (tg : Expr) (g : MG) : Prop := PG X tg (tG X.K W g)
def GDs (X : Cx) (W : WW X.K) (tg : List Expr) (g : MGs) : Prop := PGs X tg (tGs X.K W g)
theorem PG.imp {tg : Expr} {t t' : TG} (h : PG X tg t) (i : ∀ v σ H Q, t' v σ H Q → t v σ H Q) : PG X tg t' := ⟨fun pins s σ H v u Q I r q => h.run pins s σ H v u Q I r (i _ _ _ _ q)⟩
theorem PGs.imp {tg : List Expr} {t t' : TGs} (h : PGs X tg t) (i : ∀ v σ H Q, t' v σ H Q → t v σ H Q) : PGs X tg t' := ⟨fun pins s σ H v u Q I r q => h.run pins s σ H v u Q I r (i _ _ _ _ q)⟩
theorem gd_name {i : Nat} {tg : Expr} (h : PG X tg (gName i)) (hw : W.fix = none := by rfl) : GD X W tg (gN i) :=
  PG.imp h fun v σ H Q ⟨ρ, S, E, d, r, er, dv, p⟩ => p ρ H _ r Ext.refl (er.set hw i dv)
theorem gds_nil : GDs X W [] gsNil := PGs.imp pgs_nil fun v σ H Q ⟨ρ, S, E, d, r, er, dv, p⟩ => by
  cases d with
  | nil => simp only [DVs] at dv; exact ⟨dv, p ρ H σ r Ext.refl er⟩
  | cons x xs => exact p.elim
theorem Post.noex {α β : Type} {K : PySem.W.Frag} {R : List Addr → Hp → α → β → Prop} {ρ : List Addr} {H : Hp} {Q : β → Hp → Prop} {Z Z' : XQ} {o : Out α} (h : Post K R ρ H Q Z o.noex) : Post K R ρ H Q Z' o := by
  cases o with
  | ok d S => exact h
  | ex e S => exact h.elim
  | bad => exact h
theorem gds_cons {e : Expr} {es : List Expr} {g : MG} {gs : MGs} (h1 : GD X W e g) (h2 : GDs X W es gs) (hs : (assignEach (e :: es) X.env).map (·.2) = assign e X.env :: (assignEach es X.env).map (·.2) := by rfl) : GDs X W (e :: es) (gsCons g gs) := by
  refine PGs.imp (pgs_cons h1 h2 hs) fun vs σ H Q ⟨ρ, S, E, ds, r, er, dv, p⟩ => ?_
  cases ds with
  | nil => exact p.elim
  | cons x xs =>
    simp only [DVs] at dv
    obtain ⟨v, vr, rfl, dx, dr⟩ := dv
    refine ⟨v, vr, rfl, ρ, S, E, x, r, er, dx, (Post.bind (R := ER X.K W) p).imp fun σ1 H1 ⟨ρ1, S1, E1, r1, e1, er1, p1⟩ => ?_⟩
    exact ⟨ρ1, S1, E1, xs, r1, er1, DVs.mono e1 _ _ dr, p1.noex⟩
theorem gd_tup {es : List Expr} {k n : Nat} {gs : MGs} (hc : X.calm = true) (h : GDs X W es gs) (hn : (assignEach es X.env).length = n := by rfl) (hst : (assignEach es X.env).findIdx? (·.1) = none := by rfl) : GD X W (.Tuple es k pos) (gT n gs) := by
  refine PG.imp (pg_tup hc h hn hst) fun v σ H Q ⟨ρ, S, E, d, r, er, dv, p⟩ => ?_
  cases d with
  | tup xs =>
    simp only [DV] at dv
    obtain ⟨a, vs, rfl, h1, h2⟩ := dv
    unfold gT at p
    simp only at p
    by_cases hl : xs.length = n
    · rw [if_pos hl] at p
      exact ⟨a, vs, rfl, h1, by rw [← h2.length]; exact hl, ρ, S, E, xs, r, er, h2, p⟩
    · rw [if_neg hl] at p; exact p.elim
  | _ => exact p.elim
theorem sd_asg {tg e : Expr} {m : ME} {g : MG} (he : ED X W e m) (hg : GD X W tg g) (hs : swapsWithSole [tg] e pos.line X.env = pure false := by rfl) (hw : swappedStores [tg] e X.env = pure none := by rfl)
    (h1 : (assignEach [tg] X.env).map (·.2) = [assign tg X.env] := by rfl) : SD X W (.Assign [tg] e pos) (mAsg m g) := by
  refine sd_of (ps_asg he hg hs hw h1) fun D σ H ρ S E r er p => ?_
  refine ⟨ρ, S, E, r, er, (SPost.bind (R := DV X.K) er p).imp fun x H1 ⟨ρ1, S1, d, r1, e1, d1, p1⟩ => ?_⟩
  refine ⟨ρ1, S1, E, d, r1, er.mono e1, d1, (SPost.bind (R := ER X.K W) (er.mono e1) p1).imp fun σ2 H2 ⟨ρ2, S2, E2, r2, e2, er2, p2⟩ => ?_⟩
  exact p2 ρ2 H2 σ2 r2 Ext.refl er2
theorem sd_set {i : Nat} {e : Expr} {m : ME} {x : Str} {pos' : Pos} (hN : X.N.Nodup) (hi : X.N[i]? = some x) (hx : Loc X.env.scope x) (he : ED X W e m) (hs : swapsWith e (some (.Name x pos')) pos.line X.env = pure false := by rfl)
    (hf : X.fn x = true ∨ X.env.scope.names.lookup x = some .local := by first | exact .inl rfl | exact .inr rfl | assumption) (hw : W.fix = none := by rfl) : SD X W (.Assign [.Name x pos'] e pos) (mSet i m) := by
  refine sd_of (ps_set hN hi hx he hs hf) fun D σ H ρ S E r er p => ?_
  refine ⟨ρ, S, E, r, er, (SPost.bind (R := DV X.K) er p).imp fun x H1 ⟨ρ1, S1, d, r1, e1, d1, p1⟩ => ?_⟩
  exact p1 ρ1 H1 _ r1 Ext.refl ((er.mono e1).set hw i d1)
/-! name op= value -/
def mAug (i : Nat) (g : Sto → D → D → Option D) (a : ME) : MS := fun E S => match E[i]? with
  | some (some x) => (a E S).toS E fun y S1 => (match g S1 x y with
    | some d => .nx (E.set i (some d)) S1
    | none => .bad)
  | _ => .bad
theorem sd_aug {i : Nat} {x : Str} {e : Expr} {m : ME} {op : Operator} {ti : TIp} {pos' : Pos} {g : Sto → D → D → Option D} (hN : X.N.Nodup) (hi : X.N[i]? = some x) (hx : Loc X.env.scope x) (he : ED X W e m) (ho : PIp X op ti) (hr : ∀ x y H Q, rP X.K g x y H Q → ti x y H Q)
    (hf : X.fn x = true ∨ X.env.scope.names.lookup x = some .local := by first | exact .inl rfl | exact .inr rfl | assumption) (hw : W.fix = none := by rfl) : SD X W (.AugAssign (.Name x pos') op e pos) (mAug i g m) := by
  refine sd_of (ps_aug hN hi hx he ho hf) fun D σ H ρ S E r er p => ?_
  unfold mAug at p
  cases q : E[i]? with
  | none => rw [q] at p; exact p.elim
  | some o =>
    cases o with
    | none => rw [q] at p; exact p.elim
    | some d0 =>
      rw [q] at p
      obtain ⟨v, h1, h2⟩ := er.2.2.2 i d0 q
      refine ⟨v, h1, ρ, S, E, r, er, (SPost.bind (R := DV X.K) er p).imp fun y H1 ⟨ρ1, S1, dy, r1, e1, d1, p1⟩ => ?_⟩
      cases hg : g S1 d0 dy with
      | none => rw [hg] at p1; exact p1.elim
      | some d =>
        rw [hg] at p1
        refine hr _ _ _ _ ⟨ρ1, S1, d0, dy, d, r1, DV.mono e1 _ _ h2, d1, hg, fun ρ' H' v' r' e' dv' => ?_⟩
        exact p1 ρ' H' _ r' e' (((er.mono e1).mono e').set hw i dv')
/-! ### while -/
def whileN (c : MT) (b : MS) : Nat → Evn → Sto → Option SO
  | 0, _, _ => none
  | n + 1, E, S => match c E S with
    | .ok true S1 => (match b E S1 with
      | .nx E2 S2 => whileN c b n E2 S2
      | .ct E2 S2 => whileN c b n E2 S2
      | .bk E2 S2 => some (.nx E2 S2)
      | r => some r)
    | .ok false S1 => some (.nx E S1)
    | .ex e S1 => some (.ex e E S1)
    | .bad => some .bad
theorem whileN_mono {c : MT} {b : MS} : ∀ (n : Nat) (E : Evn) (S : Sto) (r : SO), whileN c b n E S = some r → whileN c b (n + 1) E S = some r
  | 0, E, S, r, h => by cases h
  | n + 1, E, S, r, h => by
    unfold whileN at h ⊢
    cases q : c E S with
    | ok x S1 =>
      cases x with
      | false => rw [q] at h; exact h
      | true =>
        rw [q] at h
        simp only at h ⊢
        cases q2 : b E S1 with
        | nx E2 S2 => rw [q2] at h; exact whileN_mono n E2 S2 r h
        | ct E2 S2 => rw [q2] at h; exact whileN_mono n E2 S2 r h
        | bk E2 S2 => rw [q2] at h; exact h
        | rt d S2 => rw [q2] at h; exact h
        | ex e E2 S2 => rw [q2] at h; exact h
        | bad => rw [q2] at h; exact h
    | ex e S1 => rw [q] at h; exact h
    | bad => rw [q] at h; exact h
theorem whileN_le {c : MT} {b : MS} {n m : Nat} {E : Evn} {S : Sto} {r : SO} (h : whileN c b n E S = some r) (hm : n ≤ m) : whileN c b m E S = some r := by
  induction hm with
  | refl => exact h
  | step _ ih => exact whileN_mono _ _ _ _ ih
open Classical in
noncomputable def mWhile (c : MT) (b : MS) : MS := fun E S => if h : ∃ r n, whileN c b n E S = some r then Classical.choose h else .bad
theorem mWhile_of {c : MT} {b : MS} {n : Nat} {E : Evn} {S : Sto} {r : SO} (h : whileN c b n E S = some r) : mWhile c b E S = r := by
  have hx : ∃ r n, whileN c b n E S = some r := ⟨r, n, h⟩
  unfold mWhile
  rw [dif_pos hx]
  obtain ⟨m, hm⟩ := Classical.choose_spec hx
  have h1 := whileN_le h (Nat.le_max_left n m)
  have h2 := whileN_le hm (Nat.le_max_right n m)
  rw [h1] at h2
  exact (Option.some.inj h2).symm
theorem mWhile_some {c : MT} {b : MS} {E : Evn} {S : Sto} (h : mWhile c b E S ≠ .bad) : ∃ n, whileN c b n E S = some (mWhile c b E S) := by
  unfold mWhile at h ⊢
  by_cases hx : ∃ r n, whileN c b n E S = some r
  · rw [dif_pos hx]; exact Classical.choose_spec hx
  · rw [dif_neg hx] at h; exact absurd rfl h
/-- one turn -/
theorem mWhile_step {c : MT} {b : MS} {E E2 : Evn} {S S1 S2 : Sto} (h : c E S = .ok true S1) (hb : b E S1 = .nx E2 S2) : mWhile c b E S = mWhile c b E2 S2 := by
  by_cases hx : ∃ r n, whileN c b n E2 S2 = some r
  · obtain ⟨r, n, hn⟩ := hx
    rw [mWhile_of hn]
    exact mWhile_of (n := n + 1) (by unfold whileN; rw [h]; simp only; rw [hb]; exact hn)
  · have hy : ¬ ∃ r n, whileN c b n E S = some r := fun ⟨r, n, hn⟩ => by
      cases n with
      | zero => cases hn
      | succ n =>
        unfold whileN at hn
        rw [h] at hn
        simp only at hn
        rw [hb] at hn
        exact hx ⟨r, n, hn⟩
    unfold mWhile
    rw [dif_neg hx, dif_neg hy]
theorem mWhile_stepC {c : MT} {b : MS} {E E2 : Evn} {S S1 S2 : Sto} (h : c E S = .ok true S1) (hb : b E S1 = .ct E2 S2) : mWhile c b E S = mWhile c b E2 S2 := by
  by_cases hx : ∃ r n, whileN c b n E2 S2 = some r
  · obtain ⟨r, n, hn⟩ := hx
    rw [mWhile_of hn]
    exact mWhile_of (n := n + 1) (by unfold whileN; rw [h]; simp only; rw [hb]; exact hn)
  · have hy : ¬ ∃ r n, whileN c b n E S = some r := fun ⟨r, n, hn⟩ => by
      cases n with
      | zero => cases hn
      | succ n =>
        unfold whileN at hn
        rw [h] at hn
        simp only at hn
        rw [hb] at hn
        exact hx ⟨r, n, hn⟩
    unfold mWhile
    rw [dif_neg hx, dif_neg hy]
theorem mWhile_done {c : MT} {b : MS} {E : Evn} {S S1 : Sto} (h : c E S = .ok false S1) : mWhile c b E S = .nx E S1 := mWhile_of (n := 1) (by unfold whileN; rw [h])
theorem mWhile_ret {c : MT} {b : MS} {E : Evn} {S S1 S2 : Sto} {d : D} (h : c E S = .ok true S1) (hb : b E S1 = .rt d S2) : mWhile c b E S = .rt d S2 := mWhile_of (n := 1) (by unfold whileN; rw [h]; simp only; rw [hb])
theorem mWhile_brk {c : MT} {b : MS} {E E2 : Evn} {S S1 S2 : Sto} (h : c E S = .ok true S1) (hb : b E S1 = .bk E2 S2) : mWhile c b E S = .nx E2 S2 := mWhile_of (n := 1) (by unfold whileN; rw [h]; simp only; rw [hb])
theorem mWhile_exc {c : MT} {b : MS} {E E2 : Evn} {S S1 S2 : Sto} {e : Exn} (h : c E S = .ok true S1) (hb : b E S1 = .ex e E2 S2) : mWhile c b E S = .ex e E2 S2 := mWhile_of (n := 1) (by unfold whileN; rw [h]; simp only; rw [hb])
theorem sd_while {c : Expr} {body : List Stmt} {mc : MT} {mb : MS} (hp : PassesOwn (model X.prog X.w) X.A X.env X.xe) (hc : TD X W c mc) (hb : BD X W body mb) : SD X W (.While c body [] pos) (mWhile mc mb) := by
  refine sd_of (ps_while hp hc hb) fun D σ H ρ S E r er p => ?_
  have hne : mWhile mc mb E S ≠ .bad := fun z => by rw [z] at p; exact p
  obtain ⟨n, hn⟩ := mWhile_some hne
  generalize mWhile mc mb E S = res at p hn hne
  refine ⟨fun m σ1 H1 => ∃ ρ1 S1 E1, Rel X.K ρ1 S1 H1 ∧ Ext X.K ρ H ρ1 H1 ∧ ER X.K W ρ1 H1 E1 σ1 ∧ whileN mc mb m E1 S1 = some res, ⟨n, ρ, S, E, r, Ext.refl, er, hn⟩, ?_⟩
  rintro m σ1 H1 ⟨ρ1, S1, E1, r1, e1, er1, hm⟩
  cases m with
  | zero => cases hm
  | succ m =>
    refine ⟨ρ1, S1, E1, r1, er1, ?_⟩
    unfold whileN at hm
    cases q : mc E1 S1 with
    | bad =>
      rw [q] at hm
      exact absurd (Option.some.inj hm).symm hne
    | ex e S2 =>
      rw [q] at hm
      cases Option.some.inj hm
      exact fun ρ' H' c dx r' e' x => p ρ' H' σ1 c dx r' (e1.trans e') (er1.mono e') x
    | ok x S2 =>
      rw [q] at hm
      intro ρ2 H2 v r2 e2 hv
      subst hv
      cases x with
      | false =>
        rw [if_neg (by simp)]
        cases Option.some.inj hm
        exact p ρ2 H2 σ1 r2 (e1.trans e2) (er1.mono e2)
      | true =>
        rw [if_pos rfl]
        simp only at hm
        refine ⟨fun σ' H' => ∃ ρ1 S1 E1, Rel X.K ρ1 S1 H' ∧ Ext X.K ρ H ρ1 H' ∧ ER X.K W ρ1 H' E1 σ' ∧ whileN mc mb m E1 S1 = some res, fun σ' H' h => ⟨m, Nat.lt_succ_self m, h⟩, ρ2, S2, E1, r2, er1.mono e2, ?_⟩
        cases q2 : mb E1 S2 with
        | nx E3 S3 => rw [q2] at hm; exact fun ρ' H' σ' r' e' er' => ⟨ρ', S3, E3, r', (e1.trans e2).trans e', er', hm⟩
        | ct E3 S3 => rw [q2] at hm; exact fun ρ' H' σ' r' e' er' => ⟨ρ', S3, E3, r', (e1.trans e2).trans e', er', hm⟩
        | bk E3 S3 =>
          rw [q2] at hm
          cases Option.some.inj hm
          exact fun ρ' H' σ' r' e' er' => p ρ' H' σ' r' ((e1.trans e2).trans e') er'
        | rt d S3 =>
          rw [q2] at hm
          cases Option.some.inj hm
          exact fun ρ' H' v r' e' dv => p ρ' H' v r' ((e1.trans e2).trans e') dv
        | ex e E3 S3 =>
          rw [q2] at hm
          cases Option.some.inj hm
          exact fun ρ' H' σ' c dx r' e' er' x => p ρ' H' σ' c dx r' ((e1.trans e2).trans e') er' x
        | bad =>
          rw [q2] at hm
          exact absurd (Option.some.inj hm).symm hne
/-! ### for -/
/-- what a loop walks: its items; the list that must stand as it stood, where it is one that may change -/
structure ItD where
  items : List D
  chk : Option (Nat × List D)
open Classical in
noncomputable def chkOk (c : Option (Nat × List D)) (S : Sto) : Prop := match c with
  | none => True
  | some (n, xs) => S[n]? = some (.lst xs)
abbrev MI := Evn → Sto → Out ItD
open Classical in
noncomputable def forD (c : Option (Nat × List D)) (g : MG) (b : MS) : List D → Evn → Sto → SO
  | [], E, S => if chkOk c S then .nx E S else .bad
  | x :: r, E, S => if chkOk c S then (g x E S).toS E fun E1 S1 => (match b E1 S1 with
      | .nx E2 S2 => forD c g b r E2 S2
      | .ct E2 S2 => forD c g b r E2 S2
      | .bk E2 S2 => .nx E2 S2
      | o => o) else .bad
noncomputable def mFor (it : MI) (g : MG) (b : MS) : MS := fun E S => (it E S).toS E fun i S1 => forD i.chk g b i.items E S1
def Walks (K : PySem.W.Frag) (ρ0 : List Addr) (H0 : Hp) (i : ItD) (J : L2.It) : Prop := ∀ ρ S H, Rel K ρ S H → Ext K ρ0 H0 ρ H → chkOk i.chk S →
  (∀ (n : Nat) (d : D), i.items[n]? = some d → J.go n H ∧ ∀ x H', J.yld n H x H' → Rel K ρ S H' ∧ Ext K ρ H ρ H' ∧ DV K ρ H' d x) ∧ J.stop i.items.length H
theorem Walks.mono {K : PySem.W.Frag} {ρ0 ρ1 : List Addr} {H0 H1 : Hp} {i : ItD} {J : L2.It} (h : Walks K ρ0 H0 i J) (e : Ext K ρ0 H0 ρ1 H1) : Walks K ρ1 H1 i J := fun ρ S H r x c => h ρ S H r (e.trans x) c
def tI (K : PySem.W.Frag) (W : WW K) (m : MI) : TI := fun σ H R => ∃ ρ S E, Rel K ρ S H ∧ ER K W ρ H E σ ∧ Post K (Walks K) ρ H R (fun c dx H' => W.w c dx σ H') (m E S)
def ID (X : Cx) (W : WW X.K) (tg it : Expr) (m : MI) : Prop := PI X tg it (tI X.K W m)
theorem drop_cons_of {α : Type} {l : List α} {i : Nat} {x : α} (h : l[i]? = some x) : l.drop i = x :: l.drop (i + 1) := by
  have hi := (List.getElem?_eq_some_iff.mp h).1
  rw [List.drop_eq_getElem_cons hi]
  congr 1
  exact (List.getElem?_eq_some_iff.mp h).2
theorem sd_for {tg it : Expr} {body : List Stmt} {mi : MI} {g : MG} {mb : MS} (hp : PassesOwn (model X.prog X.w) X.A X.env X.xe) (hc : X.calm = true) (hi : ID X W tg it mi) (hg : GD X W tg g) (hb : BD X W body mb)
    (hs : ∀ x, foldedSetIterable it X.env x = pure x := by intro _; rfl) : SD X W (.For tg it body [] pos) (mFor mi g mb) := by
  refine sd_of (ps_for hp hc hi hg hb hs) fun D σ H ρ S E r er p => ?_
  refine ⟨ρ, S, E, r, er, (SPost.bind (R := Walks X.K) er p).imp fun J H1 ⟨ρ1, S1, i, r1, e1, w1, p1⟩ => ?_⟩
  refine ⟨fun n m σ2 H2 => m = i.items.length - n ∧ n ≤ i.items.length ∧ ∃ ρ2 S2 E2, Rel X.K ρ2 S2 H2 ∧ Ext X.K ρ1 H1 ρ2 H2 ∧ ER X.K W ρ2 H2 E2 σ2 ∧ SPost X.K W ρ2 H2 D (forD i.chk g mb (i.items.drop n) E2 S2),
    ⟨_, rfl, Nat.zero_le _, ρ1, S1, E, r1, Ext.refl, er.mono e1, by simpa using p1⟩, ?_⟩
  rintro n m σ2 H2 ⟨rfl, hn, ρ2, S2, E2, r2, e2, er2, p2⟩
  have hck : chkOk i.chk S2 := Classical.byContradiction fun z => by
    cases q : i.items.drop n with
    | nil => rw [q, forD, if_neg z] at p2; exact p2
    | cons x rr => rw [q, forD, if_neg z] at p2; exact p2
  obtain ⟨w2, w3⟩ := w1 ρ2 S2 H2 r2 e2 hck
  by_cases hlt : n < i.items.length
  · right
    have hd : i.items[n]? = some i.items[n] := List.getElem?_eq_getElem hlt
    obtain ⟨go, yl⟩ := w2 n _ hd
    refine ⟨go, fun σ' H' => n + 1 ≤ i.items.length ∧ ∃ ρ3 S3 E3, Rel X.K ρ3 S3 H' ∧ Ext X.K ρ1 H1 ρ3 H' ∧ ER X.K W ρ3 H' E3 σ' ∧ SPost X.K W ρ3 H' D (forD i.chk g mb (i.items.drop (n + 1)) E3 S3), fun σ' H' ⟨h1, h2⟩ => ⟨i.items.length - (n + 1), by omega, rfl, h1, h2⟩, fun x H3 hy => ?_⟩
    obtain ⟨r3, e3, d3⟩ := yl x H3 hy
    rw [drop_cons_of hd, forD, if_pos hck] at p2
    refine ⟨ρ2, S2, E2, _, r3, er2.mono e3, d3, (SPost.bind (R := ER X.K W) (er2.mono e3) (p2.start e3)).imp fun σ4 H4 ⟨ρ4, S4, E4, r4, e4, er4, p4⟩ => ?_⟩
    refine ⟨ρ4, S4, E4, r4, er4, ?_⟩
    have ee := (e2.trans e3).trans e4
    cases q : mb E4 S4 with
    | nx E5 S5 => rw [q] at p4; exact fun ρ' H' σ' r' e' er' => ⟨hlt, ρ', S5, E5, r', ee.trans e', er', p4.start e'⟩
    | ct E5 S5 => rw [q] at p4; exact fun ρ' H' σ' r' e' er' => ⟨hlt, ρ', S5, E5, r', ee.trans e', er', p4.start e'⟩
    | bk E5 S5 => rw [q] at p4; exact p4
    | rt d S5 => rw [q] at p4; exact p4
    | ex e E5 S5 => rw [q] at p4; exact p4
    | bad => rw [q] at p4; exact p4
  · left
    have hn2 : n = i.items.length := by omega
    subst hn2
    rw [List.drop_length, forD, if_pos hck] at p2
    exact ⟨w3, p2 ρ2 H2 σ2 r2 Ext.refl er2⟩
/-! what may be walked -/
def rngD (lo : Int) (n : Nat) : List D := (List.range n).map fun (i : Nat) => D.int (lo + (i : Int))
theorem rngD_get {lo : Int} {n i : Nat} {d : D} (h : (rngD lo n)[i]? = some d) : i < n ∧ d = .int (lo + (i : Int)) := by
  unfold rngD at h
  rw [List.getElem?_map] at h
  by_cases hi : i < n
  · rw [List.getElem?_eq_getElem (by simpa using hi)] at h
    simp at h
    exact ⟨hi, h.symm⟩
  · rw [List.getElem?_eq_none (by simpa using hi)] at h
    cases h
theorem walks_range {K : PySem.W.Frag} {ρ : List Addr} {H : Hp} {lo : Int} {n : Nat} : Walks K ρ H ⟨rngD lo n, none⟩ (Itr lo n) := by
  intro ρ1 S H1 r e c
  refine ⟨fun i d hd => ?_, by simp [rngD, Itr]⟩
  obtain ⟨h1, rfl⟩ := rngD_get hd
  refine ⟨h1, fun x H' hy => ?_⟩
  obtain ⟨rfl, rfl⟩ := hy
  exact ⟨r, Ext.refl, by simp [DV]⟩
def small62 (j : Int) : Prop := -(2 ^ 62) ≤ j ∧ j < 2 ^ 62
def int1 : List D → Option Int
  | [.int j] => some j
  | _ => none
def int2 : List D → Option (Int × Int)
  | [.int i, .int j] => some (i, j)
  | _ => none
theorem int1_some {ds : List D} {j : Int} (h : int1 ds = some j) : ds = [.int j] := by
  unfold int1 at h
  split at h
  · cases h; rfl
  · cases h
theorem int2_some {ds : List D} {i j : Int} (h : int2 ds = some (i, j)) : ds = [.int i, .int j] := by
  unfold int2 at h
  split at h
  · cases h; rfl
  · cases h
open Classical in
noncomputable def iRange1 (a : MA) : MI := fun E S => (a E S).bind fun ds S1 => match int1 ds with
  | some j => if small62 j then .ok ⟨rngD 0 j.toNat, none⟩ S1 else .bad
  | none => .bad
open Classical in
noncomputable def iRange2 (a : MA) : MI := fun E S => (a E S).bind fun ds S1 => match int2 ds with
  | some (i, j) => if small62 i ∧ small62 j then .ok ⟨rngD i (j - i).toNat, none⟩ S1 else .bad
  | none => .bad
theorem PI.impI {tg e : Expr} {t : TI} {m : MI} (h : PI X tg e t) (i : ∀ σ H R ρ S E, Rel X.K ρ S H → ER X.K W ρ H E σ → Post X.K (Walks X.K) ρ H R (fun c dx H' => W.w c dx σ H') (m E S) → t σ H R) : ID X W tg e m :=
  PI.imp h fun σ H R ⟨ρ, S, E, r, er, p⟩ => i σ H R ρ S E r er p
theorem dvs_int1 {K : PySem.W.Frag} {ρ : List Addr} {H : Hp} {j : Int} {vs : List V} (h : DVs K ρ H [.int j] vs) : vs = [.int j] := by
  simp only [DVs, DV] at h
  obtain ⟨v, r, rfl, rfl, rfl⟩ := h
  rfl
theorem dvs_int2 {K : PySem.W.Frag} {ρ : List Addr} {H : Hp} {i j : Int} {vs : List V} (h : DVs K ρ H [.int i, .int j] vs) : vs = [.int i, .int j] := by
  simp only [DVs, DV] at h
  obtain ⟨v, r, rfl, rfl, w, q, rfl, rfl, rfl⟩ := h
  rfl
theorem id_range1 {tg a : Expr} {ma : MA} {p : Pos} (hg : Gl X "range") (hm : X.mg "range" = none) (ha : AD X W [a] ma) (hs : starEach [a] X.env = [(false, eval a X.env)] := by rfl) : ID X W tg (.Call (.Name "range" p) [a] [] pos) (iRange1 ma) := by
  refine PI.impI (pi_range1 hg hm ha hs) fun σ H R ρ S E r er p => ?_
  refine ⟨ρ, S, E, r, er, (Post.bind (R := DVs X.K) p).imp fun vs H1 ⟨ρ1, S1, ds, r1, e1, d1, p1⟩ => ?_⟩
  cases q : int1 ds with
  | none => rw [q] at p1; exact p1.elim
  | some j =>
    rw [q] at p1
    have := int1_some q
    subst this
    simp only at p1
    by_cases hj : small62 j
    · rw [if_pos hj] at p1
      exact ⟨j, dvs_int1 d1, hj.1, hj.2, p1 ρ1 H1 _ r1 Ext.refl walks_range⟩
    · rw [if_neg hj] at p1; exact p1.elim
theorem id_range2 {tg a b : Expr} {ma : MA} {p : Pos} (hg : Gl X "range") (hm : X.mg "range" = none) (ha : AD X W [a, b] ma) (hs : starEach [a, b] X.env = [(false, eval a X.env), (false, eval b X.env)] := by rfl) (hs2 : starEach [b] X.env = [(false, eval b X.env)] := by rfl) : ID X W tg (.Call (.Name "range" p) [a, b] [] pos) (iRange2 ma) := by
  refine PI.impI (pi_range2 hg hm ha hs hs2) fun σ H R ρ S E r er p => ?_
  refine ⟨ρ, S, E, r, er, (Post.bind (R := DVs X.K) p).imp fun vs H1 ⟨ρ1, S1, ds, r1, e1, d1, p1⟩ => ?_⟩
  cases q : int2 ds with
  | none => rw [q] at p1; exact p1.elim
  | some ij =>
    obtain ⟨i, j⟩ := ij
    rw [q] at p1
    have := int2_some q
    subst this
    simp only at p1
    by_cases hj : small62 i ∧ small62 j
    · rw [if_pos hj] at p1
      exact ⟨i, j, dvs_int2 d1, ⟨hj.1.1, hj.1.2, hj.2.1, hj.2.2⟩, p1 ρ1 H1 _ r1 Ext.refl walks_range⟩
    · rw [if_neg hj] at p1; exact p1.elim
/-- the items of a value: a tuple, a list -/
def iSeq (a : ME) : MI := fun E S => (a E S).bind fun d S1 => match d with
  | .tup xs => .ok ⟨xs, none⟩ S1
  | .lst xs => .ok ⟨xs, none⟩ S1
  | .fz xs => .ok ⟨xs, none⟩ S1
  | .loc n => (match S1[n]? with
    | some (.lst xs) => .ok ⟨xs, some (n, xs)⟩ S1
    | _ => .bad)
  | _ => .bad
theorem walks_tup {ρ : List Addr} {H : Hp} {xs : List D} {vs : List V} {a : Addr} (h1 : SqT X.K H a vs) (h2 : DVs X.K ρ H xs vs) : Walks X.K ρ H ⟨xs, none⟩ (Itt X.K a) := by
  intro ρ1 S H1 r e c
  have s1 := e.tup _ _ h1
  have d1 := DVs.mono e _ _ h2
  refine ⟨fun i d hd => ?_, ⟨vs, s1, by rw [d1.length]; exact Nat.le_refl _⟩⟩
  obtain ⟨v, hv, dv⟩ := d1.get hd
  refine ⟨⟨vs, v, s1, hv⟩, fun x H' hy => ?_⟩
  obtain ⟨rfl, hy⟩ := hy
  have := hy vs s1
  rw [hv] at this
  cases this
  exact ⟨r, Ext.refl, dv⟩
theorem walks_lst {ρ : List Addr} {H : Hp} {xs : List D} {vs : List V} {a : Addr} (h1 : LstP ρ H a vs) (h2 : DVs X.K ρ H xs vs) : Walks X.K ρ H ⟨xs, none⟩ (Itl X.K a) := by
  intro ρ1 S H1 r e c
  have s1 : SqL X.K H1 a vs := (h1.mono e).seq
  have d1 := DVs.mono e _ _ h2
  refine ⟨fun i d hd => ?_, ⟨vs, s1, by rw [d1.length]; exact Nat.le_refl _⟩⟩
  obtain ⟨v, hv, dv⟩ := d1.get hd
  refine ⟨⟨vs, v, s1, hv⟩, fun x H' hy => ?_⟩
  obtain ⟨rfl, hy⟩ := hy
  have := hy vs s1
  rw [hv] at this
  cases this
  exact ⟨r, Ext.refl, dv⟩
theorem walks_fz {ρ : List Addr} {H : Hp} {xs : List D} {vs : List V} {a : Addr} (h1 : FzP X.K H a vs) (h2 : DVs X.K ρ H xs vs) : Walks X.K ρ H ⟨xs, none⟩ (Itl X.K a) := by
  intro ρ1 S H1 r e c
  have s1 := (h1.mono e).seq
  have d1 := DVs.mono e _ _ h2
  refine ⟨fun i d hd => ?_, ⟨vs, s1, by rw [d1.length]; exact Nat.le_refl _⟩⟩
  obtain ⟨v, hv, dv⟩ := d1.get hd
  refine ⟨⟨vs, v, s1, hv⟩, fun x H' hy => ?_⟩
  obtain ⟨rfl, hy⟩ := hy
  have := hy vs s1
  rw [hv] at this
  cases this
  exact ⟨r, Ext.refl, dv⟩
theorem Rel.lst {K : PySem.W.Frag} {ρ : List Addr} {S : Sto} {H : Hp} (r : Rel K ρ S H) {n : Nat} {xs : List D} {a : Addr} (h : S[n]? = some (.lst xs)) (ha : ρ[n]? = some a) : ∃ vs, H a = some (.lst vs) ∧ DVs K ρ H xs vs := r.at_ n _ a h ha
theorem walks_loc {ρ : List Addr} {H : Hp} {xs : List D} {n : Nat} {a : Addr} (ha : ρ[n]? = some a) : Walks X.K ρ H ⟨xs, some (n, xs)⟩ (Itl X.K a) := by
  intro ρ1 S H1 r e c
  obtain ⟨t, rfl⟩ := e.pre
  have ha1 : (ρ ++ t)[n]? = some a := by rw [List.getElem?_append_left (List.getElem?_eq_some_iff.mp ha).1]; exact ha
  obtain ⟨vs, h1, d1⟩ := r.lst c ha1
  refine ⟨fun i d hd => ?_, ⟨vs, SqL.of h1, by rw [d1.length]; exact Nat.le_refl _⟩⟩
  obtain ⟨v, hv, dv⟩ := d1.get hd
  refine ⟨⟨vs, v, SqL.of h1, hv⟩, fun x H' hy => ?_⟩
  obtain ⟨rfl, hy⟩ := hy
  have := hy vs (SqL.of h1)
  rw [hv] at this
  cases this
  exact ⟨r, Ext.refl, dv⟩
theorem PI.or {tg e : Expr} {t u : TI} (h : PI X tg e t) (k : PI X tg e u) : PI X tg e (fun σ H R => t σ H R ∨ u σ H R) :=
  ⟨fun pins s σ H R I q => q.elim (h.run pins s σ H R I) (k.run pins s σ H R I)⟩
theorem id_seq {tg e : Expr} {m : ME} (h : ED X W e m) : ID X W tg e (iSeq m) := by
  refine PI.impI (PI.or (pi_tup h) (pi_list h)) fun σ H R ρ S E r er p => ?_
  unfold iSeq at p
  cases q : m E S with
  | bad => rw [q] at p; exact p.elim
  | ex e S1 => rw [q] at p; exact .inl ⟨ρ, S, E, r, er, by rw [q]; exact p⟩
  | ok d S1 =>
    rw [q, bind_ok] at p
    cases d with
    | tup xs =>
      refine .inl ⟨ρ, S, E, r, er, ?_⟩
      rw [q]
      intro ρ1 H1 v r1 e1 dv
      simp only [DV] at dv
      obtain ⟨a, vs, rfl, h1, h2⟩ := dv
      exact ⟨a, rfl, ⟨vs, h1⟩, p ρ1 H1 _ r1 e1 (walks_tup h1 h2)⟩
    | lst xs =>
      refine .inr ⟨ρ, S, E, r, er, ?_⟩
      rw [q]
      intro ρ1 H1 v r1 e1 dv
      simp only [DV] at dv
      obtain ⟨a, vs, rfl, h1, h2⟩ := dv
      exact ⟨a, rfl, ⟨vs, h1.seq⟩, p ρ1 H1 _ r1 e1 (walks_lst h1 h2)⟩
    | fz xs =>
      refine .inr ⟨ρ, S, E, r, er, ?_⟩
      rw [q]
      intro ρ1 H1 v r1 e1 dv
      simp only [DV] at dv
      obtain ⟨a, vs, rfl, h1, h2⟩ := dv
      exact ⟨a, rfl, ⟨vs, h1.seq⟩, p ρ1 H1 _ r1 e1 (walks_fz h1 h2)⟩
    | loc n =>
      refine .inr ⟨ρ, S, E, r, er, ?_⟩
      rw [q]
      intro ρ1 H1 v r1 e1 dv
      simp only [DV] at dv
      obtain ⟨a, rfl, h1⟩ := dv
      simp only at p
      cases hS : S1[n]? with
      | none => rw [hS] at p; exact p.elim
      | some o =>
        cases o with
        | lst xs =>
          rw [hS] at p
          obtain ⟨vs, h2, d2⟩ := r1.lst hS h1
          exact ⟨a, rfl, ⟨vs, SqL.of h2⟩, p ρ1 H1 _ r1 e1 (walks_loc h1)⟩
        | _ => rw [hS] at p; exact p.elim
    | _ => exact p.elim
/-! ### a def's body -/
def runB (N : Nat) (b : MS) : MF := fun ds S => match b (ds.map some ++ List.replicate (N - ds.length) none) S with
  | .nx _ S' => .ok .non S'
  | .rt d S' => .ok d S'
  | .ex e _ S' => .ex e S'
  | _ => .bad
theorem er_start {K : PySem.W.Frag} {W : WX} {ρ : List Addr} {H : Hp} {ds : List D} {vs : List V} {N : List Str} (h : DVs K ρ H ds vs) : ER K (WW.of W) ρ H (ds.map some ++ List.replicate (N.length - ds.length) none) (L2.start N vs) := by
  unfold L2.start
  refine ⟨trivial, fun i a z => (by cases z), by simp [h.length], fun i d e => ?_⟩
  by_cases hi : i < ds.length
  · rw [List.getElem?_append_left (by simpa using hi), List.getElem?_map] at e
    cases q : ds[i]? with
    | none => rw [q] at e; cases e
    | some d' =>
      rw [q] at e
      simp only [Option.map_some, Option.some.injEq] at e
      subst e
      obtain ⟨v, h1, h2⟩ := h.get q
      refine ⟨v, ?_, h2⟩
      rw [List.getElem?_append_left (by simpa [← h.length] using hi), List.getElem?_map, h1]
      rfl
  · rw [List.getElem?_append_right (by simpa using hi)] at e
    rw [List.getElem?_replicate] at e
    split at e <;> cases e
theorem spM_len {K : PySem.W.Frag} {n : Nat} {m : MF} (vs : List V) (H : Hp) (Q : VK) (E : XK) (h : spM K n m vs H Q E) : vs.length = n := by
  obtain ⟨ρ, S, ds, r, dv, hl, p⟩ := h
  rw [← dv.length]; exact hl
/-- a def by its body -/
theorem fn_run {P : Program} {w : World} {K : PySem.W.Frag} {mg : Str → Option Value} {base : Heap} {x qual : Str} {params : Arguments} {body : List Stmt} {scope : Scope} {dvs : List V} {kws : List (Str × V)} {f : Addr} {fd : FuncData} {k : Nat} {N ps : List Str} {b : MS} {n : Nat}
    (F : FunD K x qual params body scope dvs kws f fd) (Sc : FnScope N ps scope) (hn : ps.length = n)
    (hb : ∀ (cdv : Value) (A : Around) (outer : List Env) (s : Shared) (H : Hp) (E : XK), Room k (A.deeper (envOfC qual scope s.heap.objs.size f cdv)) → BD (cxOf (L2.CX P w) P w K mg base N qual scope f cdv A outer s H E) (WW.of (K := K) fun c d _ H => E c d H) body b) :
    FnOk P w K mg base (L2.CX P w) (k + 1) f fd ps (spM K n (runB N.length b)) := by
  refine F.ok Sc (fun vs H Q E h => by rw [hn]; exact spM_len vs H Q E h) (fun cdv A outer s H vs Q E hr h => ⟨_, hb cdv A outer s H E hr, ?_⟩)
  obtain ⟨ρ, S, ds, r, dv, hl, p⟩ := h
  refine ⟨ρ, S, _, r, er_start dv, ?_⟩
  unfold runB at p
  cases q : b (ds.map some ++ List.replicate (N.length - ds.length) none) S with
  | nx E' S' => rw [q] at p; exact fun ρ' H' σ' r' e' er' => p ρ' H' .non r' e' (by simp [DV])
  | rt d S' => rw [q] at p; exact p
  | bk E' S' => rw [q] at p; exact p.elim
  | ct E' S' => rw [q] at p; exact p.elim
  | ex e E' S' => rw [q] at p; exact fun ρ' H' σ' c dx r' e' er' x => p ρ' H' c dx r' e' x
  | bad => rw [q] at p; exact p
end
end PD

/-! PyD3: the operators and the built-ins. -/
namespace PD
open PySem PySem.Spec PyProof.Rows L2
section
variable {X : Cx} {W : WW X.K} {pos : Pos}
/-! ### reading values -/
theorem dv_int {K : PySem.W.Frag} {ρ : List Addr} {H : Hp} {i : Int} {v : V} : DV K ρ H (.int i) v ↔ v = .int i := by simp [DV]
theorem dv_bl {K : PySem.W.Frag} {ρ : List Addr} {H : Hp} {i : Bool} {v : V} : DV K ρ H (.bl i) v ↔ v = .bl i := by simp [DV]
theorem dv_str {K : PySem.W.Frag} {ρ : List Addr} {H : Hp} {i : Tx} {v : V} : DV K ρ H (.str i) v ↔ v = sv i := by simp [DV]
theorem dv_non {K : PySem.W.Frag} {ρ : List Addr} {H : Hp} {v : V} : DV K ρ H .non v ↔ v = .non := by simp [DV]
/-- the list at a value, tracked by itself -/
def seqL (S : Sto) : D → Option (List D)
  | .lst xs => some xs
  | .loc n => (match S[n]? with
    | some (.lst xs) => some xs
    | _ => none)
  | _ => none
/-- the same, the locked ones too -/
def seqF (S : Sto) : D → Option (List D)
  | .lst xs => some xs
  | .fz xs => some xs
  | .loc n => (match S[n]? with
    | some (.lst xs) => some xs
    | _ => none)
  | _ => none
theorem seqL_ok {K : PySem.W.Frag} {ρ : List Addr} {S : Sto} {H : Hp} (r : Rel K ρ S H) {d : D} {v : V} {xs : List D} (h : DV K ρ H d v) (q : seqL S d = some xs) : ∃ a vs, v = .ref a ∧ H a = some (.lst vs) ∧ DVs K ρ H xs vs := by
  cases d with
  | lst ys =>
    cases q
    simp only [DV] at h
    obtain ⟨a, vs, rfl, h1, h2⟩ := h
    exact ⟨a, vs, rfl, h1.2, h2⟩
  | loc n =>
    simp only [DV] at h
    obtain ⟨a, rfl, h1⟩ := h
    unfold seqL at q
    simp only at q
    cases e : S[n]? with
    | none => rw [e] at q; cases q
    | some o =>
      cases o with
      | lst ys =>
        rw [e] at q
        cases q
        obtain ⟨vs, h2, d2⟩ := r.lst e h1
        exact ⟨a, vs, rfl, h2, d2⟩
      | _ => rw [e] at q; cases q
  | _ => cases q
theorem seqF_ok {K : PySem.W.Frag} {ρ : List Addr} {S : Sto} {H : Hp} (r : Rel K ρ S H) {d : D} {v : V} {xs : List D} (h : DV K ρ H d v) (q : seqF S d = some xs) : ∃ a vs, v = .ref a ∧ SqL K H a vs ∧ DVs K ρ H xs vs := by
  cases d with
  | fz ys =>
    cases q
    simp only [DV] at h
    obtain ⟨a, vs, rfl, h1, h2⟩ := h
    exact ⟨a, vs, rfl, h1.seq, h2⟩
  | lst ys =>
    cases q
    obtain ⟨a, vs, rfl, h1, h2⟩ := seqL_ok r h (xs := xs) rfl
    exact ⟨a, vs, rfl, SqL.of h1, h2⟩
  | loc n =>
    obtain ⟨a, vs, rfl, h1, h2⟩ := seqL_ok r h (xs := xs) q
    exact ⟨a, vs, rfl, SqL.of h1, h2⟩
  | _ => cases q
theorem tup_ok {K : PySem.W.Frag} {ρ : List Addr} {H : Hp} {v : V} {xs : List D} (h : DV K ρ H (.tup xs) v) : ∃ a vs, v = .ref a ∧ SqT K H a vs ∧ DVs K ρ H xs vs := by
  simp only [DV] at h
  exact h
/-! ### + -/
open Classical in
noncomputable def catL (a b : List D) : Option D := if sizeOk (a.length + b.length) then some (.lst (a ++ b)) else none
open Classical in
noncomputable def gAdd (S : Sto) (x y : D) : Option D := match x, y with
  | .int i, .int j => some (.int (i + j))
  | .str a, .str b => if sizeOk (a.length + b.length) then some (.str (a ++ b)) else none
  | .tup a, .tup b => if sizeOk (a.length + b.length) then some (.tup (a ++ b)) else none
  | x, y => (match seqL S x, seqL S y with
    | some a, some b => catL a b
    | _, _ => none)
theorem sv_len (a : Tx) : (⟨a.toArray⟩ : Str).length = a.length := by simp [Str.length]
theorem sv_cat (a b : Tx) : (⟨a.toArray⟩ : Str) ++ (⟨b.toArray⟩ : Str) = ⟨(a ++ b).toArray⟩ := by
  show (⟨a.toArray ++ b.toArray⟩ : Str) = _
  simp
theorem post_int {K : PySem.W.Frag} {ρ : List Addr} {S : Sto} {H : Hp} {Q : VK} {i : Int} (r : Rel K ρ S H) (q : ∀ ρ' H' v, Rel K ρ' S H' → Ext K ρ H ρ' H' → DV K ρ' H' (.int i) v → Q v H') : Q (.int i) H := q ρ H _ r Ext.refl (by simp [DV])
theorem post_bl {K : PySem.W.Frag} {ρ : List Addr} {S : Sto} {H : Hp} {Q : VK} {i : Bool} (r : Rel K ρ S H) (q : ∀ ρ' H' v, Rel K ρ' S H' → Ext K ρ H ρ' H' → DV K ρ' H' (.bl i) v → Q v H') : Q (.bl i) H := q ρ H _ r Ext.refl (by simp [DV])
theorem post_str {K : PySem.W.Frag} {ρ : List Addr} {S : Sto} {H : Hp} {Q : VK} {i : Tx} (r : Rel K ρ S H) (q : ∀ ρ' H' v, Rel K ρ' S H' → Ext K ρ H ρ' H' → DV K ρ' H' (.str i) v → Q v H') : Q (sv i) H := q ρ H _ r Ext.refl (by simp [DV])
theorem post_lst {K : PySem.W.Frag} {ρ : List Addr} {S : Sto} {H : Hp} {Q : VK} {xs : List D} {vs : List V} {p : Addr} (r : Rel K ρ S H) (hp : H p = none) (h : DVs K ρ H xs vs) (q : ∀ ρ' H' v, Rel K ρ' S H' → Ext K ρ H ρ' H' → DV K ρ' H' (.lst xs) v → Q v H') : Q (.ref p) (upd H p (.lst vs)) :=
  q ρ _ _ (r.new hp) (Ext.new hp) (dv_lst hp (r.notin hp) h)
theorem post_tup {K : PySem.W.Frag} {ρ : List Addr} {S : Sto} {H : Hp} {Q : VK} {xs : List D} {vs : List V} {p : Addr} (r : Rel K ρ S H) (hp : H p = none) (h : DVs K ρ H xs vs) (q : ∀ ρ' H' v, Rel K ρ' S H' → Ext K ρ H ρ' H' → DV K ρ' H' (.tup xs) v → Q v H') : Q (.ref p) (upd H p (.tup vs)) :=
  q ρ _ _ (r.new hp) (Ext.new hp) (dv_tup hp h)
def rAddD (K : PySem.W.Frag) : R2 := fun x y H Q => (rI0 fun i j => .int (i + j)) x y H Q ∨ (∃ i j, x = .str i ∧ y = .str j ∧ i.length + j.length ≤ sizeLine ∧ Q (.str (i ++ j)) H) ∨ rCatA K x y H Q ∨ rCat x y H Q
theorem op_addD : OpR X (binaryOp .Add) (rAddD X.K) := op_add.or (op_add_str.or (op_catA.or op_cat))
theorem add_cat {x y : D} {v u : V} {H : Hp} {Q : VK} {ρ : List Addr} {S : Sto} {d : D} {K : PySem.W.Frag} (r : Rel K ρ S H) (dx : DV K ρ H x v) (dy : DV K ρ H y u)
    (hg : (match seqL S x, seqL S y with
    | some a, some b => catL a b
    | _, _ => none) = some d) (q : ∀ ρ' H' v, Rel K ρ' S H' → Ext K ρ H ρ' H' → DV K ρ' H' d v → Q v H') : rCat v u H Q := by
  cases e1 : seqL S x with
  | none => rw [e1] at hg; cases hg
  | some a =>
    cases e2 : seqL S y with
    | none => rw [e1, e2] at hg; cases hg
    | some b =>
      rw [e1, e2] at hg
      simp only [catL] at hg
      obtain ⟨p, vs, rfl, h1, d1⟩ := seqL_ok r dx e1
      obtain ⟨p2, us, rfl, h2, d2⟩ := seqL_ok r dy e2
      by_cases hl : sizeOk (a.length + b.length)
      · rw [if_pos hl] at hg
        cases hg
        exact ⟨p, p2, vs, us, rfl, rfl, h1, h2, by rw [← d1.length, ← d2.length]; exact hl, fun t ht => post_lst r ht (d1.append d2) q⟩
      · rw [if_neg hl] at hg; cases hg
theorem rp_add : ∀ x y H Q, rP X.K gAdd x y H Q → rAddD X.K x y H Q := by
  rintro v u H Q ⟨ρ, S, x, y, d, r, dx, dy, hg, q⟩
  unfold gAdd at hg
  split at hg
  · rw [dv_int] at dx dy
    subst dx dy
    cases hg
    exact .inl ⟨_, _, rfl, rfl, post_int r q⟩
  · rename_i a b
    rw [dv_str] at dx dy
    subst dx dy
    by_cases hl : sizeOk (a.length + b.length)
    · rw [if_pos hl] at hg
      cases hg
      exact .inr (.inl ⟨_, _, rfl, rfl, by rw [sv_len, sv_len]; exact hl, by rw [sv_cat]; exact post_str r q⟩)
    · rw [if_neg hl] at hg; cases hg
  · rename_i a b
    obtain ⟨p, vs, rfl, h1, d1⟩ := tup_ok dx
    obtain ⟨p2, us, rfl, h2, d2⟩ := tup_ok dy
    by_cases hl : sizeOk (a.length + b.length)
    · rw [if_pos hl] at hg
      cases hg
      refine .inr (.inr (.inl ⟨p, p2, vs, us, rfl, rfl, h1, h2, by rw [← d1.length, ← d2.length]; exact hl, fun e => ?_, fun _ e => ?_, fun _ _ t ht => post_tup r ht (d1.append d2) q⟩))
      · have : a = [] := List.length_eq_zero_iff.mp (by rw [d1.length, e]; rfl)
        subst this
        exact q ρ H _ r Ext.refl dy
      · have : b = [] := List.length_eq_zero_iff.mp (by rw [d2.length, e]; rfl)
        subst this
        rw [List.append_nil] at q
        exact q ρ H _ r Ext.refl dx
    · rw [if_neg hl] at hg; cases hg
  · exact .inr (.inr (.inr (add_cat r dx dy hg q)))
/-! ### the others on whole numbers -/
def gII (f : Int → Int → Option D) (_ : Sto) (x y : D) : Option D := match x, y with
  | .int i, .int j => f i j
  | _, _ => none
theorem gII_some {f : Int → Int → Option D} {S : Sto} {x y d : D} (h : gII f S x y = some d) : ∃ i j, x = .int i ∧ y = .int j ∧ f i j = some d := by
  unfold gII at h
  split at h
  · exact ⟨_, _, rfl, rfl, h⟩
  · cases h
theorem rp_ii {f : Int → Int → Option D} {r : R2} (hr : ∀ (i j : Int) (d : D) (H : Hp) (Q : VK), f i j = some d → (∀ v, (∀ K ρ H, DV K ρ H d v) → Q v H) → r (.int i) (.int j) H Q) : ∀ x y H Q, rP X.K (gII f) x y H Q → r x y H Q := by
  rintro v u H Q ⟨ρ, S, x, y, d, r, dx, dy, hg, q⟩
  obtain ⟨i, j, rfl, rfl, hf⟩ := gII_some hg
  rw [dv_int] at dx dy
  subst dx dy
  exact hr i j d H Q hf fun v hv => q ρ H v r Ext.refl (hv _ _ _)
theorem dvI {i : Int} : ∀ (K : PySem.W.Frag) (ρ : List Addr) (H : Hp), DV K ρ H (.int i) (.int i) := fun _ _ _ => by simp [DV]
theorem dvB {i : Bool} : ∀ (K : PySem.W.Frag) (ρ : List Addr) (H : Hp), DV K ρ H (.bl i) (.bl i) := fun _ _ _ => by simp [DV]
def gMns := gII fun i j => some (.int (i - j))
theorem rp_sub : ∀ x y H Q, rP X.K gMns x y H Q → (rI0 fun i j => .int (i - j)) x y H Q := rp_ii fun i j d H Q h q => by cases h; exact ⟨i, j, rfl, rfl, q _ dvI⟩
def mulOk (i j : Int) : Prop := CMul i j ∨ CMulW i j
open Classical in
noncomputable def gMul := gII fun i j => if mulOk i j then some (.int (i * j)) else none
def rMulD : R2 := fun x y H Q => (rI CMul fun i j => .int (i * j)) x y H Q ∨ (rI CMulW fun i j => .int (i * j)) x y H Q
theorem op_mulD : OpR X (binaryOp .Mult) rMulD := op_mul.or op_mulW
theorem rp_mul : ∀ x y H Q, rP X.K gMul x y H Q → rMulD x y H Q := rp_ii fun i j d H Q h q => by
  by_cases hm : mulOk i j
  · rw [if_pos hm] at h
    cases h
    rcases hm with hm | hm
    · exact .inl ⟨i, j, rfl, rfl, hm, q _ dvI⟩
    · exact .inr ⟨i, j, rfl, rfl, hm, q _ dvI⟩
  · rw [if_neg hm] at h; cases h
def divOk (j : Int) : Prop := 0 < j ∧ j.natAbs.log2 < 9000
open Classical in
noncomputable def gDiv := gII fun i j => if divOk j then some (.int (i / j)) else none
theorem rp_div : ∀ x y H Q, rP X.K gDiv x y H Q → (rI CDivW fun i j => .int (i / j)) x y H Q := rp_ii fun i j d H Q h q => by
  by_cases hm : divOk j
  · rw [if_pos hm] at h; cases h; exact ⟨i, j, rfl, rfl, hm, q _ dvI⟩
  · rw [if_neg hm] at h; cases h
def modOk (j : Int) : Prop := 0 < j
open Classical in
noncomputable def gMod := gII fun i j => if modOk j then some (.int (i % j)) else none
theorem rp_mod : ∀ x y H Q, rP X.K gMod x y H Q → (rI (fun _ j => 0 < j) fun i j => .int (i % j)) x y H Q := rp_ii fun i j d H Q h q => by
  by_cases hm : modOk j
  · rw [if_pos hm] at h; cases h; exact ⟨i, j, rfl, rfl, hm, q _ dvI⟩
  · rw [if_neg hm] at h; cases h
def powOk (i j : Int) : Prop := 0 ≤ j ∧ j ≤ 1000000 ∧ i.natAbs < 2 ^ 64
open Classical in
noncomputable def gPow := gII fun i j => if powOk i j then some (.int (i ^ j.toNat)) else none
theorem rp_pow : ∀ x y H Q, rP X.K gPow x y H Q → (rI CPow fun i j => .int (i ^ j.toNat)) x y H Q := rp_ii fun i j d H Q h q => by
  by_cases hm : powOk i j
  · rw [if_pos hm] at h; cases h; exact ⟨i, j, rfl, rfl, hm, q _ dvI⟩
  · rw [if_neg hm] at h; cases h
/-! order of numbers, of texts -/
def gLt (_ : Sto) (x y : D) : Option D := match x, y with
  | .int i, .int j => some (.bl (decide (i < j)))
  | .str a, .str b => some (.bl (decide (a < b)))
  | _, _ => none
def gGt (S : Sto) (x y : D) : Option D := gLt S y x
def gLe (_ : Sto) (x y : D) : Option D := match x, y with
  | .int i, .int j => some (.bl (decide (i ≤ j)))
  | .str a, .str b => some (.bl (!decide (b < a)))
  | _, _ => none
def gGe (S : Sto) (x y : D) : Option D := gLe S y x
def rLtD : R2 := fun x y H Q => (rI0 fun i j => .bl (decide (i < j))) x y H Q ∨ (∃ i j, x = .str i ∧ y = .str j ∧ Q (.bl (decide (i.cps.toList < j.cps.toList))) H)
def rGtD : R2 := fun x y H Q => (rI0 fun i j => .bl (decide (j < i))) x y H Q ∨ (∃ i j, x = .str i ∧ y = .str j ∧ Q (.bl (decide (j.cps.toList < i.cps.toList))) H)
def rLeD : R2 := fun x y H Q => (rI0 fun i j => .bl (decide (i ≤ j))) x y H Q ∨ (∃ i j, x = .str i ∧ y = .str j ∧ Q (.bl (!decide (j.cps.toList < i.cps.toList))) H)
def rGeD : R2 := fun x y H Q => (rI0 fun i j => .bl (decide (j ≤ i))) x y H Q ∨ (∃ i j, x = .str i ∧ y = .str j ∧ Q (.bl (!decide (i.cps.toList < j.cps.toList))) H)
theorem op_ltD : OpR X (compareOp .Lt) rLtD := op_lt.or op_lt_str
theorem op_gtD : OpR X (compareOp .Gt) rGtD := op_gt.or op_gt_str
theorem op_leD : OpR X (compareOp .LtE) rLeD := op_le.or op_le_str
theorem op_geD : OpR X (compareOp .GtE) rGeD := op_ge.or op_ge_str
theorem rp_lt : ∀ x y H Q, rP X.K gLt x y H Q → rLtD x y H Q := by
  rintro v u H Q ⟨ρ, S, x, y, d, r, dx, dy, hg, q⟩
  unfold gLt at hg
  split at hg
  · rw [dv_int] at dx dy; subst dx dy; cases hg
    exact .inl ⟨_, _, rfl, rfl, post_bl r q⟩
  · rw [dv_str] at dx dy; subst dx dy; cases hg
    exact .inr ⟨_, _, rfl, rfl, post_bl r q⟩
  · cases hg
theorem rp_gt : ∀ x y H Q, rP X.K gGt x y H Q → rGtD x y H Q := by
  rintro v u H Q ⟨ρ, S, x, y, d, r, dx, dy, hg, q⟩
  unfold gGt gLt at hg
  split at hg
  · rw [dv_int] at dx dy; subst dx dy; cases hg
    exact .inl ⟨_, _, rfl, rfl, post_bl r q⟩
  · rw [dv_str] at dx dy; subst dx dy; cases hg
    exact .inr ⟨_, _, rfl, rfl, post_bl r q⟩
  · cases hg
theorem rp_le : ∀ x y H Q, rP X.K gLe x y H Q → rLeD x y H Q := by
  rintro v u H Q ⟨ρ, S, x, y, d, r, dx, dy, hg, q⟩
  unfold gLe at hg
  split at hg
  · rw [dv_int] at dx dy; subst dx dy; cases hg
    exact .inl ⟨_, _, rfl, rfl, post_bl r q⟩
  · rw [dv_str] at dx dy; subst dx dy; cases hg
    exact .inr ⟨_, _, rfl, rfl, post_bl r q⟩
  · cases hg
theorem rp_ge : ∀ x y H Q, rP X.K gGe x y H Q → rGeD x y H Q := by
  rintro v u H Q ⟨ρ, S, x, y, d, r, dx, dy, hg, q⟩
  unfold gGe gLe at hg
  split at hg
  · rw [dv_int] at dx dy; subst dx dy; cases hg
    exact .inl ⟨_, _, rfl, rfl, post_bl r q⟩
  · rw [dv_str] at dx dy; subst dx dy; cases hg
    exact .inr ⟨_, _, rfl, rfl, post_bl r q⟩
  · cases hg
/-! ### == -/
mutual
def toP : D → Option PyData
  | .non => some .none
  | .bl b => some (.bool b)
  | .int i => some (.int i)
  | .str x => some (.str ⟨x.toArray⟩)
  | .tup xs => (toPs xs).map PyData.tuple
  | .lst xs => (toPs xs).map PyData.list
  | .fz xs => (toPs xs).map PyData.list
  | .loc _ => none
  | .ty _ => none
  | .glo _ => none
  | .exo => none
def toPs : List D → Option (List PyData)
  | [] => some []
  | x :: xs => match toP x, toPs xs with
    | some a, some b => some (a :: b)
    | _, _ => none
end
mutual
theorem toP_ok {K : PySem.W.Frag} {ρ : List Addr} {H : Hp} : ∀ (d : D) (v : V) (p : PyData), DV K ρ H d v → toP d = some p → Dp K H v p
  | .non, v, p, h, q => by simp only [DV] at h; simp only [toP] at q; cases q; subst h; exact .non
  | .bl b, v, p, h, q => by simp only [DV] at h; simp only [toP] at q; cases q; subst h; exact .bl b
  | .int i, v, p, h, q => by simp only [DV] at h; simp only [toP] at q; cases q; subst h; exact .int i
  | .str x, v, p, h, q => by simp only [DV] at h; simp only [toP] at q; cases q; subst h; exact .str _
  | .tup xs, v, p, h, q => by
    simp only [DV] at h; simp only [toP] at q
    obtain ⟨a, vs, rfl, h1, h2⟩ := h
    cases e : toPs xs with
    | none => rw [e] at q; cases q
    | some ps => rw [e] at q; cases q; exact .tup h1 (toPs_ok xs vs ps h2 e)
  | .lst xs, v, p, h, q => by
    simp only [DV] at h; simp only [toP] at q
    obtain ⟨a, vs, rfl, h1, h2⟩ := h
    cases e : toPs xs with
    | none => rw [e] at q; cases q
    | some ps => rw [e] at q; cases q; exact .lst h1.seq (toPs_ok xs vs ps h2 e)
  | .fz xs, v, p, h, q => by
    simp only [DV] at h; simp only [toP] at q
    obtain ⟨a, vs, rfl, h1, h2⟩ := h
    cases e : toPs xs with
    | none => rw [e] at q; cases q
    | some ps => rw [e] at q; cases q; exact .lst h1.seq (toPs_ok xs vs ps h2 e)
  | .loc _, _, _, _, q => by simp only [toP] at q; cases q
  | .ty _, _, _, _, q => by simp only [toP] at q; cases q
  | .glo _, _, _, _, q => by simp only [toP] at q; cases q
  | .exo, _, _, _, q => by simp only [toP] at q; cases q
theorem toPs_ok {K : PySem.W.Frag} {ρ : List Addr} {H : Hp} : ∀ (ds : List D) (vs : List V) (ps : List PyData), DVs K ρ H ds vs → toPs ds = some ps → DpAll K H vs ps
  | [], vs, ps, h, q => by simp only [DVs] at h; simp only [toPs] at q; cases q; subst h; exact .nil
  | x :: xs, vs, ps, h, q => by
    simp only [DVs] at h; simp only [toPs] at q
    obtain ⟨v, r, rfl, h1, h2⟩ := h
    cases e : toP x with
    | none => rw [e] at q; cases q
    | some a =>
      cases e2 : toPs xs with
      | none => rw [e, e2] at q; cases q
      | some b => rw [e, e2] at q; cases q; exact .cons (toP_ok x v a h1 e) (toPs_ok xs r b h2 e2)
end
/-- the datum of a value, a list that may change by its items -/
def toPS (S : Sto) (d : D) : Option PyData := match seqF S d with
  | some xs => (toPs xs).map PyData.list
  | none => toP d
theorem toPS_ok {K : PySem.W.Frag} {ρ : List Addr} {S : Sto} {H : Hp} (r : Rel K ρ S H) {d : D} {v : V} {p : PyData} (h : DV K ρ H d v) (q : toPS S d = some p) : Dp K H v p := by
  unfold toPS at q
  cases e : seqF S d with
  | none => rw [e] at q; exact toP_ok d v p h q
  | some xs =>
    rw [e] at q
    obtain ⟨a, vs, rfl, h1, h2⟩ := seqF_ok r h e
    simp only at q
    cases e2 : toPs xs with
    | none => rw [e2] at q; cases q
    | some ps => rw [e2] at q; cases q; exact .lst h1 (toPs_ok xs vs ps h2 e2)
def deepEq (S : Sto) (x y : D) : Option Bool := match toPS S x, toPS S y with
  | some a, some b => if SeqAt.shaped a = true ∧ SeqAt.shaped b = true then some (PyData.eqv a b) else none
  | _, _ => none
def eqB (S : Sto) (x y : D) : Option Bool := match x, y with
  | .int i, .int j => some (decide (i = j))
  | .str a, .str b => some (decide (a = b))
  | .bl a, .bl b => some (decide (a = b))
  | .non, .non => some true
  | .non, .int _ => some false
  | .int _, .non => some false
  | .str _, .non => some false
  | .non, .str _ => some false
  | x, y => deepEq S x y
def gEq (S : Sto) (x y : D) : Option D := (eqB S x y).map D.bl
def gNe (S : Sto) (x y : D) : Option D := (eqB S x y).map fun b => D.bl (!b)
def rEqA (K : PySem.W.Frag) : R2 := fun x y H Q => rEq x y H Q ∨ rEqD K x y H Q
def rNeA (K : PySem.W.Frag) : R2 := fun x y H Q => rNe x y H Q ∨ rNeD K x y H Q
theorem op_eqA (hu : X.A.units + 64 < cLine) : OpR X (compareOp .Eq) (rEqA X.K) := op_eq.or (op_eqD hu)
theorem op_neA (hu : X.A.units + 64 < cLine) : OpR X (compareOp .NotEq) (rNeA X.K) := op_ne.or (op_neD hu)
theorem sv_inj {a b : Tx} : sv a = sv b ↔ a = b := by
  unfold sv
  constructor
  · intro h
    injection h with h
    exact congrArg (fun x : Str => x.cps.toList) h
  · intro h; rw [h]
theorem eqB_ok {K : PySem.W.Frag} {ρ : List Addr} {S : Sto} {H : Hp} {x y : D} {v u : V} {b : Bool} (r : Rel K ρ S H) (dx : DV K ρ H x v) (dy : DV K ρ H y u) (h : eqB S x y = some b) :
    (scal v u = true ∧ decide (v = u) = b) ∨ ∃ d e, Dp K H v d ∧ Dp K H u e ∧ SeqAt.shaped d = true ∧ SeqAt.shaped e = true ∧ PyData.eqv d e = b := by
  unfold eqB at h
  split at h
  · rw [dv_int] at dx dy; subst dx dy; cases h; exact .inl ⟨rfl, by simp⟩
  · rw [dv_str] at dx dy; subst dx dy; cases h; exact .inl ⟨rfl, by simp [sv_inj]⟩
  · rw [dv_bl] at dx dy; subst dx dy; cases h; exact .inl ⟨rfl, by simp⟩
  · rw [dv_non] at dx dy; subst dx dy; cases h; exact .inl ⟨by rw [show scal V.non V.non = true from rfl], by simp⟩
  · rw [dv_non] at dx; rw [dv_int] at dy; subst dx dy; cases h; exact .inl ⟨rfl, by simp⟩
  · rw [dv_int] at dx; rw [dv_non] at dy; subst dx dy; cases h; exact .inl ⟨rfl, by simp⟩
  · rw [dv_str] at dx; rw [dv_non] at dy; subst dx dy; cases h; exact .inl ⟨rfl, by simp [sv]⟩
  · rw [dv_non] at dx; rw [dv_str] at dy; subst dx dy; cases h; exact .inl ⟨rfl, by simp [sv]⟩
  · unfold deepEq at h
    split at h
    · rename_i a b' e1 e2
      by_cases hs : SeqAt.shaped a = true ∧ SeqAt.shaped b' = true
      · rw [if_pos hs] at h
        cases h
        exact .inr ⟨a, b', toPS_ok r dx e1, toPS_ok r dy e2, hs.1, hs.2, rfl⟩
      · rw [if_neg hs] at h; cases h
    · cases h
theorem rp_eq : ∀ x y H Q, rP X.K gEq x y H Q → rEqA X.K x y H Q := by
  rintro v u H Q ⟨ρ, S, x, y, d, r, dx, dy, hg, q⟩
  unfold gEq at hg
  cases e : eqB S x y with
  | none => rw [e] at hg; cases hg
  | some b =>
    rw [e] at hg
    cases hg
    rcases eqB_ok r dx dy e with ⟨h1, rfl⟩ | ⟨a, c, h1, h2, h3, h4, rfl⟩
    · exact .inl ⟨h1, post_bl r q⟩
    · exact .inr ⟨a, c, h1, h2, h3, h4, post_bl r q⟩
theorem rp_ne : ∀ x y H Q, rP X.K gNe x y H Q → rNeA X.K x y H Q := by
  rintro v u H Q ⟨ρ, S, x, y, d, r, dx, dy, hg, q⟩
  unfold gNe at hg
  cases e : eqB S x y with
  | none => rw [e] at hg; cases hg
  | some b =>
    rw [e] at hg
    cases hg
    rcases eqB_ok r dx dy e with ⟨h1, rfl⟩ | ⟨a, c, h1, h2, h3, h4, rfl⟩
    · exact .inl ⟨h1, post_bl r q⟩
    · exact .inr ⟨a, c, h1, h2, h3, h4, post_bl r q⟩
/-! is None -/
def gIsN (_ : Sto) (x y : D) : Option D := match y with
  | .non => some (.bl (match x with | .non => true | _ => false))
  | _ => none
def gNotN (_ : Sto) (x y : D) : Option D := match y with
  | .non => some (.bl (match x with | .non => false | _ => true))
  | _ => none
theorem dv_isnon {K : PySem.W.Frag} {ρ : List Addr} {H : Hp} {x : D} {v : V} (h : DV K ρ H x v) : decide (v = .non) = (match x with | .non => true | _ => false) := by
  cases x with
  | non => rw [dv_non] at h; subst h; rfl
  | bl b => rw [dv_bl] at h; subst h; simp
  | int b => rw [dv_int] at h; subst h; simp
  | str b => rw [dv_str] at h; subst h; simp [sv]
  | tup b => simp only [DV] at h; obtain ⟨a, vs, rfl, _⟩ := h; simp
  | lst b => simp only [DV] at h; obtain ⟨a, vs, rfl, _⟩ := h; simp
  | fz b => simp only [DV] at h; obtain ⟨a, vs, rfl, _⟩ := h; simp
  | loc b => simp only [DV] at h; obtain ⟨a, rfl, _⟩ := h; simp
  | ty b => simp only [DV] at h; subst h; simp
  | glo b => simp only [DV] at h; subst h; simp
  | exo => simp only [DV] at h; obtain ⟨a, rfl⟩ := h; simp
def rIsD : R2 := fun x y H Q => (y = .non ∧ Q (.bl (decide (x = .non))) H)
def rIsND : R2 := fun x y H Q => (y = .non ∧ Q (.bl (!decide (x = .non))) H)
theorem rp_isN : ∀ x y H Q, rP X.K gIsN x y H Q → rIsD x y H Q := by
  rintro v u H Q ⟨ρ, S, x, y, d, r, dx, dy, hg, q⟩
  unfold gIsN at hg
  split at hg
  · rw [dv_non] at dy; subst dy; cases hg
    refine ⟨rfl, ?_⟩
    rw [dv_isnon dx]
    cases x <;> exact post_bl r q
  · cases hg
theorem rp_notN : ∀ x y H Q, rP X.K gNotN x y H Q → rIsND x y H Q := by
  rintro v u H Q ⟨ρ, S, x, y, d, r, dx, dy, hg, q⟩
  unfold gNotN at hg
  split at hg
  · rw [dv_non] at dy; subst dy; cases hg
    refine ⟨rfl, ?_⟩
    rw [dv_isnon dx]
    cases x <;> exact post_bl r q
  · cases hg
/-! ### in -/
/-- in a text: one sign; in a row of plain data -/
def inB (S : Sto) (x y : D) : Option Bool := match x, y with
  | .str [c], .str z => some (decide (c ∈ z))
  | x, y => (match toP x, (match y with | .tup ys => toPs ys | y => (seqF S y).bind toPs) with
    | some a, some bs => if SeqAt.shaped a = true ∧ SeqAt.shaped (.list bs) = true then some (bs.any fun z => PyData.eqv z a) else none
    | _, _ => none)
/-! ### one operand, built-ins -/
def gNeg (_ : Sto) (x : D) : Option D := match x with
  | .int i => some (.int (-i))
  | _ => none
theorem rp_neg : ∀ x H Q, rP1 X.K gNeg x H Q → (rU fun i => .int (-i)) x H Q := by
  rintro v H Q ⟨ρ, S, x, d, r, dx, hg, q⟩
  unfold gNeg at hg
  split at hg
  · rw [dv_int] at dx; subst dx; cases hg
    exact ⟨_, rfl, post_int r q⟩
  · cases hg
open Classical in
noncomputable def gLen (S : Sto) (ds : List D) : Option D := match ds with
  | [.str x] => if sizeOk (x.length) then some (.int x.length) else none
  | [.tup xs] => some (.int xs.length)
  | [d] => (seqF S d).map fun xs => .int xs.length
  | _ => none
theorem dvs1 {K : PySem.W.Frag} {ρ : List Addr} {H : Hp} {d : D} {vs : List V} (h : DVs K ρ H [d] vs) : ∃ v, vs = [v] ∧ DV K ρ H d v := by
  simp only [DVs] at h
  obtain ⟨v, r, rfl, h1, rfl⟩ := h
  exact ⟨v, rfl, h1⟩
theorem dvs2 {K : PySem.W.Frag} {ρ : List Addr} {H : Hp} {d e : D} {vs : List V} (h : DVs K ρ H [d, e] vs) : ∃ v u, vs = [v, u] ∧ DV K ρ H d v ∧ DV K ρ H e u := by
  simp only [DVs] at h
  obtain ⟨v, r, rfl, h1, u, t, rfl, h2, rfl⟩ := h
  exact ⟨v, u, rfl, h1, h2⟩
def rLenD (K : PySem.W.Frag) : List V → Hp → VK → Prop := fun xs H Q => ∃ x n, xs = [x] ∧ LenV K x H n ∧ Q (.int n) H
theorem rp_len : ∀ vs H Q, rPB X.K gLen vs H Q → rLenD X.K vs H Q := by
  rintro vs H Q ⟨ρ, S, ds, d, r, dv, hg, q⟩
  unfold gLen at hg
  split at hg
  · rename_i x
    obtain ⟨v, rfl, h1⟩ := dvs1 dv
    rw [dv_str] at h1; subst h1
    by_cases hl : sizeOk (x.length)
    · rw [if_pos hl] at hg; cases hg
      exact ⟨_, _, rfl, ⟨by rw [sv_len]; exact hl, (sv_len x).symm⟩, post_int r q⟩
    · rw [if_neg hl] at hg; cases hg
  · rename_i xs
    obtain ⟨v, rfl, h1⟩ := dvs1 dv
    obtain ⟨a, us, rfl, h2, h3⟩ := tup_ok h1
    cases hg
    exact ⟨_, _, rfl, .inr ⟨us, h2, h3.length⟩, post_int r q⟩
  · rename_i x _ _
    obtain ⟨v, rfl, h1⟩ := dvs1 dv
    cases e : seqF S x with
    | none => rw [e] at hg; cases hg
    | some xs =>
      rw [e] at hg; cases hg
      obtain ⟨a, us, rfl, h2, h3⟩ := seqF_ok r h1 e
      exact ⟨_, _, rfl, .inl ⟨us, h2, h3.length⟩, post_int r q⟩
  · cases hg
def gAbs (_ : Sto) (ds : List D) : Option D := match ds with
  | [.int i] => some (.int (if i < 0 then -i else i))
  | _ => none
theorem rp_abs : ∀ vs H Q, rPB X.K gAbs vs H Q → (∃ i, vs = [V.int i] ∧ Q (.int (if i < 0 then -i else i)) H) := by
  rintro vs H Q ⟨ρ, S, ds, d, r, dv, hg, q⟩
  unfold gAbs at hg
  split at hg
  · have := dvs_int1 dv; subst this; cases hg
    exact ⟨_, rfl, post_int r q⟩
  · cases hg
def gMax2 (_ : Sto) (ds : List D) : Option D := match ds with
  | [.int i, .int j] => some (.int (if j > i then j else i))
  | _ => none
theorem rp_max2 : ∀ vs H Q, rPB X.K gMax2 vs H Q → (∃ i j, vs = [V.int i, V.int j] ∧ Q (.int (if j > i then j else i)) H) := by
  rintro vs H Q ⟨ρ, S, ds, d, r, dv, hg, q⟩
  unfold gMax2 at hg
  split at hg
  · have := dvs_int2 dv; subst this; cases hg
    exact ⟨_, _, rfl, post_int r q⟩
  · cases hg
def gMin2 (_ : Sto) (ds : List D) : Option D := match ds with
  | [.int i, .int j] => some (.int (if j < i then j else i))
  | _ => none
theorem rp_min2 : ∀ vs H Q, rPB X.K gMin2 vs H Q → (∃ i j, vs = [V.int i, V.int j] ∧ Q (.int (if j < i then j else i)) H) := by
  rintro vs H Q ⟨ρ, S, ds, d, r, dv, hg, q⟩
  unfold gMin2 at hg
  split at hg
  · have := dvs_int2 dv; subst this; cases hg
    exact ⟨_, _, rfl, post_int r q⟩
  · cases hg
/-- int of a number, of a truth -/
def gInt (_ : Sto) (ds : List D) : Option D := match ds with
  | [.int i] => some (.int i)
  | [.bl k] => some (.int (if k then 1 else 0))
  | _ => none
def rIntD : List V → Hp → VK → Prop := fun xs H Q => (∃ i, xs = [.int i] ∧ Q (.int i) H) ∨ ∃ k, xs = [.bl k] ∧ Q (.int (if k then 1 else 0)) H
theorem rp_int : ∀ vs H Q, rPB X.K gInt vs H Q → rIntD vs H Q := by
  rintro vs H Q ⟨ρ, S, ds, d, r, dv, hg, q⟩
  unfold gInt at hg
  split at hg
  · have := dvs_int1 dv; subst this; cases hg
    exact .inl ⟨_, rfl, post_int r q⟩
  · obtain ⟨v, rfl, h1⟩ := dvs1 dv
    rw [dv_bl] at h1; subst h1; cases hg
    exact .inr ⟨_, rfl, post_int r q⟩
  · cases hg
/-! items -/
def atD (xs : List D) (i : Int) : Option D := if 0 ≤ i then xs[i.toNat]? else if -(xs.length : Int) ≤ i then xs[(i + xs.length).toNat]? else none
theorem atD_ok {K : PySem.W.Frag} {ρ : List Addr} {H : Hp} {xs : List D} {vs : List V} {i : Int} {d : D} (h : DVs K ρ H xs vs) (e : atD xs i = some d) : ∃ v, atI vs i = some v ∧ DV K ρ H d v := by
  unfold atD at e
  unfold atI ixN
  have hl := h.length
  by_cases h0 : 0 ≤ i
  · rw [if_pos h0] at e ⊢
    obtain ⟨v, h1, h2⟩ := h.get e
    have hi := (List.getElem?_eq_some_iff.mp h1).1
    rw [if_pos (by omega)]
    exact ⟨v, h1, h2⟩
  · rw [if_neg h0] at e ⊢
    by_cases h1 : -(xs.length : Int) ≤ i
    · rw [if_pos h1] at e
      rw [if_pos (by omega)]
      obtain ⟨v, h1, h2⟩ := h.get e
      rw [hl] at h1
      exact ⟨v, h1, h2⟩
    · rw [if_neg h1] at e; cases e
open Classical in
noncomputable def gIx (S : Sto) (x y : D) : Option D := match x, y with
  | .str z, .int i => if sizeOk (z.length) then (if 0 ≤ i then z[i.toNat]? else if -(z.length : Int) ≤ i then z[(i + z.length).toNat]? else none).map fun c => .str [c] else none
  | .tup xs, .int i => atD xs i
  | x, .int i => (seqF S x).bind fun xs => atD xs i
  | _, _ => none
theorem rp_ix : ∀ x y H Q, rP X.K gIx x y H Q → rIx X.K x y H Q := by
  rintro v u H Q ⟨ρ, S, x, y, d, r, dx, dy, hg, q⟩
  unfold gIx at hg
  split at hg
  · rename_i z i
    rw [dv_str] at dx; rw [dv_int] at dy; subst dx dy
    by_cases hl : sizeOk (z.length)
    · rw [if_pos hl] at hg
      refine .inr (.inr ?_)
      have key : ∃ c, atI z i = some c ∧ d = .str [c] := by
        unfold atI ixN
        by_cases h0 : 0 ≤ i
        · rw [if_pos h0] at hg ⊢
          cases e : z[i.toNat]? with
          | none => rw [e] at hg; cases hg
          | some c =>
            rw [e] at hg; cases hg
            have hi := (List.getElem?_eq_some_iff.mp e).1
            rw [if_pos (by omega)]
            exact ⟨c, e, rfl⟩
        · rw [if_neg h0] at hg ⊢
          by_cases h1 : -(z.length : Int) ≤ i
          · rw [if_pos h1] at hg ⊢
            cases e : z[(i + (z.length : Int)).toNat]? with
            | none => rw [e] at hg; cases hg
            | some c => rw [e] at hg; cases hg; exact ⟨c, e, rfl⟩
          · rw [if_neg h1] at hg; cases hg
      obtain ⟨c, h1, rfl⟩ := key
      exact ⟨_, i, c, rfl, rfl, by rw [sv_len]; exact hl, h1, post_str r q⟩
    · rw [if_neg hl] at hg; cases hg
  · rename_i xs i
    rw [dv_int] at dy; subst dy
    obtain ⟨a, vs, rfl, h1, h2⟩ := tup_ok dx
    obtain ⟨w, h3, h4⟩ := atD_ok h2 hg
    exact .inr (.inl ⟨a, vs, i, w, rfl, rfl, h1, h3, q ρ H w r Ext.refl h4⟩)
  · rename_i i _ _
    rw [dv_int] at dy; subst dy
    cases e : seqF S x with
    | none => rw [e] at hg; cases hg
    | some xs =>
      rw [e] at hg
      obtain ⟨a, vs, rfl, h1, h2⟩ := seqF_ok r dx e
      obtain ⟨w, h3, h4⟩ := atD_ok h2 hg
      exact .inl ⟨a, vs, i, w, rfl, rfl, h1, h3, q ρ H w r Ext.refl h4⟩
  · cases hg
/-! name op= value -/
def ipSub : TIp := ipI fun i j => i - j
theorem rp_isub : ∀ x y H Q, rP X.K gMns x y H Q → (ipI fun i j => i - j) x y H Q := rp_ii fun i j d H Q h q => by cases h; exact ⟨i, j, rfl, rfl, q _ dvI⟩
theorem ipR {op : Operator} {r : R2} (h : OpR X (inplaceOp op) r) : PIp X op r := fun pins s σ H x y v u Q I r1 r2 q => h pins s σ H x y v u Q I r1 r2 q
theorem rp_imul : ∀ x y H Q, rP X.K gMul x y H Q → (rI (fun i j => mulOk i j) fun i j => .int (i * j)) x y H Q := rp_ii fun i j d H Q h q => by
  by_cases hm : mulOk i j
  · rw [if_pos hm] at h
    cases h
    exact ⟨i, j, rfl, rfl, hm, q _ dvI⟩
  · rw [if_neg hm] at h; cases h
theorem iop_mulD : OpR X (inplaceOp .Mult) (rI (fun i j => mulOk i j) fun i j => .int (i * j)) := opI fun _ _ _ _ _ _ _ hc q => imul_int q (hc.elim CMul.ok CMulW.ok)
/-! isinstance against a built-in type -/
def tyName : D → Option String
  | .non => some "NoneType"
  | .bl _ => some "bool"
  | .int _ => some "int"
  | .str _ => some "str"
  | .tup _ => some "tuple"
  | .lst _ => some "list"
  | .fz _ => some "list"
  | _ => none
/-- a small table: which type is a subtype of which -/
def isTy (t : String) : String → Option Bool
  | "int" => some (t == "int" || t == "bool")
  | "bool" => some (t == "bool")
  | "str" => some (t == "str")
  | "tuple" => some (t == "tuple")
  | "list" => some (t == "list")
  | "dict" => some (t == "dict")
  | _ => none
def gIsi (S : Sto) (ds : List D) : Option D := match ds with
  | [x, .ty n] => (match (match x with | .loc k => (match S[k]? with | some (.lst _) => some "list" | some (.dic _) => some "dict" | _ => none) | x => tyName x) with
    | some t => (isTy t n).map D.bl
    | none => none)
  | _ => none
theorem isTy_kit {K : PySem.W.Frag} {t n : String} {b : Bool} (ht : t ∈ ["NoneType", "bool", "int", "str", "tuple", "list", "dict"]) (h : isTy t n = some b) : PySem.W.kitOne K (.type t) (.type n) = some b := by
  refine kit_ty ?_
  unfold isTy at h
  split at h
  all_goals first
    | (cases h
       simp only [List.mem_cons, List.not_mem_nil, or_false] at ht
       rcases ht with rfl | rfl | rfl | rfl | rfl | rfl | rfl <;> decide +kernel)
    | cases h
theorem tyName_ok {K : PySem.W.Frag} {ρ : List Addr} {H : Hp} {x : D} {v : V} {t : String} (h : DV K ρ H x v) (e : tyName x = some t) : TyX K H v (.type t) ∧ t ∈ ["NoneType", "bool", "int", "str", "tuple", "list", "dict"] := by
  cases x with
  | non => cases e; rw [dv_non] at h; subst h; exact ⟨.base .non, by simp⟩
  | bl b => cases e; rw [dv_bl] at h; subst h; exact ⟨.base (.bl b), by simp⟩
  | int b => cases e; rw [dv_int] at h; subst h; exact ⟨.base (.int b), by simp⟩
  | str b => cases e; rw [dv_str] at h; subst h; exact ⟨.base (.str _), by simp⟩
  | tup b =>
    cases e
    obtain ⟨a, vs, rfl, h1, h2⟩ := tup_ok h
    refine ⟨?_, by simp⟩
    rcases h1 with (h1 | ⟨o, h1⟩) | ⟨o, its, n, h1, h3, _⟩
    · exact .base (.tup h1)
    · exact .fTuple h1
    · exact .kTuple h1 h3
  | lst b =>
    cases e
    simp only [DV] at h
    obtain ⟨a, vs, rfl, h1, h2⟩ := h
    exact ⟨.base (.lst h1.2), by simp⟩
  | fz b =>
    cases e
    simp only [DV] at h
    obtain ⟨a, vs, rfl, h1, h2⟩ := h
    refine ⟨?_, by simp⟩
    rcases h1 with ⟨o, h1⟩ | ⟨o, its, n, h1, h3, _⟩
    · exact .base (.frz h1)
    · exact .kList h1 h3
  | _ => cases e
theorem rp_isi : ∀ vs H Q, rPB X.K gIsi vs H Q → rIsi X.K vs H Q := by
  rintro vs H Q ⟨ρ, S, ds, d, r, dv, hg, q⟩
  unfold gIsi at hg
  split at hg
  · rename_i x n
    obtain ⟨v, u, rfl, h1, h2⟩ := dvs2 dv
    have e2 : u = .ty n := by simpa [DV] using h2
    subst e2
    split at hg
    · rename_i t ht
      cases e : isTy t n with
      | none => rw [e] at hg; cases hg
      | some b =>
        rw [e] at hg; cases hg
        have key : TyX X.K H v (.type t) ∧ t ∈ ["NoneType", "bool", "int", "str", "tuple", "list", "dict"] := by
          split at ht
          · rename_i k
            simp only [DV] at h1
            obtain ⟨a, rfl, ha⟩ := h1
            split at ht
            · rename_i xs hx
              cases ht
              obtain ⟨us, h3, _⟩ := r.at_ _ _ _ hx ha
              exact ⟨.base (.lst h3), by simp⟩
            · rename_i xs hx
              cases ht
              obtain ⟨us, h3, _⟩ := r.at_ _ _ _ hx ha
              exact ⟨.base (.dK h3), by simp⟩
            · cases ht
          · exact tyName_ok h1 ht
        exact ⟨v, .ty n, .type t, .type n, b, rfl, .ty n, key.1, isTy_kit key.2 e, post_bl r q⟩
    · cases hg
  · cases hg
end
end PD

/-! PyD4: from one level of calls to the next; the end. -/
namespace PD
open PySem PySem.Spec PyProof.Rows L2
section
variable {P : Program} {w : World} {K : PySem.W.Frag} {mg : Str → Option Value} {base : Heap} {x : Str} {params : Arguments} {body : List Stmt} {scope : Scope}
/-- a def of the top, found by its name; its parameters ps -/
structure FD (K : PySem.W.Frag) (mg : Str → Option Value) (x : Str) (params : Arguments) (body : List Stmt) (scope : Scope) (ps : List Str) : Prop where
  ex : ∃ f fd, FunD K x x params body scope [] [] f fd ∧ mg x = some (.ref f) ∧ Binds K fd ps []
theorem callF_zero {ps : List Str} {n : Nat} (F : FD K mg x params body scope ps) : CallF P w K mg base 0 x n (fun _ _ => .bad) := by
  obtain ⟨f, fd, F, hm, b⟩ := F.ex
  have no : ∀ vs H Q E, ¬ spM K n (fun _ _ => .bad) vs H Q E := fun vs H Q E h => by
    obtain ⟨ρ, S, ds, r, dv, hl, p⟩ := h
    exact p
  exact ⟨f, fd, ps, ⟨fun vs H Q E h => absurd h (no vs H Q E), fun A outer s H args us vs Q E _ _ _ _ h => absurd h (no vs H Q E)⟩, hm, F.kp, b⟩
theorem callF_succ {k n : Nat} {N ps : List Str} {b : MS} (F : FD K mg x params body scope ps) (Sc : FnScope N ps scope) (hn : ps.length = n)
    (hb : ∀ (f : Addr) (cdv : Value) (A : Around) (outer : List Env) (s : Shared) (H : Hp) (E : XK), Room k (A.deeper (envOfC x scope s.heap.objs.size f cdv)) → BD (cxOf (L2.CX P w) P w K mg base N x scope f cdv A outer s H E) (WW.of (K := K) fun c d _ H => E c d H) body b) :
    CallF P w K mg base (k + 1) x n (runB N.length b) := by
  obtain ⟨f, fd, F, hm, bd⟩ := F.ex
  exact ⟨f, fd, ps, fn_run F Sc hn (hb f), hm, F.kp, bd⟩
/-- the script as a value -/
theorem dv_script {H : Hp} {a : Addr} {ns : List Int} (ho : Only H) (hs : SqL K H a (ns.map V.int)) : DVs K [] H [.fz (ns.map D.int)] [.ref a] := by
  have di : ∀ ms : List Int, DVs K [] H (ms.map D.int) (ms.map V.int) := fun ms => by
    induction ms with
    | nil => simp [DVs]
    | cons m r ih => simp only [List.map_cons, DVs]; exact ⟨_, _, rfl, by simp [DV], ih⟩
  refine DVs.one ?_
  simp only [DV]
  refine ⟨a, _, rfl, ?_, di ns⟩
  rcases FzP.of hs with h | h | h
  · exact .inl h
  · exact .inr h
  · rcases ho a with q | ⟨o, xs, q⟩
    · rw [h] at q; cases q
    · rw [h] at q; cases q
theorem rel_nil {H : Hp} : Rel K [] [] H := ⟨rfl, List.nodup_nil, fun n o a h => by simp at h⟩
/-- the law's promise from its meaning -/
theorem law_sp {m : MF} {H : Hp} {a : Addr} {ns : List Int} {E : XK} (ho : Only H) (hs : SqL K H a (ns.map V.int)) (h : ∃ S', m [.fz (ns.map D.int)] [] = .ok (.bl true) S') : spM K 1 m [.ref a] H (fun v _ => v = .bl true) E := by
  obtain ⟨S', h⟩ := h
  refine ⟨[], [], _, rel_nil, dv_script ho hs, rfl, ?_⟩
  rw [h]
  intro ρ' H' v r e d
  simpa [DV] using d
theorem cx_end {P : Program} {w : World} (H : Hp) (s : Shared) (e : Value) (s' : Shared) (h : L2.CX P w [] H s (fun _ _ _ => False) e s') : False := by
  obtain ⟨_, _, _, _, _, _, _, _, _, _, _, _, z⟩ := h
  exact z
end
/-- a law by its meaning m: F tells the written part and what stands there -/
theorem walk_W {l : PySem.W.OpenLaw} {n k : Nat} {q : Program} {loose : List Str} {XP : (Str → Option Value) → Heap → Prop} {YP : World → Heap → Prop} {d : DefRec} {x : Str} {m : MF}
    (hn : l.most = some n) (hn2 : n ≤ sizeLine) (hdf : d.params.defaults = []) (hr : Room k callerA)
    (F : ∀ (w : World) (mg : Str → Option Value) (fa : Addr) (h : Heap), YP w h → h.Ns mainGlobals mg → mg d.name = some (.ref fa) →
      ∃ (K : PySem.W.Frag) (fd : FuncData), K.In h ∧ (∀ (s : Shared) (u : Value), BindsTo s fd ⟨[u], []⟩ [(x, u)]) ∧
        ∀ base : Heap, K.In base → base.Ns mainGlobals mg → FnOk l.prog w K mg base (L2.CX l.prog w) k fa fd [x] (spM K 1 m))
    (hm : ∀ ns : List Int, ns.length ≤ n → ∃ S', m [.fz (ns.map D.int)] [] = .ok (.bl true) S') :
    PySem.W.WalkO q loose XP YP l.row.toRowW d [] (fun f vs => PySem.call f vs) := by
  refine Att.attach_call hn hdf fun w s₀ s₁ mg mb fa o pm cd doc a vs ns G Y ho hd hcd hmg hobj hints hlen hg => ?_
  obtain ⟨K, fd, KX, hb, hF⟩ := F w mg fa _ Y G.T.g hmg
  exact law_call KX G.T.g G.T.b G.T.builtins G.T.nolimit hg hobj hints (Nat.le_trans hlen hn2) hr hF hb (fun H hO hS => law_sp hO hS (hm ns hlen)) fun H e s' => cx_end H s₁ e s'
/-- the law's own def, as the row calls it -/
theorem law_fn {P : Program} {w : World} {K : PySem.W.Frag} {mg : Str → Option Value} {base : Heap} {k : Nat} {params : Arguments} {body : List Stmt} {scope : Scope} {f fa : Addr} {fd : FuncData} {N : List Str} {b : MS}
    (F : FunD K "law" "law" params body scope [] [] f fd) (hm : mg "law" = some (.ref f)) (hfa : mg "law" = some (.ref fa)) (Sc : FnScope N ["script"] scope)
    (hb : ∀ (f : Addr) (cdv : Value) (A : Around) (outer : List Env) (s : Shared) (H : Hp) (E : XK), Room k (A.deeper (envOfC "law" scope s.heap.objs.size f cdv)) → BD (cxOf (L2.CX P w) P w K mg base N "law" scope f cdv A outer s H E) (WW.of (K := K) fun c d _ H => E c d H) body b) :
    FnOk P w K mg base (L2.CX P w) (k + 1) fa fd ["script"] (spM K 1 (runB N.length b)) := by
  have e := hm.symm.trans hfa
  cases e
  exact fn_run F Sc rfl (hb f)
end PD

/-! PyD5: to reckon with the meanings. -/
namespace PD
open PySem PySem.Spec PyProof.Rows L2
/-- one turn of a loop -/
def turn (g : MG) (b : MS) (x : D) : MS := fun E S => (g x E S).toS E fun E1 S1 => b E1 S1
theorem chk_none {S : Sto} : chkOk none S := trivial
theorem forD_nil {g : MG} {b : MS} {E : Evn} {S : Sto} : forD none g b [] E S = .nx E S := by rw [forD, if_pos chk_none]
theorem forD_cons {g : MG} {b : MS} {x : D} {l : List D} {E : Evn} {S : Sto} : forD none g b (x :: l) E S = (match turn g b x E S with
    | .nx E2 S2 => forD none g b l E2 S2
    | .ct E2 S2 => forD none g b l E2 S2
    | .bk E2 S2 => .nx E2 S2
    | o => o) := by
  rw [forD, if_pos chk_none]
  unfold turn
  cases g x E S <;> rfl
/-- a loop whose turns all go on -/
theorem forD_all {g : MG} {b : MS} (P : Nat → Evn → Sto → Prop) : ∀ (l : List D) (E : Evn) (S : Sto) (n : Nat), P n E S →
    (∀ i x E S, l[i]? = some x → P (n + i) E S → ∃ E2 S2, (turn g b x E S = .nx E2 S2 ∨ turn g b x E S = .ct E2 S2) ∧ P (n + i + 1) E2 S2) →
    ∃ E2 S2, forD none g b l E S = .nx E2 S2 ∧ P (n + l.length) E2 S2
  | [], E, S, n, h0, hs => ⟨E, S, forD_nil, h0⟩
  | x :: l, E, S, n, h0, hs => by
    obtain ⟨E2, S2, h1, h2⟩ := hs 0 x E S rfl h0
    obtain ⟨E3, S3, h3, h4⟩ := forD_all P l E2 S2 (n + 1) h2 (fun i y E S e p => by
      have := hs (i + 1) y E S (by simpa using e) (by rw [show n + (i + 1) = n + 1 + i by omega]; exact p)
      rw [show n + (i + 1) + 1 = n + 1 + i + 1 by omega] at this
      exact this)
    refine ⟨E3, S3, ?_, by rw [List.length_cons, show n + (l.length + 1) = n + 1 + l.length by omega]; exact h4⟩
    rw [forD_cons]
    rcases h1 with h1 | h1 <;> rw [h1] <;> exact h3
/-- the same from the start -/
theorem forD_inv {g : MG} {b : MS} {l : List D} {E : Evn} {S : Sto} (P : Nat → Evn → Sto → Prop) (h0 : P 0 E S)
    (hs : ∀ i x E S, l[i]? = some x → P i E S → ∃ E2 S2, (turn g b x E S = .nx E2 S2 ∨ turn g b x E S = .ct E2 S2) ∧ P (i + 1) E2 S2) :
    ∃ E2 S2, forD none g b l E S = .nx E2 S2 ∧ P l.length E2 S2 := by
  have := forD_all P l E S 0 h0 (fun i x E S e p => by
    rw [Nat.zero_add] at p ⊢
    exact hs i x E S e p)
  rwa [Nat.zero_add] at this
/-- a range's turns -/
theorem rng_get {lo : Int} {n i : Nat} {x : D} (h : (rngD lo n)[i]? = some x) : i < n ∧ x = .int (lo + (i : Int)) := rngD_get h
theorem rng_len {lo : Int} {n : Nat} : (rngD lo n).length = n := by simp [rngD]
theorem forR_inv {g : MG} {b : MS} {lo : Int} {n : Nat} {E : Evn} {S : Sto} (P : Nat → Evn → Sto → Prop) (h0 : P 0 E S)
    (hs : ∀ i E S, i < n → P i E S → ∃ E2 S2, (turn g b (.int (lo + (i : Int))) E S = .nx E2 S2 ∨ turn g b (.int (lo + (i : Int))) E S = .ct E2 S2) ∧ P (i + 1) E2 S2) :
    ∃ E2 S2, forD none g b (rngD lo n) E S = .nx E2 S2 ∧ P n E2 S2 := by
  have := forD_inv (g := g) (b := b) (l := rngD lo n) (E := E) (S := S) P h0 (fun i x E S e p => by
    obtain ⟨h1, rfl⟩ := rng_get e
    exact hs i E S h1 p)
  rwa [rng_len] at this
theorem mulOk_small {i j : Int} (h : j.natAbs < 2 ^ 64) : mulOk i j := .inl (.inr ⟨by omega, by omega⟩)
theorem mulOk_smallL {i j : Int} (h : i.natAbs < 2 ^ 64) : mulOk i j := .inl (.inl ⟨by omega, by omega⟩)
theorem mulOk_wide {i j : Int} {a b : Nat} (ha : i.natAbs < 2 ^ a) (hb : j.natAbs < 2 ^ b) (h0 : 0 < a) (h1 : 0 < b) (h : a + b ≤ 1000000) : mulOk i j := .inr (wide_mul ha hb h0 h1 h)
end PD
namespace PD
open PySem PySem.Spec PyProof.Rows L2
section
variable {E : Evn} {S : Sto}
theorem a_seq {a b : MS} : mSeq a b E S = (match a E S with
  | .nx E' S' => b E' S'
  | r => r) := rfl
theorem a_skip : mSkip E S = .nx E S := rfl
theorem a_break : mBreak E S = .bk E S := rfl
theorem a_cont : mCont E S = .ct E S := rfl
theorem a_if {c : MT} {a b : MS} : mIf c a b E S = (c E S).toS E fun x S1 => if x = true then a E S1 else b E S1 := rfl
theorem a_ret {a : ME} : mRet a E S = (a E S).toS E fun d S1 => .rt d S1 := rfl
theorem a_retN : mRetN E S = .rt .non S := rfl
theorem a_drop {a : ME} : mDrop a E S = (a E S).toS E fun _ S1 => .nx E S1 := rfl
theorem a_set {i : Nat} {a : ME} : mSet i a E S = (a E S).toS E fun d S1 => .nx (E.set i (some d)) S1 := rfl
theorem a_asg {a : ME} {g : MG} : mAsg a g E S = (a E S).toS E fun d S1 => (g d E S1).toS E fun E' S2 => .nx E' S2 := rfl
theorem a_aug {i : Nat} {g : Sto → D → D → Option D} {a : ME} : mAug i g a E S = (match E[i]? with
  | some (some x) => (a E S).toS E fun y S1 => (match g S1 x y with
    | some d => .nx (E.set i (some d)) S1
    | none => .bad)
  | _ => .bad) := rfl
theorem a_for {it : MI} {g : MG} {b : MS} : mFor it g b E S = (it E S).toS E fun i S1 => forD i.chk g b i.items E S1 := rfl
theorem a_var {i : Nat} : mVar i E S = (match E[i]? with
  | some (some d) => .ok d S
  | _ => .bad) := rfl
theorem a_c {d : D} : mC d E S = .ok d S := rfl
theorem a_bin {g : Sto → D → D → Option D} {a b : ME} : mBin g a b E S = (a E S).bind fun x S1 => (b E S1).bind fun y S2 => (match g S2 x y with
  | some d => .ok d S2
  | none => .bad) := rfl
theorem a_un {g : Sto → D → Option D} {a : ME} : mUn g a E S = (a E S).bind fun x S1 => (match g S1 x with
  | some d => .ok d S1
  | none => .bad) := rfl
theorem a_b {g : Sto → List D → Option D} {a : MA} : mB g a E S = (a E S).bind fun xs S1 => (match g S1 xs with
  | some d => .ok d S1
  | none => .bad) := rfl
theorem a_nil : mNil E S = .ok [] S := rfl
theorem a_cons {a : ME} {r : MA} : mCons a r E S = (a E S).bind fun x S1 => (r E S1).bind fun xs S2 => .ok (x :: xs) S2 := rfl
open Classical in
theorem a_tup {a : MA} : mTup a E S = (a E S).bind fun xs S1 => if sizeOk xs.length then .ok (.tup xs) S1 else .bad := rfl
open Classical in
theorem a_lst {a : MA} : mLst a E S = (a E S).bind fun xs S1 => if sizeOk xs.length then .ok (.lst xs) S1 else .bad := rfl
open Classical in
theorem a_loc {a : MA} : mLoc a E S = (a E S).bind fun xs S1 => if sizeOk xs.length then .ok (.loc S1.length) (S1 ++ [.lst xs]) else .bad := rfl
theorem a_call {f : MF} {a : MA} : mCall f a E S = (a E S).bind fun ds S1 => f ds S1 := rfl
theorem a_and {a b : MT} : mAnd a b E S = (a E S).bind fun x S1 => if x = true then b E S1 else .ok false S1 := rfl
theorem a_or {a b : MT} : mOr a b E S = (a E S).bind fun x S1 => if x = true then .ok true S1 else b E S1 := rfl
theorem a_not {a : MT} : mNot a E S = (a E S).bind fun x S1 => .ok (!x) S1 := rfl
theorem a_andV {a b : ME} : mAndV a b E S = (a E S).bind fun x S1 => (match x with
  | .bl true => b E S1
  | .bl false => .ok (.bl false) S1
  | _ => .bad) := rfl
theorem a_orV {a b : ME} : mOrV a b E S = (a E S).bind fun x S1 => (match x with
  | .bl true => .ok (.bl true) S1
  | .bl false => b E S1
  | _ => .bad) := rfl
theorem a_notV {a : ME} : mNotV a E S = (a E S).bind fun x S1 => (match x with
  | .bl b => .ok (.bl (!b)) S1
  | _ => .bad) := rfl
theorem a_ifE {c : MT} {a b : ME} : mIfE c a b E S = (c E S).bind fun x S1 => if x = true then a E S1 else b E S1 := rfl
theorem a_asB {m : ME} : asB m E S = (m E S).bind fun d S1 => (match d with
  | .bl b => .ok b S1
  | _ => .bad) := rfl
theorem a_sl {g : Sto → D → Option Int → Option Int → Option D} {a : ME} {lo hi : MO} : mSl g a lo hi E S = (a E S).bind fun x S1 => (lo E S1).bind fun l S2 => (hi E S2).bind fun u S3 => (match g S3 x l u with
  | some d => .ok d S3
  | none => .bad) := rfl
theorem a_nopart : mNoPart E S = .ok none S := rfl
theorem a_part {a : ME} : mPart a E S = (a E S).bind fun d S1 => (match d with
  | .int i => .ok (some i) S1
  | _ => .bad) := rfl
theorem a_gN {i : Nat} {d : D} : gN i d E S = .ok (E.set i (some d)) S := rfl
theorem a_gT {n : Nat} {g : MGs} {xs : List D} : gT n g (.tup xs) E S = if xs.length = n then g xs E S else .bad := rfl
theorem a_gsNil : gsNil [] E S = .ok E S := rfl
theorem a_gsCons {g : MG} {r : MGs} {d : D} {ds : List D} : gsCons g r (d :: ds) E S = (g d E S).bind fun E' S' => (r ds E' S').noex := rfl
open Classical in
theorem a_range1 {a : MA} : iRange1 a E S = (a E S).bind fun ds S1 => (match int1 ds with
  | some j => if small62 j then .ok ⟨rngD 0 j.toNat, none⟩ S1 else .bad
  | none => .bad) := rfl
open Classical in
theorem a_range2 {a : MA} : iRange2 a E S = (a E S).bind fun ds S1 => (match int2 ds with
  | some (i, j) => if small62 i ∧ small62 j then .ok ⟨rngD i (j - i).toNat, none⟩ S1 else .bad
  | none => .bad) := rfl
theorem a_iseq {a : ME} : iSeq a E S = (a E S).bind fun d S1 => (match d with
  | .tup xs => .ok ⟨xs, none⟩ S1
  | .lst xs => .ok ⟨xs, none⟩ S1
  | .fz xs => .ok ⟨xs, none⟩ S1
  | .loc n => (match S1[n]? with
    | some (.lst xs) => .ok ⟨xs, some (n, xs)⟩ S1
    | _ => .bad)
  | _ => .bad) := rfl
theorem a_int1 {i : Int} : int1 [.int i] = some i := rfl
theorem a_int2 {i j : Int} : int2 [.int i, .int j] = some (i, j) := rfl
theorem a_turn {g : MG} {b : MS} {x : D} : turn g b x E S = (g x E S).toS E fun E1 S1 => b E1 S1 := rfl
theorem a_run {N : Nat} {b : MS} {ds : List D} : runB N b ds S = (match b (ds.map some ++ List.replicate (N - ds.length) none) S with
  | .nx _ S' => .ok .non S'
  | .rt d S' => .ok d S'
  | .ex e _ S' => .ex e S'
  | _ => .bad) := rfl
variable {i j : Int} {x y : Tx} {a b : Bool} {xs ys : List D}
theorem g_add : gAdd S (.int i) (.int j) = some (.int (i + j)) := rfl
open Classical in
theorem g_addS : gAdd S (.str x) (.str y) = if sizeOk (x.length + y.length) then some (.str (x ++ y)) else none := rfl
open Classical in
theorem g_addT : gAdd S (.tup xs) (.tup ys) = if sizeOk (xs.length + ys.length) then some (.tup (xs ++ ys)) else none := rfl
open Classical in
theorem g_addL : gAdd S (.lst xs) (.lst ys) = if sizeOk (xs.length + ys.length) then some (.lst (xs ++ ys)) else none := rfl
theorem g_sub : gMns S (.int i) (.int j) = some (.int (i - j)) := rfl
open Classical in
theorem g_mul : gMul S (.int i) (.int j) = if mulOk i j then some (.int (i * j)) else none := rfl
open Classical in
theorem g_div : gDiv S (.int i) (.int j) = if divOk j then some (.int (i / j)) else none := rfl
open Classical in
theorem g_mod : gMod S (.int i) (.int j) = if modOk j then some (.int (i % j)) else none := rfl
open Classical in
theorem g_pow : gPow S (.int i) (.int j) = if powOk i j then some (.int (i ^ j.toNat)) else none := rfl
theorem g_lt : gLt S (.int i) (.int j) = some (.bl (decide (i < j))) := rfl
theorem g_gt : gGt S (.int i) (.int j) = some (.bl (decide (j < i))) := rfl
theorem g_le : gLe S (.int i) (.int j) = some (.bl (decide (i ≤ j))) := rfl
theorem g_ge : gGe S (.int i) (.int j) = some (.bl (decide (j ≤ i))) := rfl
theorem g_ltS : gLt S (.str x) (.str y) = some (.bl (decide (x < y))) := rfl
theorem g_gtS : gGt S (.str x) (.str y) = some (.bl (decide (y < x))) := rfl
theorem g_leS : gLe S (.str x) (.str y) = some (.bl (!decide (y < x))) := rfl
theorem g_geS : gGe S (.str x) (.str y) = some (.bl (!decide (x < y))) := rfl
theorem g_eq : gEq S (.int i) (.int j) = some (.bl (decide (i = j))) := rfl
theorem g_ne : gNe S (.int i) (.int j) = some (.bl (!decide (i = j))) := rfl
theorem g_eqS : gEq S (.str x) (.str y) = some (.bl (decide (x = y))) := rfl
theorem g_neS : gNe S (.str x) (.str y) = some (.bl (!decide (x = y))) := rfl
theorem g_eqB : gEq S (.bl a) (.bl b) = some (.bl (decide (a = b))) := rfl
theorem g_neB : gNe S (.bl a) (.bl b) = some (.bl (!decide (a = b))) := rfl
theorem g_neg : gNeg S (.int i) = some (.int (-i)) := rfl
/-- the size of a number, as the built-in says it -/
def ab (i : Int) : Int := if i < 0 then -i else i
theorem g_abs : gAbs S [.int i] = some (.int (ab i)) := rfl
theorem g_max : gMax2 S [.int i, .int j] = some (.int (if j > i then j else i)) := rfl
theorem g_min : gMin2 S [.int i, .int j] = some (.int (if j < i then j else i)) := rfl
theorem g_int : gInt S [.int i] = some (.int i) := rfl
theorem g_intB : gInt S [.bl a] = some (.int (if a then 1 else 0)) := rfl
theorem g_ixT : gIx S (.tup xs) (.int i) = atD xs i := rfl
theorem g_ixL : gIx S (.lst xs) (.int i) = atD xs i := rfl
theorem g_ixF : gIx S (.fz xs) (.int i) = atD xs i := rfl
theorem g_lenT : gLen S [.tup xs] = some (.int xs.length) := rfl
theorem g_lenL : gLen S [.lst xs] = some (.int xs.length) := rfl
theorem g_lenF : gLen S [.fz xs] = some (.int xs.length) := rfl
open Classical in
theorem g_lenS : gLen S [.str x] = if sizeOk x.length then some (.int x.length) else none := rfl
theorem at_nat {n : Nat} : atD xs (n : Int) = xs[n]? := by unfold atD; rw [if_pos (Int.natCast_nonneg n), Int.toNat_natCast]
theorem at_0 : atD xs 0 = xs[0]? := rfl
theorem at_1 : atD xs 1 = xs[1]? := rfl
theorem at_2 : atD xs 2 = xs[2]? := rfl
theorem at_3 : atD xs 3 = xs[3]? := rfl
theorem at_4 : atD xs 4 = xs[4]? := rfl
theorem sizeOk_of {n : Nat} (h : n ≤ 16777216) : sizeOk n := by unfold sizeOk; rw [sizeLine_eq]; exact h
end
end PD
namespace PD
open PySem PySem.Spec PyProof.Rows L2
theorem so0 : sizeOk 0 := sizeOk_of (by decide)
theorem so1 : sizeOk 1 := sizeOk_of (by decide)
theorem so2 : sizeOk 2 := sizeOk_of (by decide)
theorem so3 : sizeOk 3 := sizeOk_of (by decide)
theorem so4 : sizeOk 4 := sizeOk_of (by decide)
theorem so5 : sizeOk 5 := sizeOk_of (by decide)
theorem so6 : sizeOk 6 := sizeOk_of (by decide)
theorem so7 : sizeOk 7 := sizeOk_of (by decide)
theorem so8 : sizeOk 8 := sizeOk_of (by decide)
theorem so9 : sizeOk 9 := sizeOk_of (by decide)
theorem so10 : sizeOk 10 := sizeOk_of (by decide)
theorem mo10 (i : Int) : mulOk i 10 := mulOk_small (by decide)
theorem divOk_of {j : Int} (h : 0 < j) (h2 : j < 18446744073709551616) : divOk j := by
  refine ⟨h, Nat.lt_of_lt_of_le (PySem.Flt.log2_lt_of (k := 64) (by decide) ?_) (by decide)⟩
  omega
theorem do10 : divOk 10 := divOk_of (by decide) (by decide)
theorem modOk_of {j : Int} (h : 0 < j) : modOk j := h
end PD
namespace PD
open PySem PySem.Spec PyProof.Rows L2
section
variable {S : Sto} {i : Int} {x : Tx} {a : Bool} {xs : List D}
theorem isi_non_int : gIsi S [.non, .ty "int"] = some (.bl false) := by simp [gIsi, tyName, isTy]
theorem isi_non_bool : gIsi S [.non, .ty "bool"] = some (.bl false) := by simp [gIsi, tyName, isTy]
theorem isi_non_str : gIsi S [.non, .ty "str"] = some (.bl false) := by simp [gIsi, tyName, isTy]
theorem isi_non_tuple : gIsi S [.non, .ty "tuple"] = some (.bl false) := by simp [gIsi, tyName, isTy]
theorem isi_non_list : gIsi S [.non, .ty "list"] = some (.bl false) := by simp [gIsi, tyName, isTy]
theorem isi_non_dict : gIsi S [.non, .ty "dict"] = some (.bl false) := by simp [gIsi, tyName, isTy]
theorem isi_bl_int : gIsi S [.bl a, .ty "int"] = some (.bl true) := by simp [gIsi, tyName, isTy]
theorem isi_bl_bool : gIsi S [.bl a, .ty "bool"] = some (.bl true) := by simp [gIsi, tyName, isTy]
theorem isi_bl_str : gIsi S [.bl a, .ty "str"] = some (.bl false) := by simp [gIsi, tyName, isTy]
theorem isi_bl_tuple : gIsi S [.bl a, .ty "tuple"] = some (.bl false) := by simp [gIsi, tyName, isTy]
theorem isi_bl_list : gIsi S [.bl a, .ty "list"] = some (.bl false) := by simp [gIsi, tyName, isTy]
theorem isi_bl_dict : gIsi S [.bl a, .ty "dict"] = some (.bl false) := by simp [gIsi, tyName, isTy]
theorem isi_int_int : gIsi S [.int i, .ty "int"] = some (.bl true) := by simp [gIsi, tyName, isTy]
theorem isi_int_bool : gIsi S [.int i, .ty "bool"] = some (.bl false) := by simp [gIsi, tyName, isTy]
theorem isi_int_str : gIsi S [.int i, .ty "str"] = some (.bl false) := by simp [gIsi, tyName, isTy]
theorem isi_int_tuple : gIsi S [.int i, .ty "tuple"] = some (.bl false) := by simp [gIsi, tyName, isTy]
theorem isi_int_list : gIsi S [.int i, .ty "list"] = some (.bl false) := by simp [gIsi, tyName, isTy]
theorem isi_int_dict : gIsi S [.int i, .ty "dict"] = some (.bl false) := by simp [gIsi, tyName, isTy]
theorem isi_str_int : gIsi S [.str x, .ty "int"] = some (.bl false) := by simp [gIsi, tyName, isTy]
theorem isi_str_bool : gIsi S [.str x, .ty "bool"] = some (.bl false) := by simp [gIsi, tyName, isTy]
theorem isi_str_str : gIsi S [.str x, .ty "str"] = some (.bl true) := by simp [gIsi, tyName, isTy]
theorem isi_str_tuple : gIsi S [.str x, .ty "tuple"] = some (.bl false) := by simp [gIsi, tyName, isTy]
theorem isi_str_list : gIsi S [.str x, .ty "list"] = some (.bl false) := by simp [gIsi, tyName, isTy]
theorem isi_str_dict : gIsi S [.str x, .ty "dict"] = some (.bl false) := by simp [gIsi, tyName, isTy]
theorem isi_tup_int : gIsi S [.tup xs, .ty "int"] = some (.bl false) := by simp [gIsi, tyName, isTy]
theorem isi_tup_bool : gIsi S [.tup xs, .ty "bool"] = some (.bl false) := by simp [gIsi, tyName, isTy]
theorem isi_tup_str : gIsi S [.tup xs, .ty "str"] = some (.bl false) := by simp [gIsi, tyName, isTy]
theorem isi_tup_tuple : gIsi S [.tup xs, .ty "tuple"] = some (.bl true) := by simp [gIsi, tyName, isTy]
theorem isi_tup_list : gIsi S [.tup xs, .ty "list"] = some (.bl false) := by simp [gIsi, tyName, isTy]
theorem isi_tup_dict : gIsi S [.tup xs, .ty "dict"] = some (.bl false) := by simp [gIsi, tyName, isTy]
theorem isi_lst_int : gIsi S [.lst xs, .ty "int"] = some (.bl false) := by simp [gIsi, tyName, isTy]
theorem isi_lst_bool : gIsi S [.lst xs, .ty "bool"] = some (.bl false) := by simp [gIsi, tyName, isTy]
theorem isi_lst_str : gIsi S [.lst xs, .ty "str"] = some (.bl false) := by simp [gIsi, tyName, isTy]
theorem isi_lst_tuple : gIsi S [.lst xs, .ty "tuple"] = some (.bl false) := by simp [gIsi, tyName, isTy]
theorem isi_lst_list : gIsi S [.lst xs, .ty "list"] = some (.bl true) := by simp [gIsi, tyName, isTy]
theorem isi_lst_dict : gIsi S [.lst xs, .ty "dict"] = some (.bl false) := by simp [gIsi, tyName, isTy]
theorem isi_fz_int : gIsi S [.fz xs, .ty "int"] = some (.bl false) := by simp [gIsi, tyName, isTy]
theorem isi_fz_bool : gIsi S [.fz xs, .ty "bool"] = some (.bl false) := by simp [gIsi, tyName, isTy]
theorem isi_fz_str : gIsi S [.fz xs, .ty "str"] = some (.bl false) := by simp [gIsi, tyName, isTy]
theorem isi_fz_tuple : gIsi S [.fz xs, .ty "tuple"] = some (.bl false) := by simp [gIsi, tyName, isTy]
theorem isi_fz_list : gIsi S [.fz xs, .ty "list"] = some (.bl true) := by simp [gIsi, tyName, isTy]
theorem isi_fz_dict : gIsi S [.fz xs, .ty "dict"] = some (.bl false) := by simp [gIsi, tyName, isTy]
end
end PD

/-! PyD6: errors. -/
namespace PD
open PySem PySem.Spec PyProof.Rows L2
def mRaise (e : Exn) : MS := fun E S => .ex e E S
/-- an own class of errors without an __init__ of its own -/
structure ExK (K : PySem.W.Frag) (mg : Str → Option Value) (x : String) : Prop where
  g : mg (x : Str) = some (.ref (He.ga K x))
  q : PySem.W.excIn K (He.ga K x) He.veBase "ValueError.__new__" = true
  k : PySem.W.keepIn K (.ref (He.ga K x)) = true
  b : PySem.W.subIn K (.ref (He.ga K x)) (.type "BaseException") = some true
  t : PySem.W.typeIn K (.ref (He.ga K x)) = some (.type "type")
section
variable {X : Cx} {W : WW X.K} {pos : Pos}
theorem pmk_own0 {C : Addr} {bmB : List Value} {B newId initId : String} {x : Str} {p pos : Pos} (F : ExcBaseFacts B newId initId bmB) (q : PySem.W.excIn X.K C bmB newId = true) (gC : X.mg x = some (.ref C)) (kC : PySem.W.keepIn X.K (.ref C) = true) (r : Raises X (.ref C)) (hg : Gl X x)
    (hdb : (x == ("__debug__" : Str)) = false := by decide) : PMk X (.Call (.Name x p) [] [] pos) (fun _ H Q => Q (.ref C) none H) := by
  intro pins s σ H Q I h
  refine wpAny_Call_Name_kw (ld_glob I hg gC ?_ hdb)
  refine PySem.W.callWith_K0 I.kIn kC ?_
  show wpAny _ _ (call (.ref C) []) _ _ _
  obtain ⟨bm, N, nm, qn, bs, hdct, sn, sub, ab, col, dd, k0, k1, k2, k3, k5, mN, hC, hN, hni, T⟩ := exc_obj I.kIn q
  refine wpAny_call_exc_subT F T hC hN hni (fun h' e hm => ?_) (by show 0 ≤ sizeLine; exact Nat.zero_le _)
  exact mk_of I hm r h (I.hok.gone hm.new)
theorem sd_raise0 {x : String} {p p2 : Pos} (c : ExK X.K X.mg x) (hc : X.calm = true) (tk : Takes X W.w) (hg : Gl X (x : Str)) (hdb : ((x : Str) == ("__debug__" : Str)) = false := by decide) :
    SD X W (.Raise (some (.Call (.Name (x : Str) p) [] [] p2)) none pos) (mRaise ⟨.own x, none⟩) := by
  refine sd_of (ps_raise hc tk (pmk_own0 PySem.F.excBase_ValueError c.q c.g c.k (raises_own c.b c.t) hg hdb)) fun D σ H ρ S E r er p => ?_
  exact p ρ H σ _ none r Ext.refl er ⟨rfl, rfl⟩
/-! try: .. except C as n: .. -/
/-- does the clause take it: a table by the classes' names -/
def takesE (tbl : List (String × Bool)) (e : Exn) : Option Bool := match e.cls with
  | .own x => tbl.lookup x
  | .bi _ => none
def mTryAs (body : MS) (tbl : List (String × Bool)) (i : Nat) (suite : Exn → MS) : MS := fun E S => match body E S with
  | .ex e E' S' => (match takesE tbl e with
    | some true => if i < E'.length then (match suite e (E'.set i (some .exo)) S' with
      | .nx E2 S2 => .nx (E2.set i none) S2
      | .bk E2 S2 => .bk (E2.set i none) S2
      | .ct E2 S2 => .ct (E2.set i none) S2
      | .rt d S2 => .rt d S2
      | _ => .bad) else .bad
    | some false => .ex e E' S'
    | none => .bad)
  | r => r
def mTryOnly (body : MS) (tbl : List (String × Bool)) (suite : Exn → MS) : MS := fun E S => match body E S with
  | .ex e E' S' => (match takesE tbl e with
    | some true => (match suite e E' S' with
      | .ex _ _ _ => .bad
      | r => r)
    | some false => .ex e E' S'
    | none => .bad)
  | r => r
/-- what the table's words say of the written part -/
def TblOk (K : PySem.W.Frag) (c : Value) (tbl : List (String × Bool)) : Prop := ∀ p ∈ tbl, PySem.W.exmOne K (.ref (He.ga K p.1)) c = some p.2
theorem lookup_mem' : ∀ {tbl : List (String × Bool)} {x : String} {b : Bool}, tbl.lookup x = some b → (x, b) ∈ tbl
  | [], _, _, h => by cases h
  | (y, c) :: t, x, b, h => by
    rw [List.lookup_cons] at h
    by_cases q : (x == y) = true
    · rw [q] at h
      cases h
      rw [beq_iff_eq.mp q]
      exact List.mem_cons_self
    · have q2 : (x == y) = false := by simpa using q
      rw [q2] at h
      exact List.mem_cons_of_mem _ (lookup_mem' h)
/-- what holds in the suite -/
def WS (X : Cx) (W : WW X.K) (e : Exn) (c : Value) (d : Option Addr) (f : Option (Nat × Addr)) : WW X.K := ⟨fun _ _ _ _ => False, fun ρ H => XR X.K ρ H e c d ∧ W.g ρ H, fun _ _ _ _ x h => ⟨h.1.mono x, W.gm _ _ _ _ x h.2⟩, f⟩
theorem sd_try_as {x : String} {n : Str} {i : Nat} {body suite : List Stmt} {b0 : Stmt} {np pos' : Pos} {mb : MS} {ms : Exn → MS} {tbl : List (String × Bool)} {c : Value} (hs : X.stack = X.env :: X.outer) (hf : X.env.frame = some X.env.locals) (hN : X.N.Nodup) (hi : X.N[i]? = some n) (hln : X.env.kindOf n = some .local)
    (hw : W.fix = none) (hc : Names X (x : Str) c) (ht : TblOk X.K c tbl) (tk : Takes X W.w)
    (hb : ∀ (w : WX) (pn : List (Addr × Obj)) (xe : Value → Shared → Prop), Takes (X.tr pn xe) w → PassesOwn (model X.prog X.w) X.A X.env xe → BD (X.tr pn xe) (⟨w, W.g, W.gm, W.fix⟩ : WW X.K) body mb)
    (hsu : ∀ (a : Addr) (oe : Obj) (e : Exn) (d : Option Addr) (pn : List (Addr × Obj)), Zc (e.cls.val X.K) d oe → (∃ vs, oe.data = .fields vs) → BD (X.suite a ((a, oe) :: pn)) (WS X W e (e.cls.val X.K) d (some (i, a)) : WW X.K) (b0 :: suite) (ms e)) :
    SD X W (.Try body [.ExceptHandler (some (.Name (x : Str) np)) (some n) (b0 :: suite) pos'] [] [] pos) (mTryAs mb tbl i ms) := by
  refine sd_of (ps_try_as (tb := fun w => tS X.K (⟨w, W.g, W.gm, W.fix⟩ : WW X.K) mb) (ts := fun a cls d D σ H => ∃ ρ S E e, Rel X.K ρ S H ∧ ER X.K W ρ H E σ ∧ XR X.K ρ H e cls d ∧ σ[i]? = some (some (.ref a)) ∧ SPost X.K (WS X W e cls d (some (i, a))) ρ H D (ms e E S)) hs hf hN hi hln hc tk (fun w pn xe h1 h2 => hb w pn xe h1 h2) ?_) ?_
  · intro a oe cls d pn hz hv
    refine ⟨fun pins s σ H D I q => ?_⟩
    obtain ⟨ρ, S, E, e, r, er, xr, sa, p⟩ := q
    have hcls := xr.1
    subst hcls
    exact (hsu a oe e d pn hz hv).run pins s σ H D I ⟨ρ, S, E, r, er.wish ⟨xr, er.1⟩ (fun j b z => by cases z; exact sa), p⟩
  · intro D σ H ρ S E r er p
    refine ⟨ρ, S, E, r, er.wish er.1 er.2.1, ?_⟩
    unfold mTryAs at p
    cases q : mb E S with
    | nx E' S' => rw [q] at p; exact fun ρ' H' σ' r' e' er' => p ρ' H' σ' r' e' (er'.wish er'.1 er'.2.1)
    | rt d S' => rw [q] at p; exact p
    | bk E' S' => rw [q] at p; exact fun ρ' H' σ' r' e' er' => p ρ' H' σ' r' e' (er'.wish er'.1 er'.2.1)
    | ct E' S' => rw [q] at p; exact fun ρ' H' σ' r' e' er' => p ρ' H' σ' r' e' (er'.wish er'.1 er'.2.1)
    | bad => rw [q] at p; exact p
    | ex e E' S' =>
      rw [q] at p
      intro ρ' H' σ' cv dx r' e' er' xr
      have hcls := xr.1
      simp only at p
      cases ht2 : takesE tbl e with
      | none => rw [ht2] at p; exact p.elim
      | some b =>
        rw [ht2] at p
        have hm : PySem.W.exmOne X.K cv c = some b := by
          unfold takesE at ht2
          rw [hcls]
          cases q2 : e.cls with
          | own y => rw [q2] at ht2; exact ht (y, b) (lookup_mem' ht2)
          | bi y => rw [q2] at ht2; cases ht2
        refine ⟨b, hm, fun hb1 a ha => ?_, fun hb1 => ?_⟩
        · subst hb1
          simp only at p
          by_cases hil : i < E'.length
          case neg => rw [if_neg hil] at p; exact p.elim
          rw [if_pos hil] at p
          have er3 := (er'.wish (W' := W) er'.1 er'.2.1).set hw i (show DV X.K ρ' H' .exo (.ref a) by simp [DV])
          refine ⟨ρ', S', E'.set i (some .exo), e, r', er3, xr, ?_, ?_⟩
          · have hlt : i < σ'.length := by rw [← er'.2.2.1]; exact hil
            rw [List.getElem?_set_self hlt]
          cases q3 : ms e (E'.set i (some .exo)) S' with
          | nx E2 S2 => rw [q3] at p; exact fun ρ2 H2 σ2 r2 e2 er2 => p ρ2 H2 _ r2 (e'.trans e2) ((er2.wish (W' := W) er2.1.2 (fun j b z => by rw [hw] at z; cases z)).unset hw i)
          | bk E2 S2 => rw [q3] at p; exact fun ρ2 H2 σ2 r2 e2 er2 => p ρ2 H2 _ r2 (e'.trans e2) ((er2.wish (W' := W) er2.1.2 (fun j b z => by rw [hw] at z; cases z)).unset hw i)
          | ct E2 S2 => rw [q3] at p; exact fun ρ2 H2 σ2 r2 e2 er2 => p ρ2 H2 _ r2 (e'.trans e2) ((er2.wish (W' := W) er2.1.2 (fun j b z => by rw [hw] at z; cases z)).unset hw i)
          | rt d2 S2 => rw [q3] at p; exact fun ρ2 H2 v r2 e2 dv => p ρ2 H2 v r2 (e'.trans e2) dv
          | ex e2 E2 S2 => rw [q3] at p; exact p.elim
          | bad => rw [q3] at p; exact p.elim
        · subst hb1
          exact p ρ' H' σ' cv dx r' e' (er'.wish er'.1 er'.2.1) xr
theorem sd_try_only {x : String} {body suite : List Stmt} {b0 : Stmt} {np pos' : Pos} {mb : MS} {ms : Exn → MS} {tbl : List (String × Bool)} {c : Value} (hs : X.stack = X.env :: X.outer) (hf : X.env.frame = some X.env.locals)
    (hc : Names X (x : Str) c) (ht : TblOk X.K c tbl) (tk : Takes X W.w)
    (hb : ∀ (w : WX) (pn : List (Addr × Obj)) (xe : Value → Shared → Prop), Takes (X.tr pn xe) w → PassesOwn (model X.prog X.w) X.A X.env xe → BD (X.tr pn xe) (⟨w, W.g, W.gm, W.fix⟩ : WW X.K) body mb)
    (hsu : ∀ (a : Addr) (oe : Obj) (e : Exn) (d : Option Addr) (pn : List (Addr × Obj)), Zc (e.cls.val X.K) d oe → (∃ vs, oe.data = .fields vs) → BD (X.suite a ((a, oe) :: pn)) (WS X W e (e.cls.val X.K) d W.fix : WW X.K) (b0 :: suite) (ms e)) :
    SD X W (.Try body [.ExceptHandler (some (.Name (x : Str) np)) none (b0 :: suite) pos'] [] [] pos) (mTryOnly mb tbl ms) := by
  refine sd_of (ps_try_only (tb := fun w => tS X.K (⟨w, W.g, W.gm, W.fix⟩ : WW X.K) mb) (ts := fun a cls d D σ H => ∃ ρ S E e, Rel X.K ρ S H ∧ ER X.K W ρ H E σ ∧ XR X.K ρ H e cls d ∧ SPost X.K (WS X W e cls d W.fix) ρ H D (ms e E S)) hs hf hc tk (fun w pn xe h1 h2 => hb w pn xe h1 h2) ?_) ?_
  · intro a oe cls d pn hz hv
    refine ⟨fun pins s σ H D I q => ?_⟩
    obtain ⟨ρ, S, E, e, r, er, xr, p⟩ := q
    have hcls := xr.1
    subst hcls
    exact (hsu a oe e d pn hz hv).run pins s σ H D I ⟨ρ, S, E, r, er.wish ⟨xr, er.1⟩ er.2.1, p⟩
  · intro D σ H ρ S E r er p
    refine ⟨ρ, S, E, r, er.wish er.1 er.2.1, ?_⟩
    unfold mTryOnly at p
    cases q : mb E S with
    | nx E' S' => rw [q] at p; exact fun ρ' H' σ' r' e' er' => p ρ' H' σ' r' e' (er'.wish er'.1 er'.2.1)
    | rt d S' => rw [q] at p; exact p
    | bk E' S' => rw [q] at p; exact fun ρ' H' σ' r' e' er' => p ρ' H' σ' r' e' (er'.wish er'.1 er'.2.1)
    | ct E' S' => rw [q] at p; exact fun ρ' H' σ' r' e' er' => p ρ' H' σ' r' e' (er'.wish er'.1 er'.2.1)
    | bad => rw [q] at p; exact p
    | ex e E' S' =>
      rw [q] at p
      intro ρ' H' σ' cv dx r' e' er' xr
      have hcls := xr.1
      simp only at p
      cases ht2 : takesE tbl e with
      | none => rw [ht2] at p; exact p.elim
      | some b =>
        rw [ht2] at p
        have hm : PySem.W.exmOne X.K cv c = some b := by
          unfold takesE at ht2
          rw [hcls]
          cases q2 : e.cls with
          | own y => rw [q2] at ht2; exact ht (y, b) (lookup_mem' ht2)
          | bi y => rw [q2] at ht2; cases ht2
        refine ⟨b, hm, fun hb1 a ha => ?_, fun hb1 => ?_⟩
        · subst hb1
          simp only at p
          refine ⟨ρ', S', E', e, r', er'.wish (W' := W) er'.1 er'.2.1, xr, ?_⟩
          cases q3 : ms e E' S' with
          | nx E2 S2 => rw [q3] at p; exact fun ρ2 H2 σ2 r2 e2 er2 => p ρ2 H2 _ r2 (e'.trans e2) (er2.wish er2.1.2 er2.2.1)
          | bk E2 S2 => rw [q3] at p; exact fun ρ2 H2 σ2 r2 e2 er2 => p ρ2 H2 _ r2 (e'.trans e2) (er2.wish er2.1.2 er2.2.1)
          | ct E2 S2 => rw [q3] at p; exact fun ρ2 H2 σ2 r2 e2 er2 => p ρ2 H2 _ r2 (e'.trans e2) (er2.wish er2.1.2 er2.2.1)
          | rt d2 S2 => rw [q3] at p; exact fun ρ2 H2 v r2 e2 dv => p ρ2 H2 v r2 (e'.trans e2) dv
          | ex e2 E2 S2 => rw [q3] at p; exact p.elim
          | bad => rw [q3] at p; exact p.elim
        · subst hb1
          exact p ρ' H' σ' cv dx r' e' (er'.wish er'.1 er'.2.1) xr
end
end PD
namespace PD
open PySem PySem.Spec PyProof.Rows L2
/-- isinstance of the caught error, by a table of the classes' names -/
def mExIs (e : Exn) (tbl : List (String × Bool)) : ME := fun _ S => match e.fs with
  | some _ => .bad
  | none => (match takesE tbl e with
    | some b => .ok (.bl b) S
    | none => .bad)
structure IsOk (K : PySem.W.Frag) (c : String) (tbl : List (String × Bool)) : Prop where
  all : ∀ p ∈ tbl, ExcC K (He.ga K p.1) ∧ PySem.W.kitOne K (.ref (He.ga K p.1)) (.ref (He.ga K c)) = some p.2
theorem takesE_some {tbl : List (String × Bool)} {e : Exn} {b : Bool} (h : takesE tbl e = some b) : ∃ y, e.cls = .own y ∧ (y, b) ∈ tbl := by
  unfold takesE at h
  cases q : e.cls with
  | own y => rw [q] at h; exact ⟨y, rfl, lookup_mem' h⟩
  | bi y => rw [q] at h; cases h
section
variable {X : Cx} {W : WW X.K} {pos : Pos}
theorem ed_exis {e : Exn} {d : Option Addr} {a : Addr} {oe : Obj} {pn : List (Addr × Obj)} {i : Nat} {c : String} {tbl : List (String × Bool)} {en ec : Expr} {p : Pos} (hz : Zc (e.cls.val X.K) d oe) (hv : ∃ vs, oe.data = .fields vs) (ht : IsOk X.K c tbl)
    (hg : Gl X "isinstance") (hm : X.mg "isinstance" = none) (hn : PE (X.suite a ((a, oe) :: pn)) en (tVar i)) (hc : PE (X.suite a ((a, oe) :: pn)) ec (tC (.ref (He.ga X.K c))))
    (hs1 : starEach (en :: [ec]) X.env = (false, eval en X.env) :: starEach [ec] X.env := by rfl) (hs2 : starEach (ec :: []) X.env = (false, eval ec X.env) :: starEach [] X.env := by rfl) (hpl : (backTo pos (starEach [ec] X.env)).any (·.1) = false := by rfl) :
    ED (X.suite a ((a, oe) :: pn)) (WS X W e (e.cls.val X.K) d (some (i, a)) : WW X.K) (.Call (.Name "isinstance" p) [en, ec] [] pos) (mExIs e tbl) := by
  refine ⟨fun pins s σ H Q I h => ?_⟩
  obtain ⟨ρ, S, E, r, er, q⟩ := h
  unfold mExIs at q
  cases q1 : e.fs with
  | some fs => rw [q1] at q; exact q.elim
  | none =>
    rw [q1] at q
    cases q2 : takesE tbl e with
    | none => rw [q2] at q; exact q.elim
    | some b =>
      rw [q2] at q
      obtain ⟨y, hy, hmem⟩ := takesE_some q2
      obtain ⟨hC, hk⟩ := ht.all _ hmem
      have hd : d = none := by
        have h1 := er.1.1.2
        rw [q1] at h1
        exact h1
      subst hd
      rw [hy] at hz
      have C : CallR (X.suite a ((a, oe) :: pn)) (.builtin "isinstance") (rIsE X.K (He.ga X.K y) a) := call_isE hC hz hv
      refine PE.run (pe_callB (X := X.suite a ((a, oe) :: pn)) C hg hm boot_isinstance (pa_cons (X := X.suite a ((a, oe) :: pn)) hn (pa_cons (X := X.suite a ((a, oe) :: pn)) hc pa_nil hs2) hs1) (he := hs1) (hpl := hpl)) pins s σ H Q I ?_
      refine ⟨.ref a, er.2.1 i a rfl, ?_⟩
      exact ⟨.ref (He.ga X.K c), .ref (He.ga X.K c), b, rfl, fun u hu => hu, hk, q ρ H _ r Ext.refl (by simp [DV])⟩
end
/-! ### more facts of the written part: a row of truths -/
def obsB (n : Nat) (fa : List He.Fa) (fn : List He.DefD) (ex : PySem.W.Frag → Bool) (g : Addr → Option Obj) : He.AlD × Bool := (He.obsDG n fa fn g, ex (He.frG g (He.asD g n)))
def hookB (n : Nat) (fa : List He.Fa) (fn : List He.DefD) (ex : PySem.W.Frag → Bool) : PySem.W.Hook where
  α := He.AlD × Bool
  obs := fun s => obsB n fa fn ex s.heap.get?
  val := fun _ => (He.valD fn, true)
  says := fun _ h => ∃ K : PySem.W.Frag, K.In h ∧ He.SaysD fa fn K ∧ ex K = true
  of := fun _ _ e => ⟨_, He.frG_in, congrArg (fun z : He.AlD × Bool => z.1) e, congrArg (fun z : He.AlD × Bool => z.2) e⟩
  keeps := fun _ _ _ ⟨K, hK, c⟩ k => ⟨K, PySem.W.Frag.In.keeps hK k, c⟩
theorem obsB_eq {n : Nat} {fa : List He.Fa} {fn : List He.DefD} {ex : PySem.W.Frag → Bool} {g : Addr → Option Obj} {s : Shared} (h : ∀ a, g a = s.heap.get? a) : obsB n fa fn ex g = (hookB n fa fn ex).obs s := by
  have e : g = s.heap.get? := funext h
  rw [e] <;> rfl
def excCB (K : PySem.W.Frag) (x : String) : Bool :=
  decide (PySem.W.findIn K (.ref (He.ga K x)) "__getattribute__" = some (some (.builtin "BaseException.__getattribute__"))) && (decide (PySem.W.findIn K (.ref (He.ga K x)) "__getattr__" = some none) &&
  (decide (PySem.W.subIn K (.ref (He.ga K x)) (.type "BaseException") = some true) && (PySem.W.hasDictIn K (He.ga K x) && (decide (PySem.W.findIn K (.ref (He.ga K x)) "__class__" = some (some (.builtin "object.__class__"))) &&
  (decide (PySem.W.specialIn K (.builtin "object.__class__") "__get__" = some (some (.builtin "getset_descriptor.__get__"))) && (decide (PySem.W.takesIn K (.builtin "object.__class__") = some true) && decide (PySem.W.mroIn K (He.ga K x) (.type "object") = some true)))))))
theorem excCB_ok {K : PySem.W.Frag} {x : String} (h : excCB K x = true) : ExcC K (He.ga K x) := by
  unfold excCB at h
  simp only [Bool.and_eq_true, decide_eq_true_eq] at h
  obtain ⟨h1, h2, h3, h4, h5, h6, h7, h8⟩ := h
  exact ⟨h1, h2, h3, h4, h5, h6, h7, h8⟩
def kitCB (K : PySem.W.Frag) (x c : String) (b : Bool) : Bool := decide (PySem.W.kitOne K (.ref (He.ga K x)) (.ref (He.ga K c)) = some b)
theorem kitCB_ok {K : PySem.W.Frag} {x c : String} {b : Bool} (h : kitCB K x c b = true) : PySem.W.kitOne K (.ref (He.ga K x)) (.ref (He.ga K c)) = some b := of_decide_eq_true h
end PD
namespace PD
open PySem PySem.Spec PyProof.Rows L2
/-! name += value: numbers, texts -/
open Classical in
noncomputable def gAddA (_ : Sto) (x y : D) : Option D := match x, y with
  | .int i, .int j => some (.int (i + j))
  | .str a, .str b => if sizeOk (a.length + b.length) then some (.str (a ++ b)) else none
  | _, _ => none
theorem g_addA {S : Sto} {i j : Int} : gAddA S (.int i) (.int j) = some (.int (i + j)) := rfl
open Classical in
theorem g_addAS {S : Sto} {x y : Tx} : gAddA S (.str x) (.str y) = if sizeOk (x.length + y.length) then some (.str (x ++ y)) else none := rfl
def rAddA : R2 := fun x y H Q => (rI0 fun i j => .int (i + j)) x y H Q ∨ (∃ i j, x = .str i ∧ y = .str j ∧ i.length + j.length ≤ sizeLine ∧ Q (.str (i ++ j)) H)
section
variable {X : Cx}
theorem iop_addD : OpR X (inplaceOp .Add) rAddA := iop_add.or iop_add_str
theorem rp_iadd : ∀ x y H Q, rP X.K gAddA x y H Q → rAddA x y H Q := by
  rintro v u H Q ⟨ρ, S, x, y, d, r, dx, dy, hg, q⟩
  unfold gAddA at hg
  split at hg
  · rw [dv_int] at dx dy
    subst dx dy
    cases hg
    exact .inl ⟨_, _, rfl, rfl, post_int r q⟩
  · rename_i a b
    rw [dv_str] at dx dy
    subst dx dy
    by_cases hl : sizeOk (a.length + b.length)
    · rw [if_pos hl] at hg
      cases hg
      exact .inr ⟨_, _, rfl, rfl, by rw [sv_len, sv_len]; exact hl, by rw [sv_cat]; exact post_str r q⟩
    · rw [if_neg hl] at hg; cases hg
  · cases hg
end
end PD

namespace PD
open PySem PySem.Spec PyProof PyProof.Rows L2
/-! ### == on data -/
mutual
def okd : D → Nat → Bool
  | .non, _ => true
  | .bl _, _ => true
  | .int _, _ => true
  | .str c, _ => c.all (· < 0x110000)
  | .tup xs, n => decide (0 < n) && okds xs (n - 1)
  | .lst xs, n => decide (0 < n) && okds xs (n - 1)
  | .fz xs, n => decide (0 < n) && okds xs (n - 1)
  | .loc _, _ => false
  | .ty _, _ => false
  | .glo _, _ => false
  | .exo, _ => false
def okds : List D → Nat → Bool
  | [], _ => true
  | x :: xs, n => okd x n && okds xs n
end
mutual
def teq : D → D → Bool
  | .non, y => match y with | .non => true | _ => false
  | .bl a, y => match y with | .bl b => a == b | .int j => (if a then 1 else 0) == j | _ => false
  | .int i, y => match y with | .bl b => i == (if b then 1 else 0) | .int j => decide (i = j) | _ => false
  | .str a, y => match y with | .str b => decide (a = b) | _ => false
  | .tup xs, y => match y with | .tup ys => teqs xs ys | _ => false
  | .lst xs, y => match y with | .lst ys => teqs xs ys | .fz ys => teqs xs ys | _ => false
  | .fz xs, y => match y with | .lst ys => teqs xs ys | .fz ys => teqs xs ys | _ => false
  | .loc _, _ => false
  | .ty _, _ => false
  | .glo _, _ => false
  | .exo, _ => false
def teqs : List D → List D → Bool
  | [], ys => match ys with | [] => true | _ :: _ => false
  | x :: xs, ys => match ys with | [] => false | y :: ys => teq x y && teqs xs ys
end
mutual
theorem okd_toP : ∀ (d : D) (n : Nat), okd d n = true → ∃ p, toP d = some p ∧ p.canLay0 = true ∧ p.depth ≤ n
  | .non, n, h => ⟨_, rfl, by simp [PyData.canLay0], by simp [PyData.depth]⟩
  | .bl b, n, h => ⟨_, rfl, by simp [PyData.canLay0], by simp [PyData.depth]⟩
  | .int i, n, h => ⟨_, rfl, by simp [PyData.canLay0], by simp [PyData.depth]⟩
  | .str c, n, h => by
    simp only [okd] at h
    exact ⟨_, rfl, by simpa [PyData.canLay0, PyData.strOk] using h, by simp [PyData.depth]⟩
  | .tup xs, n, h => by
    simp only [okd, Bool.and_eq_true, decide_eq_true_eq] at h
    obtain ⟨p, e, a, b⟩ := okds_toP xs (n - 1) h.2
    refine ⟨.tuple p, by simp only [toP, e, Option.map_some], by simpa [PyData.canLay0] using a, by simp [PyData.depth]; omega⟩
  | .lst xs, n, h => by
    simp only [okd, Bool.and_eq_true, decide_eq_true_eq] at h
    obtain ⟨p, e, a, b⟩ := okds_toP xs (n - 1) h.2
    refine ⟨.list p, by simp only [toP, e, Option.map_some], by simpa [PyData.canLay0] using a, by simp [PyData.depth]; omega⟩
  | .fz xs, n, h => by
    simp only [okd, Bool.and_eq_true, decide_eq_true_eq] at h
    obtain ⟨p, e, a, b⟩ := okds_toP xs (n - 1) h.2
    refine ⟨.list p, by simp only [toP, e, Option.map_some], by simpa [PyData.canLay0] using a, by simp [PyData.depth]; omega⟩
  | .loc _, n, h => by simp [okd] at h
  | .ty _, n, h => by simp [okd] at h
  | .glo _, n, h => by simp [okd] at h
  | .exo, n, h => by simp [okd] at h
theorem okds_toP : ∀ (ds : List D) (n : Nat), okds ds n = true → ∃ p, toPs ds = some p ∧ PyData.canLayAll0 p = true ∧ PyData.depthAll p ≤ n
  | [], n, h => ⟨[], rfl, by simp [PyData.canLayAll0], by simp [PyData.depthAll]⟩
  | x :: xs, n, h => by
    simp only [okds, Bool.and_eq_true] at h
    obtain ⟨p, e, a, b⟩ := okd_toP x n h.1
    obtain ⟨q, e2, a2, b2⟩ := okds_toP xs n h.2
    exact ⟨p :: q, by simp only [toPs, e, e2], by simp [PyData.canLayAll0, a, a2], by simp [PyData.depthAll]; omega⟩
end
theorem tx_str {a b : Tx} : ((⟨a.toArray⟩ : Str) == ⟨b.toArray⟩) = decide (a = b) := by
  rw [Bool.eq_iff_iff]
  simp only [beq_iff_eq, decide_eq_true_eq]
  constructor
  · intro h; have := congrArg (fun x : Str => x.cps.toList) h; simpa using this
  · intro h; rw [h]
mutual
theorem eqv_teq : ∀ (x y : D) (p q : PyData), toP x = some p → toP y = some q → PyData.eqv p q = teq x y
  | .non, y, p, q, h, g => by
    simp only [toP] at h; cases h
    cases y <;> simp only [toP, Option.map_eq_some_iff, reduceCtorEq] at g
    all_goals first | (obtain ⟨r, _, rfl⟩ := g; simp [PyData.eqv, teq]; done) | (cases g; simp [PyData.eqv, teq]; done)
  | .bl b, y, p, q, h, g => by
    simp only [toP] at h; cases h
    cases y <;> simp only [toP, Option.map_eq_some_iff, reduceCtorEq] at g
    all_goals first | (obtain ⟨r, _, rfl⟩ := g; simp [PyData.eqv, teq]; done) | (cases g; simp [PyData.eqv, teq]; done)
  | .int i, y, p, q, h, g => by
    simp only [toP] at h; cases h
    cases y <;> simp only [toP, Option.map_eq_some_iff, reduceCtorEq] at g
    all_goals first | (obtain ⟨r, _, rfl⟩ := g; simp [PyData.eqv, teq]; done) | (cases g; simp [PyData.eqv, teq]; done) | (cases g; simp only [PyData.eqv, teq]; rw [Bool.eq_iff_iff]; simp; done)
  | .str c, y, p, q, h, g => by
    simp only [toP] at h; cases h
    cases y <;> simp only [toP, Option.map_eq_some_iff, reduceCtorEq] at g
    all_goals first | (obtain ⟨r, _, rfl⟩ := g; simp [PyData.eqv, teq]; done) | (cases g; simp only [PyData.eqv, teq]; exact tx_str) | (cases g; simp [PyData.eqv, teq]; done)
  | .tup xs, y, p, q, h, g => by
    simp only [toP, Option.map_eq_some_iff] at h
    obtain ⟨ps, h1, rfl⟩ := h
    cases y <;> simp only [toP, Option.map_eq_some_iff, reduceCtorEq] at g
    all_goals first | (obtain ⟨r, g1, rfl⟩ := g; simp only [PyData.eqv, teq]; exact eqv_teqs _ _ _ _ h1 g1) | (obtain ⟨r, g1, rfl⟩ := g; simp only [PyData.eqv, teq]; done) | (cases g; simp [PyData.eqv, teq]; done)
  | .lst xs, y, p, q, h, g => by
    simp only [toP, Option.map_eq_some_iff] at h
    obtain ⟨ps, h1, rfl⟩ := h
    cases y <;> simp only [toP, Option.map_eq_some_iff, reduceCtorEq] at g
    all_goals first | (obtain ⟨r, g1, rfl⟩ := g; simp only [PyData.eqv, teq]; exact eqv_teqs _ _ _ _ h1 g1) | (obtain ⟨r, g1, rfl⟩ := g; simp only [PyData.eqv, teq]; done) | (cases g; simp [PyData.eqv, teq]; done)
  | .fz xs, y, p, q, h, g => by
    simp only [toP, Option.map_eq_some_iff] at h
    obtain ⟨ps, h1, rfl⟩ := h
    cases y <;> simp only [toP, Option.map_eq_some_iff, reduceCtorEq] at g
    all_goals first | (obtain ⟨r, g1, rfl⟩ := g; simp only [PyData.eqv, teq]; exact eqv_teqs _ _ _ _ h1 g1) | (obtain ⟨r, g1, rfl⟩ := g; simp only [PyData.eqv, teq]; done) | (cases g; simp [PyData.eqv, teq]; done)
  | .loc _, y, p, q, h, g => by simp [toP] at h
  | .ty _, y, p, q, h, g => by simp [toP] at h
  | .glo _, y, p, q, h, g => by simp [toP] at h
  | .exo, y, p, q, h, g => by simp [toP] at h
theorem eqv_teqs : ∀ (xs ys : List D) (p q : List PyData), toPs xs = some p → toPs ys = some q → PyData.eqvAll p q = teqs xs ys
  | [], ys, p, q, h, g => by
    simp only [toPs] at h; cases h
    cases ys with
    | nil => simp only [toPs] at g; cases g; simp [PyData.eqvAll, teqs]
    | cons y ys =>
      simp only [toPs] at g
      split at g
      · cases g; simp [PyData.eqvAll, teqs]
      · cases g
  | x :: xs, ys, p, q, h, g => by
    simp only [toPs] at h
    split at h
    · rename_i a b e1 e2
      cases h
      cases ys with
      | nil => simp only [toPs] at g; cases g; simp [PyData.eqvAll, teqs]
      | cons y ys =>
        simp only [toPs] at g
        split at g
        · rename_i c d e3 e4
          cases g
          simp only [PyData.eqvAll, teqs]
          rw [eqv_teq x y a c e1 e3, eqv_teqs xs ys b d e2 e4]
        · cases g
    · cases h
end
/-- a value with the items of a list that may change read off -/
def flat (S : Sto) (d : D) : D := match d with
  | .loc n => match seqF S (.loc n) with
    | some xs => .lst xs
    | none => .loc n
  | d => d
theorem toPS_flat (S : Sto) (d : D) : okd (flat S d) 64 = true → toPS S d = toP (flat S d) := by
  intro h
  unfold toPS
  cases d
  case loc n =>
    simp only [flat] at *
    cases e : seqF S (.loc n) with
    | none => (try rw [e] at h) <;> simp [okd] at h
    | some xs => simp only [e]; simp only [toP]
  all_goals simp only [seqF, flat, toP]
theorem deepEq_teq {S : Sto} {x y : D} (hx : okd (flat S x) 64 = true) (hy : okd (flat S y) 64 = true) : deepEq S x y = some (teq (flat S x) (flat S y)) := by
  obtain ⟨p, e1, a1, b1⟩ := okd_toP _ _ hx
  obtain ⟨q, e2, a2, b2⟩ := okd_toP _ _ hy
  unfold deepEq
  rw [toPS_flat S x hx, toPS_flat S y hy, e1, e2]
  simp only
  rw [if_pos ⟨by simp [SeqAt.shaped, a1, b1], by simp [SeqAt.shaped, a2, b2]⟩, eqv_teq _ _ _ _ e1 e2]
theorem eqB_teq {S : Sto} {x y : D} (hx : okd (flat S x) 64 = true) (hy : okd (flat S y) 64 = true) : eqB S x y = some (teq (flat S x) (flat S y)) := by
  unfold eqB
  split
  all_goals first | (simp [flat, teq]; done) | exact deepEq_teq hx hy
theorem gEq_teq {S : Sto} {x y : D} (hx : okd (flat S x) 64 = true) (hy : okd (flat S y) 64 = true) : gEq S x y = some (.bl (teq (flat S x) (flat S y))) := by
  unfold gEq; rw [eqB_teq hx hy]; rfl
theorem gNe_teq {S : Sto} {x y : D} (hx : okd (flat S x) 64 = true) (hy : okd (flat S y) 64 = true) : gNe S x y = some (.bl (!teq (flat S x) (flat S y))) := by
  unfold gNe; rw [eqB_teq hx hy]; rfl
mutual
theorem teq_self : ∀ (d : D) (n : Nat), okd d n = true → teq d d = true
  | .non, _, _ => by simp [teq]
  | .bl _, _, _ => by simp [teq]
  | .int _, _, _ => by simp [teq]
  | .str _, _, _ => by simp [teq]
  | .tup xs, n, h => by simp only [okd, Bool.and_eq_true] at h; simp only [teq]; exact teqs_self xs _ h.2
  | .lst xs, n, h => by simp only [okd, Bool.and_eq_true] at h; simp only [teq]; exact teqs_self xs _ h.2
  | .fz xs, n, h => by simp only [okd, Bool.and_eq_true] at h; simp only [teq]; exact teqs_self xs _ h.2
  | .loc _, _, h => by simp [okd] at h
  | .ty _, _, h => by simp [okd] at h
  | .glo _, _, h => by simp [okd] at h
  | .exo, _, h => by simp [okd] at h
theorem teqs_self : ∀ (ds : List D) (n : Nat), okds ds n = true → teqs ds ds = true
  | [], _, _ => by simp [teqs]
  | x :: xs, n, h => by
    simp only [okds, Bool.and_eq_true] at h
    simp only [teqs, teq_self x n h.1, teqs_self xs n h.2, Bool.and_self]
end
end PD

namespace Law
open PySem PySem.Spec PyProof.Rows L2 PD
/-! ### the text by places -/
def top (i : Nat) : Stmt := PySem.Challenge.pw_cardwright_k03_cutting_and_rounding.main.body.getD i (.Pass ⟨0, 0, 0, 0⟩)
abbrev s_power : Stmt := top 4
abbrev s_aligned : Stmt := top 5
abbrev s_quotient : Stmt := top 6
abbrev s_units_at : Stmt := top 7
abbrev s_divide : Stmt := top 8
abbrev s__law_cell : Stmt := top 10
abbrev s__law_rich : Stmt := top 11
abbrev s__law_decimal : Stmt := top 12
abbrev s__law_number : Stmt := top 13
abbrev s__law_ten : Stmt := top 14
abbrev s__law_right : Stmt := top 15
abbrev s__law_divide : Stmt := top 16
abbrev s_law : Stmt := top 17
/-- the defs as plain functions -/
structure Tab where
  power : MF
  aligned : MF
  quotient : MF
  units_at : MF
  divide : MF
  _law_cell : MF
  _law_rich : MF
  _law_decimal : MF
  _law_number : MF
  _law_ten : MF
  _law_right : MF
  _law_divide : MF
  law : MF
def Tab.bad : Tab := ⟨fun _ _ => .bad, fun _ _ => .bad, fun _ _ => .bad, fun _ _ => .bad, fun _ _ => .bad, fun _ _ => .bad, fun _ _ => .bad, fun _ _ => .bad, fun _ _ => .bad, fun _ _ => .bad, fun _ _ => .bad, fun _ _ => .bad, fun _ _ => .bad⟩
/- ['exponent', 'result', '_'] -/
noncomputable def l_power_1 (C : Tab) : MS := (mAug 1 gMul (mC (.int 10)))
noncomputable def b_power (C : Tab) : MS := (mSeq (mSet 1 (mC (.int 1)))
    (mSeq (mFor (iRange1 (mCons (mVar 0) mNil)) (gN 2) (l_power_1 C))
    (mRet (mVar 1))))
/- ['number', 'scale'] -/
noncomputable def b_aligned (C : Tab) : MS := (mRet (mBin gMul (mBin gIx (mVar 0) (mC (.int 0))) (mCall C.power (mCons (mBin gMns (mVar 1) (mBin gIx (mVar 0) (mC (.int 1)))) mNil))))
/- ['above', 'below', 'is_rounded', 'size'] -/
noncomputable def b_quotient (C : Tab) : MS := (mSeq (mSet 3 (mBin gDiv (mB gAbs (mCons (mVar 0) mNil)) (mB gAbs (mCons (mVar 1) mNil))))
    (mSeq (mIf (mAnd (asB (mVar 2)) (asB (mBin gGe (mBin gMul (mC (.int 2)) (mBin gMns (mB gAbs (mCons (mVar 0) mNil)) (mBin gMul (mVar 3) (mB gAbs (mCons (mVar 1) mNil))))) (mB gAbs (mCons (mVar 1) mNil))))) (mAug 3 gAddA (mC (.int 1))) mSkip)
    (mSeq (mIf (asB (mBin gNe (mBin gLt (mVar 0) (mC (.int 0))) (mBin gLt (mVar 1) (mC (.int 0))))) (mRet (mUn gNeg (mVar 3))) mSkip)
    (mRet (mVar 3)))))
/- ['a', 'scale', 'is_rounded'] -/
noncomputable def b_units_at (C : Tab) : MS := (mSeq (mIf (asB (mBin gLe (mBin gIx (mVar 0) (mC (.int 1))) (mVar 1))) (mRet (mCall C.aligned (mCons (mVar 0) (mCons (mVar 1) mNil)))) mSkip)
    (mRet (mCall C.quotient (mCons (mBin gIx (mVar 0) (mC (.int 0))) (mCons (mCall C.power (mCons (mBin gMns (mBin gIx (mVar 0) (mC (.int 1))) (mVar 1)) mNil)) (mCons (mVar 2) mNil))))))
/- ['a', 'b', 'scale', 'is_rounded'] -/
noncomputable def b_divide (C : Tab) : MS := (mSeq (mIf (asB (mBin gEq (mBin gIx (mVar 1) (mC (.int 0))) (mC (.int 0)))) (mRaise ⟨.own "BadDecimal", none⟩) mSkip)
    (mRet (mCall C.quotient (mCons (mBin gMul (mBin gIx (mVar 0) (mC (.int 0))) (mCall C.power (mCons (mBin gAdd (mBin gIx (mVar 1) (mC (.int 1))) (mVar 2)) mNil))) (mCons (mBin gMul (mBin gIx (mVar 1) (mC (.int 0))) (mCall C.power (mCons (mBin gIx (mVar 0) (mC (.int 1))) mNil))) (mCons (mVar 3) mNil))))))
/- ['script', 'k'] -/
noncomputable def b__law_cell (C : Tab) : MS := (mSeq (mIf (asB (mBin gLt (mVar 1) (mB gLen (mCons (mVar 0) mNil)))) (mRet (mB gInt (mCons (mBin gIx (mVar 0) (mVar 1)) mNil))) mSkip)
    (mRet (mC (.int 0))))
/- ['cell', 'k', 'mixed'] -/
noncomputable def b__law_rich (C : Tab) : MS := (mSeq (mIf (asB (mBin gGe (mVar 0) (mBin gPow (mC (.int 10)) (mC (.int 18))))) (mRet (mB gInt (mCons (mVar 0) mNil))) mSkip)
    (mSeq (mSet 2 (mBin gMod (mB gInt (mCons (mBin gAdd (mBin gAdd (mBin gMul (mVar 0) (mC (.int 48271))) (mBin gMul (mVar 1) (mC (.int 69621)))) (mC (.int 11))) mNil)) (mC (.int 2147483647))))
    (mRet (mBin gAdd (mBin gMul (mVar 2) (mC (.int 2147483629))) (mBin gMod (mB gInt (mCons (mBin gAdd (mBin gMul (mVar 2) (mC (.int 16807))) (mVar 0)) mNil)) (mC (.int 2147483629)))))))
/- ['units', 'scale', 'k'] -/
noncomputable def l__law_decimal_1 (C : Tab) : MS := (mIf (asB (mBin gEq (mBin gMod (mB gInt (mCons (mVar 0) mNil)) (mC (.int 10))) (mC (.int 0)))) (mSeq (mSet 0 (mBin gDiv (mVar 0) (mC (.int 10))))
    (mSet 1 (mBin gMns (mVar 1) (mC (.int 1))))) (mRet (mTup (mCons (mVar 0) (mCons (mVar 1) mNil)))))
noncomputable def b__law_decimal (C : Tab) : MS := (mSeq (mFor (iRange1 (mCons (mVar 1) mNil)) (gN 2) (l__law_decimal_1 C))
    (mRet (mTup (mCons (mVar 0) (mCons (mVar 1) mNil)))))
/- ['rich', 'choice', 'rest'] -/
noncomputable def b__law_number (C : Tab) : MS := (mSeq (mSet 1 (mBin gMod (mVar 0) (mC (.int 6))))
    (mSeq (mSet 2 (mBin gDiv (mVar 0) (mC (.int 6))))
    (mSeq (mIf (asB (mBin gEq (mVar 1) (mC (.int 0)))) (mRet (mCall C._law_decimal (mCons (mBin gIx (mLst (mCons (mC (.int 0)) (mCons (mC (.int 1)) (mCons (mUn gNeg (mC (.int 1))) (mCons (mC (.int 10)) (mCons (mUn gNeg (mC (.int 100))) (mCons (mC (.int 5)) mNil))))))) (mBin gMod (mVar 2) (mC (.int 6)))) (mCons (mBin gMod (mBin gDiv (mVar 2) (mC (.int 6))) (mC (.int 3))) mNil)))) mSkip)
    (mSeq (mIf (asB (mBin gLt (mVar 1) (mC (.int 4)))) (mRet (mCall C._law_decimal (mCons (mBin gMns (mBin gMod (mVar 2) (mC (.int 20001))) (mC (.int 10000))) (mCons (mBin gMod (mBin gDiv (mVar 2) (mC (.int 20001))) (mC (.int 5))) mNil)))) mSkip)
    (mRet (mCall C._law_decimal (mCons (mBin gMns (mBin gMod (mVar 2) (mBin gMul (mC (.int 2)) (mBin gPow (mC (.int 10)) (mC (.int 18))))) (mBin gPow (mC (.int 10)) (mC (.int 18)))) (mCons (mBin gMod (mBin gDiv (mVar 2) (mBin gPow (mC (.int 10)) (mC (.int 15)))) (mC (.int 19))) mNil))))))))
/- ['scale', 'result', 'k'] -/
noncomputable def l__law_ten_1 (C : Tab) : MS := (mSet 1 (mBin gMul (mVar 1) (mC (.int 10))))
noncomputable def b__law_ten (C : Tab) : MS := (mSeq (mSet 1 (mC (.int 1)))
    (mSeq (mFor (iRange1 (mCons (mVar 0) mNil)) (gN 2) (l__law_ten_1 C))
    (mRet (mVar 1))))
/- ['actual', 'above', 'below', 'is_rounded', 'size', 'above_size', 'below_size'] -/
noncomputable def q__law_right_1 (C : Tab) : MS := (mSeq (mIf (mAnd (asB (mBin gNe (mVar 4) (mC (.int 0)))) (asB (mBin gNe (mBin gLt (mVar 0) (mC (.int 0))) (mBin gNe (mBin gLt (mVar 1) (mC (.int 0))) (mBin gLt (mVar 2) (mC (.int 0))))))) (mRet (mC (.bl false))) mSkip)
    (mSeq (mIf (mNot (asB (mVar 3))) (mRet (mAndV (mBin gLe (mBin gMul (mVar 4) (mVar 6)) (mVar 5)) (mBin gLt (mVar 5) (mBin gMul (mBin gAdd (mVar 4) (mC (.int 1))) (mVar 6))))) mSkip)
    (mRet (mAndV (mBin gLe (mBin gMul (mBin gMns (mBin gMul (mC (.int 2)) (mVar 4)) (mC (.int 1))) (mVar 6)) (mBin gMul (mC (.int 2)) (mVar 5))) (mBin gLt (mBin gMul (mC (.int 2)) (mVar 5)) (mBin gMul (mBin gAdd (mBin gMul (mC (.int 2)) (mVar 4)) (mC (.int 1))) (mVar 6)))))))
noncomputable def b__law_right (C : Tab) : MS := (mSeq (mIf (mOr (mNot (asB (mB gIsi (mCons (mVar 0) (mCons (mC (.ty "int")) mNil))))) (asB (mB gIsi (mCons (mVar 0) (mCons (mC (.ty "bool")) mNil))))) (mRet (mC (.bl false))) mSkip)
    (mSeq (mSet 4 (mB gAbs (mCons (mVar 0) mNil)))
    (mSeq (mSet 5 (mB gAbs (mCons (mVar 1) mNil)))
    (mSeq (mSet 6 (mB gAbs (mCons (mVar 2) mNil)))
    (q__law_right_1 C)))))
/- ['a', 'b', 'scale', 'is_rounded', 'e'] -/
noncomputable def b__law_divide (C : Tab) : MS := (mTryAs (mRet (mCall C.divide (mCons (mVar 0) (mCons (mVar 1) (mCons (mVar 2) (mCons (mVar 3) mNil)))))) [("CardError", true), ("BadDecimal", true)] 4 (fun e => (mRet (mTup (mCons (mC (.str [114, 101, 102, 117, 115, 101, 100])) (mCons (mExIs e [("CardError", false), ("BadDecimal", true)]) mNil))))))
/- ['script', 'k', 'rich', 'is_rounded', 'below', 'above', 'a', 'b', 'scale', 'actual'] -/
noncomputable def q_law_1 (C : Tab) : MS := (mSeq (mSet 7 (mCall C._law_number (mCons (mBin gAdd (mBin gDiv (mVar 2) (mC (.int 77))) (mBin gMul (mC (.int 5)) (mVar 1))) mNil)))
    (mSeq (mSet 8 (mBin gMod (mBin gDiv (mVar 2) (mC (.int 11))) (mC (.int 21))))
    (mSeq (mIf (mNot (asB (mCall C._law_right (mCons (mCall C.units_at (mCons (mVar 6) (mCons (mVar 8) (mCons (mVar 3) mNil)))) (mCons (mBin gMul (mBin gIx (mVar 6) (mC (.int 0))) (mCall C._law_ten (mCons (mVar 8) mNil))) (mCons (mCall C._law_ten (mCons (mBin gIx (mVar 6) (mC (.int 1))) mNil)) (mCons (mVar 3) mNil))))))) (mRet (mC (.bl false))) mSkip)
    (mSeq (mSet 9 (mCall C._law_divide (mCons (mVar 6) (mCons (mVar 7) (mCons (mVar 8) (mCons (mVar 3) mNil))))))
    (mIf (asB (mBin gEq (mBin gIx (mVar 7) (mC (.int 0))) (mC (.int 0)))) (mIf (asB (mBin gNe (mVar 9) (mTup (mCons (mC (.str [114, 101, 102, 117, 115, 101, 100])) (mCons (mC (.bl true)) mNil))))) (mRet (mC (.bl false))) mSkip) (mIf (mNot (asB (mCall C._law_right (mCons (mVar 9) (mCons (mBin gMul (mBin gIx (mVar 6) (mC (.int 0))) (mCall C._law_ten (mCons (mBin gAdd (mBin gIx (mVar 7) (mC (.int 1))) (mVar 8)) mNil))) (mCons (mBin gMul (mBin gIx (mVar 7) (mC (.int 0))) (mCall C._law_ten (mCons (mBin gIx (mVar 6) (mC (.int 1))) mNil))) (mCons (mVar 3) mNil))))))) (mRet (mC (.bl false))) mSkip))))))
noncomputable def q_law_2 (C : Tab) : MS := (mSeq (mSet 5 (mBin gMns (mBin gMod (mBin gDiv (mVar 2) (mC (.int 4002))) (mBin gPow (mC (.int 10)) (mC (.int 30)))) (mBin gPow (mC (.int 10)) (mC (.int 29)))))
    (mSeq (mIf (asB (mBin gEq (mBin gMod (mVar 2) (mC (.int 5))) (mC (.int 0)))) (mSeq (mSet 4 (mBin gMul (mC (.int 2)) (mVar 4)))
    (mSet 5 (mBin gMul (mBin gDiv (mVar 4) (mC (.int 2))) (mBin gMns (mBin gMod (mBin gDiv (mVar 2) (mC (.int 9))) (mC (.int 31))) (mC (.int 15)))))) mSkip)
    (mSeq (mIf (mNot (asB (mCall C._law_right (mCons (mCall C.quotient (mCons (mVar 5) (mCons (mVar 4) (mCons (mVar 3) mNil)))) (mCons (mVar 5) (mCons (mVar 4) (mCons (mVar 3) mNil))))))) (mRet (mC (.bl false))) mSkip)
    (mSeq (mSet 6 (mCall C._law_number (mCons (mBin gDiv (mVar 2) (mC (.int 3))) mNil)))
    (q_law_1 C)))))
noncomputable def l_law_1 (C : Tab) : MS := (mSeq (mSet 2 (mCall C._law_rich (mCons (mCall C._law_cell (mCons (mVar 0) (mCons (mVar 1) mNil))) (mCons (mVar 1) mNil))))
    (mSeq (mSet 3 (mBin gEq (mBin gMod (mVar 2) (mC (.int 2))) (mC (.int 1))))
    (mSeq (mSet 4 (mBin gMns (mBin gMod (mBin gDiv (mVar 2) (mC (.int 2))) (mC (.int 2001))) (mC (.int 1000))))
    (mSeq (mIf (asB (mBin gEq (mVar 4) (mC (.int 0)))) (mSet 4 (mC (.int 7))) mSkip)
    (q_law_2 C)))))
noncomputable def b_law (C : Tab) : MS := (mSeq (mFor (iRange1 (mCons (mB gMax2 (mCons (mC (.int 1)) (mCons (mB gMin2 (mCons (mC (.int 12)) (mCons (mB gLen (mCons (mVar 0) mNil)) mNil))) mNil))) mNil)) (gN 1) (l_law_1 C))
    (mRet (mC (.bl true))))
noncomputable def step (C : Tab) : Tab where
  power := runB 3 (b_power C)
  aligned := runB 2 (b_aligned C)
  quotient := runB 4 (b_quotient C)
  units_at := runB 3 (b_units_at C)
  divide := runB 4 (b_divide C)
  _law_cell := runB 2 (b__law_cell C)
  _law_rich := runB 3 (b__law_rich C)
  _law_decimal := runB 3 (b__law_decimal C)
  _law_number := runB 3 (b__law_number C)
  _law_ten := runB 3 (b__law_ten C)
  _law_right := runB 7 (b__law_right C)
  _law_divide := runB 5 (b__law_divide C)
  law := runB 10 (b_law C)
noncomputable def T : Nat → Tab
  | 0 => Tab.bad
  | k + 1 => step (T k)
theorem T_succ (k : Nat) : T (k + 1) = step (T k) := rfl
theorem T_power (k : Nat) : (T (k + 1)).power = runB 3 (b_power (T k)) := by rw [T_succ]; unfold step; rfl
theorem T_aligned (k : Nat) : (T (k + 1)).aligned = runB 2 (b_aligned (T k)) := by rw [T_succ]; unfold step; rfl
theorem T_quotient (k : Nat) : (T (k + 1)).quotient = runB 4 (b_quotient (T k)) := by rw [T_succ]; unfold step; rfl
theorem T_units_at (k : Nat) : (T (k + 1)).units_at = runB 3 (b_units_at (T k)) := by rw [T_succ]; unfold step; rfl
theorem T_divide (k : Nat) : (T (k + 1)).divide = runB 4 (b_divide (T k)) := by rw [T_succ]; unfold step; rfl
theorem T__law_cell (k : Nat) : (T (k + 1))._law_cell = runB 2 (b__law_cell (T k)) := by rw [T_succ]; unfold step; rfl
theorem T__law_rich (k : Nat) : (T (k + 1))._law_rich = runB 3 (b__law_rich (T k)) := by rw [T_succ]; unfold step; rfl
theorem T__law_decimal (k : Nat) : (T (k + 1))._law_decimal = runB 3 (b__law_decimal (T k)) := by rw [T_succ]; unfold step; rfl
theorem T__law_number (k : Nat) : (T (k + 1))._law_number = runB 3 (b__law_number (T k)) := by rw [T_succ]; unfold step; rfl
theorem T__law_ten (k : Nat) : (T (k + 1))._law_ten = runB 3 (b__law_ten (T k)) := by rw [T_succ]; unfold step; rfl
theorem T__law_right (k : Nat) : (T (k + 1))._law_right = runB 7 (b__law_right (T k)) := by rw [T_succ]; unfold step; rfl
theorem T__law_divide (k : Nat) : (T (k + 1))._law_divide = runB 5 (b__law_divide (T k)) := by rw [T_succ]; unfold step; rfl
theorem T_law (k : Nat) : (T (k + 1)).law = runB 10 (b_law (T k)) := by rw [T_succ]; unfold step; rfl
/-- what the module's names stand for -/
structure Gs (P : Program) (w : World) (K : PySem.W.Frag) (mg : Str → Option Value) (base : Heap) (k : Nat) (C : Tab) : Prop where
  c_power : CallF P w K mg base k "power" 1 C.power
  c_aligned : CallF P w K mg base k "aligned" 2 C.aligned
  c_quotient : CallF P w K mg base k "quotient" 3 C.quotient
  c_units_at : CallF P w K mg base k "units_at" 3 C.units_at
  c_divide : CallF P w K mg base k "divide" 4 C.divide
  c__law_cell : CallF P w K mg base k "_law_cell" 2 C._law_cell
  c__law_rich : CallF P w K mg base k "_law_rich" 2 C._law_rich
  c__law_decimal : CallF P w K mg base k "_law_decimal" 2 C._law_decimal
  c__law_number : CallF P w K mg base k "_law_number" 1 C._law_number
  c__law_ten : CallF P w K mg base k "_law_ten" 1 C._law_ten
  c__law_right : CallF P w K mg base k "_law_right" 4 C._law_right
  c__law_divide : CallF P w K mg base k "_law_divide" 4 C._law_divide
  c_law : CallF P w K mg base k "law" 1 C.law
  f_abs : mg "abs" = none
  f_bool : mg "bool" = none
  f_int : mg "int" = none
  f_isinstance : mg "isinstance" = none
  f_len : mg "len" = none
  f_max : mg "max" = none
  f_min : mg "min" = none
  f_range : mg "range" = none
  g_BadDecimal : ExK K mg "BadDecimal"
  g_CardError : ExK K mg "CardError"
  t_CardError : TblOk K (.ref (He.ga K "CardError")) [("CardError", true), ("BadDecimal", true)]
  is_BadDecimal : IsOk K "BadDecimal" [("CardError", false), ("BadDecimal", true)]
theorem sc_power : FnScope ["exponent", "result", "_"] ["exponent"] (defScope s_power) := ⟨rfl, rfl, rfl, by decide +kernel, rfl, by decide +kernel, by decide +kernel⟩
theorem d_power {P : Program} {w : World} {K : PySem.W.Frag} {mg : Str → Option Value} {base : Heap} {k : Nat} {C : Tab} {f : Addr} {cdv : Value} {A : Around} {outer : List Env} {s : Shared} {H : Hp} {E : XK}
    (g : Gs P w K mg base k C) (hr : Room k (A.deeper (envOfC "power" (defScope s_power) s.heap.objs.size f cdv))) :
    BD (cxOf (L2.CX P w) P w K mg base ["exponent", "result", "_"] "power" (defScope s_power) f cdv A outer s H E) (WW.of (K := K) fun c d _ H => E c d H) (defBody s_power) (b_power C) := by
  have sc := sc_power
  have tk : Takes (cxOf (L2.CX P w) P w K mg base ["exponent", "result", "_"] "power" (defScope s_power) f cdv A outer s H E) (fun c d _ H => E c d H) := takes_of rfl rfl rfl rfl
  have po := passes_of (X := cxOf (L2.CX P w) P w K mg base ["exponent", "result", "_"] "power" (defScope s_power) f cdv A outer s H E) rfl
  have hu := hr.units
  exact (bd_cons (sd_set (i := 1) sc.nd rfl (Or.inl rfl) ed_int)
    (bd_cons (sd_for po rfl (id_range1 rfl g.f_range (ad_cons (ed_var (pv 0)) ad_nil)) (gd_name (pg_name (i := 2) sc.nd rfl (Or.inl rfl))) (bd_one (sd_aug (i := 1) sc.nd rfl (Or.inl rfl) ed_int (ipR iop_mulD) rp_imul)))
    (bd_one (sd_ret (ed_var (pv 1))))))
theorem sc_aligned : FnScope ["number", "scale"] ["number", "scale"] (defScope s_aligned) := ⟨rfl, rfl, rfl, by decide +kernel, rfl, by decide +kernel, by decide +kernel⟩
theorem d_aligned {P : Program} {w : World} {K : PySem.W.Frag} {mg : Str → Option Value} {base : Heap} {k : Nat} {C : Tab} {f : Addr} {cdv : Value} {A : Around} {outer : List Env} {s : Shared} {H : Hp} {E : XK}
    (g : Gs P w K mg base k C) (hr : Room k (A.deeper (envOfC "aligned" (defScope s_aligned) s.heap.objs.size f cdv))) :
    BD (cxOf (L2.CX P w) P w K mg base ["number", "scale"] "aligned" (defScope s_aligned) f cdv A outer s H E) (WW.of (K := K) fun c d _ H => E c d H) (defBody s_aligned) (b_aligned C) := by
  have sc := sc_aligned
  have tk : Takes (cxOf (L2.CX P w) P w K mg base ["number", "scale"] "aligned" (defScope s_aligned) f cdv A outer s H E) (fun c d _ H => E c d H) := takes_of rfl rfl rfl rfl
  have po := passes_of (X := cxOf (L2.CX P w) P w K mg base ["number", "scale"] "aligned" (defScope s_aligned) f cdv A outer s H E) rfl
  have hu := hr.units
  exact (bd_one (sd_ret (ed_bin op_mulD rp_mul (ed_ix ix_seq rp_ix (ed_var (pv 0)) ed_int (fun _ _ => rfl)) (ed_call g.c_power hr tk rfl (ad_cons (ed_bin op_sub rp_sub (ed_var (pv 1)) (ed_ix ix_seq rp_ix (ed_var (pv 0)) ed_int (fun _ _ => rfl))) ad_nil) (len_cons len_nil)))))
theorem sc_quotient : FnScope ["above", "below", "is_rounded", "size"] ["above", "below", "is_rounded"] (defScope s_quotient) := ⟨rfl, rfl, rfl, by decide +kernel, rfl, by decide +kernel, by decide +kernel⟩
theorem d_quotient {P : Program} {w : World} {K : PySem.W.Frag} {mg : Str → Option Value} {base : Heap} {k : Nat} {C : Tab} {f : Addr} {cdv : Value} {A : Around} {outer : List Env} {s : Shared} {H : Hp} {E : XK}
    (g : Gs P w K mg base k C) (hr : Room k (A.deeper (envOfC "quotient" (defScope s_quotient) s.heap.objs.size f cdv))) :
    BD (cxOf (L2.CX P w) P w K mg base ["above", "below", "is_rounded", "size"] "quotient" (defScope s_quotient) f cdv A outer s H E) (WW.of (K := K) fun c d _ H => E c d H) (defBody s_quotient) (b_quotient C) := by
  have sc := sc_quotient
  have tk : Takes (cxOf (L2.CX P w) P w K mg base ["above", "below", "is_rounded", "size"] "quotient" (defScope s_quotient) f cdv A outer s H E) (fun c d _ H => E c d H) := takes_of rfl rfl rfl rfl
  have po := passes_of (X := cxOf (L2.CX P w) P w K mg base ["above", "below", "is_rounded", "size"] "quotient" (defScope s_quotient) f cdv A outer s H E) rfl
  have hu := hr.units
  exact (bd_cons (sd_set (i := 3) sc.nd rfl (Or.inl rfl) (ed_bin op_fdivW rp_div (ed_callB call_abs rp_abs rfl g.f_abs boot_abs (ad_cons (ed_var (pv 0)) ad_nil)) (ed_callB call_abs rp_abs rfl g.f_abs boot_abs (ad_cons (ed_var (pv 1)) ad_nil))))
    (bd_cons (sd_if (td_w (wd_and (td_val (ed_var (pv 2))) (wd_and1 (td_cmp op_geD rp_ge (ed_bin op_mulD rp_mul ed_int (ed_bin op_sub rp_sub (ed_callB call_abs rp_abs rfl g.f_abs boot_abs (ad_cons (ed_var (pv 0)) ad_nil)) (ed_bin op_mulD rp_mul (ed_var (pv 3)) (ed_callB call_abs rp_abs rfl g.f_abs boot_abs (ad_cons (ed_var (pv 1)) ad_nil))))) (ed_callB call_abs rp_abs rfl g.f_abs boot_abs (ad_cons (ed_var (pv 1)) ad_nil)) (nomark _))))) (bd_one (sd_aug (i := 3) sc.nd rfl (Or.inl rfl) ed_int (ipR iop_addD) rp_iadd)) bd_nil)
    (bd_cons (sd_if (td_cmp (op_neA hu) rp_ne (ed_cmp op_ltD rp_lt (ed_var (pv 0)) ed_int (nomark _)) (ed_cmp op_ltD rp_lt (ed_var (pv 1)) ed_int (nomark _)) (nomark _)) (bd_one (sd_ret (ed_un un_neg rp_neg (ed_var (pv 3))))) bd_nil)
    (bd_one (sd_ret (ed_var (pv 3)))))))
theorem sc_units_at : FnScope ["a", "scale", "is_rounded"] ["a", "scale", "is_rounded"] (defScope s_units_at) := ⟨rfl, rfl, rfl, by decide +kernel, rfl, by decide +kernel, by decide +kernel⟩
theorem d_units_at {P : Program} {w : World} {K : PySem.W.Frag} {mg : Str → Option Value} {base : Heap} {k : Nat} {C : Tab} {f : Addr} {cdv : Value} {A : Around} {outer : List Env} {s : Shared} {H : Hp} {E : XK}
    (g : Gs P w K mg base k C) (hr : Room k (A.deeper (envOfC "units_at" (defScope s_units_at) s.heap.objs.size f cdv))) :
    BD (cxOf (L2.CX P w) P w K mg base ["a", "scale", "is_rounded"] "units_at" (defScope s_units_at) f cdv A outer s H E) (WW.of (K := K) fun c d _ H => E c d H) (defBody s_units_at) (b_units_at C) := by
  have sc := sc_units_at
  have tk : Takes (cxOf (L2.CX P w) P w K mg base ["a", "scale", "is_rounded"] "units_at" (defScope s_units_at) f cdv A outer s H E) (fun c d _ H => E c d H) := takes_of rfl rfl rfl rfl
  have po := passes_of (X := cxOf (L2.CX P w) P w K mg base ["a", "scale", "is_rounded"] "units_at" (defScope s_units_at) f cdv A outer s H E) rfl
  have hu := hr.units
  exact (bd_cons (sd_if (td_cmp op_leD rp_le (ed_ix ix_seq rp_ix (ed_var (pv 0)) ed_int (fun _ _ => rfl)) (ed_var (pv 1)) (nomark _)) (bd_one (sd_ret (ed_call g.c_aligned hr tk rfl (ad_cons (ed_var (pv 0)) (ad_cons (ed_var (pv 1)) ad_nil)) (len_cons (len_cons len_nil))))) bd_nil)
    (bd_one (sd_ret (ed_call g.c_quotient hr tk rfl (ad_cons (ed_ix ix_seq rp_ix (ed_var (pv 0)) ed_int (fun _ _ => rfl)) (ad_cons (ed_call g.c_power hr tk rfl (ad_cons (ed_bin op_sub rp_sub (ed_ix ix_seq rp_ix (ed_var (pv 0)) ed_int (fun _ _ => rfl)) (ed_var (pv 1))) ad_nil) (len_cons len_nil)) (ad_cons (ed_var (pv 2)) ad_nil))) (len_cons (len_cons (len_cons len_nil)))))))
theorem sc_divide : FnScope ["a", "b", "scale", "is_rounded"] ["a", "b", "scale", "is_rounded"] (defScope s_divide) := ⟨rfl, rfl, rfl, by decide +kernel, rfl, by decide +kernel, by decide +kernel⟩
theorem d_divide {P : Program} {w : World} {K : PySem.W.Frag} {mg : Str → Option Value} {base : Heap} {k : Nat} {C : Tab} {f : Addr} {cdv : Value} {A : Around} {outer : List Env} {s : Shared} {H : Hp} {E : XK}
    (g : Gs P w K mg base k C) (hr : Room k (A.deeper (envOfC "divide" (defScope s_divide) s.heap.objs.size f cdv))) :
    BD (cxOf (L2.CX P w) P w K mg base ["a", "b", "scale", "is_rounded"] "divide" (defScope s_divide) f cdv A outer s H E) (WW.of (K := K) fun c d _ H => E c d H) (defBody s_divide) (b_divide C) := by
  have sc := sc_divide
  have tk : Takes (cxOf (L2.CX P w) P w K mg base ["a", "b", "scale", "is_rounded"] "divide" (defScope s_divide) f cdv A outer s H E) (fun c d _ H => E c d H) := takes_of rfl rfl rfl rfl
  have po := passes_of (X := cxOf (L2.CX P w) P w K mg base ["a", "b", "scale", "is_rounded"] "divide" (defScope s_divide) f cdv A outer s H E) rfl
  have hu := hr.units
  exact (bd_cons (sd_if (td_cmp (op_eqA hu) rp_eq (ed_ix ix_seq rp_ix (ed_var (pv 1)) ed_int (fun _ _ => rfl)) ed_int (nomark _)) (bd_one (sd_raise0 g.g_BadDecimal rfl tk rfl)) bd_nil)
    (bd_one (sd_ret (ed_call g.c_quotient hr tk rfl (ad_cons (ed_bin op_mulD rp_mul (ed_ix ix_seq rp_ix (ed_var (pv 0)) ed_int (fun _ _ => rfl)) (ed_call g.c_power hr tk rfl (ad_cons (ed_bin op_addD rp_add (ed_ix ix_seq rp_ix (ed_var (pv 1)) ed_int (fun _ _ => rfl)) (ed_var (pv 2))) ad_nil) (len_cons len_nil))) (ad_cons (ed_bin op_mulD rp_mul (ed_ix ix_seq rp_ix (ed_var (pv 1)) ed_int (fun _ _ => rfl)) (ed_call g.c_power hr tk rfl (ad_cons (ed_ix ix_seq rp_ix (ed_var (pv 0)) ed_int (fun _ _ => rfl)) ad_nil) (len_cons len_nil))) (ad_cons (ed_var (pv 3)) ad_nil))) (len_cons (len_cons (len_cons len_nil)))))))
theorem sc__law_cell : FnScope ["script", "k"] ["script", "k"] (defScope s__law_cell) := ⟨rfl, rfl, rfl, by decide +kernel, rfl, by decide +kernel, by decide +kernel⟩
theorem d__law_cell {P : Program} {w : World} {K : PySem.W.Frag} {mg : Str → Option Value} {base : Heap} {k : Nat} {C : Tab} {f : Addr} {cdv : Value} {A : Around} {outer : List Env} {s : Shared} {H : Hp} {E : XK}
    (g : Gs P w K mg base k C) (hr : Room k (A.deeper (envOfC "_law_cell" (defScope s__law_cell) s.heap.objs.size f cdv))) :
    BD (cxOf (L2.CX P w) P w K mg base ["script", "k"] "_law_cell" (defScope s__law_cell) f cdv A outer s H E) (WW.of (K := K) fun c d _ H => E c d H) (defBody s__law_cell) (b__law_cell C) := by
  have sc := sc__law_cell
  have tk : Takes (cxOf (L2.CX P w) P w K mg base ["script", "k"] "_law_cell" (defScope s__law_cell) f cdv A outer s H E) (fun c d _ H => E c d H) := takes_of rfl rfl rfl rfl
  have po := passes_of (X := cxOf (L2.CX P w) P w K mg base ["script", "k"] "_law_cell" (defScope s__law_cell) f cdv A outer s H E) rfl
  have hu := hr.units
  exact (bd_cons (sd_if (td_cmp op_ltD rp_lt (ed_var (pv 1)) (ed_callB call_len rp_len rfl g.f_len boot_len (ad_cons (ed_var (pv 0)) ad_nil)) (nomark _)) (bd_one (sd_ret (ed_callTy call_int1 rp_int rfl g.f_int boot_int (ad_cons (ed_ix ix_seq rp_ix (ed_var (pv 0)) (ed_var (pv 1)) (fun _ _ => rfl)) ad_nil)))) bd_nil)
    (bd_one (sd_ret ed_int)))
theorem sc__law_rich : FnScope ["cell", "k", "mixed"] ["cell", "k"] (defScope s__law_rich) := ⟨rfl, rfl, rfl, by decide +kernel, rfl, by decide +kernel, by decide +kernel⟩
theorem d__law_rich {P : Program} {w : World} {K : PySem.W.Frag} {mg : Str → Option Value} {base : Heap} {k : Nat} {C : Tab} {f : Addr} {cdv : Value} {A : Around} {outer : List Env} {s : Shared} {H : Hp} {E : XK}
    (g : Gs P w K mg base k C) (hr : Room k (A.deeper (envOfC "_law_rich" (defScope s__law_rich) s.heap.objs.size f cdv))) :
    BD (cxOf (L2.CX P w) P w K mg base ["cell", "k", "mixed"] "_law_rich" (defScope s__law_rich) f cdv A outer s H E) (WW.of (K := K) fun c d _ H => E c d H) (defBody s__law_rich) (b__law_rich C) := by
  have sc := sc__law_rich
  have tk : Takes (cxOf (L2.CX P w) P w K mg base ["cell", "k", "mixed"] "_law_rich" (defScope s__law_rich) f cdv A outer s H E) (fun c d _ H => E c d H) := takes_of rfl rfl rfl rfl
  have po := passes_of (X := cxOf (L2.CX P w) P w K mg base ["cell", "k", "mixed"] "_law_rich" (defScope s__law_rich) f cdv A outer s H E) rfl
  have hu := hr.units
  exact (bd_cons (sd_if (td_cmp op_geD rp_ge (ed_var (pv 0)) (ed_bin op_pow rp_pow ed_int ed_int) (nomark _)) (bd_one (sd_ret (ed_callTy call_int1 rp_int rfl g.f_int boot_int (ad_cons (ed_var (pv 0)) ad_nil)))) bd_nil)
    (bd_cons (sd_set (i := 2) sc.nd rfl (Or.inl rfl) (ed_bin op_mod rp_mod (ed_callTy call_int1 rp_int rfl g.f_int boot_int (ad_cons (ed_bin op_addD rp_add (ed_bin op_addD rp_add (ed_bin op_mulD rp_mul (ed_var (pv 0)) ed_int) (ed_bin op_mulD rp_mul (ed_var (pv 1)) ed_int)) ed_int) ad_nil)) ed_int))
    (bd_one (sd_ret (ed_bin op_addD rp_add (ed_bin op_mulD rp_mul (ed_var (pv 2)) ed_int) (ed_bin op_mod rp_mod (ed_callTy call_int1 rp_int rfl g.f_int boot_int (ad_cons (ed_bin op_addD rp_add (ed_bin op_mulD rp_mul (ed_var (pv 2)) ed_int) (ed_var (pv 0))) ad_nil)) ed_int))))))
theorem sc__law_decimal : FnScope ["units", "scale", "k"] ["units", "scale"] (defScope s__law_decimal) := ⟨rfl, rfl, rfl, by decide +kernel, rfl, by decide +kernel, by decide +kernel⟩
theorem d__law_decimal {P : Program} {w : World} {K : PySem.W.Frag} {mg : Str → Option Value} {base : Heap} {k : Nat} {C : Tab} {f : Addr} {cdv : Value} {A : Around} {outer : List Env} {s : Shared} {H : Hp} {E : XK}
    (g : Gs P w K mg base k C) (hr : Room k (A.deeper (envOfC "_law_decimal" (defScope s__law_decimal) s.heap.objs.size f cdv))) :
    BD (cxOf (L2.CX P w) P w K mg base ["units", "scale", "k"] "_law_decimal" (defScope s__law_decimal) f cdv A outer s H E) (WW.of (K := K) fun c d _ H => E c d H) (defBody s__law_decimal) (b__law_decimal C) := by
  have sc := sc__law_decimal
  have tk : Takes (cxOf (L2.CX P w) P w K mg base ["units", "scale", "k"] "_law_decimal" (defScope s__law_decimal) f cdv A outer s H E) (fun c d _ H => E c d H) := takes_of rfl rfl rfl rfl
  have po := passes_of (X := cxOf (L2.CX P w) P w K mg base ["units", "scale", "k"] "_law_decimal" (defScope s__law_decimal) f cdv A outer s H E) rfl
  have hu := hr.units
  exact (bd_cons (sd_for po rfl (id_range1 rfl g.f_range (ad_cons (ed_var (pv 1)) ad_nil)) (gd_name (pg_name (i := 2) sc.nd rfl (Or.inl rfl))) (bd_one (sd_if (td_cmp (op_eqA hu) rp_eq (ed_bin op_mod rp_mod (ed_callTy call_int1 rp_int rfl g.f_int boot_int (ad_cons (ed_var (pv 0)) ad_nil)) ed_int) ed_int (nomark _)) (bd_cons (sd_set (i := 0) sc.nd rfl (Or.inl rfl) (ed_bin op_fdivW rp_div (ed_var (pv 0)) ed_int))
    (bd_one (sd_set (i := 1) sc.nd rfl (Or.inl rfl) (ed_bin op_sub rp_sub (ed_var (pv 1)) ed_int)))) (bd_one (sd_ret (ed_tup (ad_cons (ed_var (pv 0)) (ad_cons (ed_var (pv 1)) ad_nil))))))))
    (bd_one (sd_ret (ed_tup (ad_cons (ed_var (pv 0)) (ad_cons (ed_var (pv 1)) ad_nil))))))
theorem sc__law_number : FnScope ["rich", "choice", "rest"] ["rich"] (defScope s__law_number) := ⟨rfl, rfl, rfl, by decide +kernel, rfl, by decide +kernel, by decide +kernel⟩
theorem d__law_number {P : Program} {w : World} {K : PySem.W.Frag} {mg : Str → Option Value} {base : Heap} {k : Nat} {C : Tab} {f : Addr} {cdv : Value} {A : Around} {outer : List Env} {s : Shared} {H : Hp} {E : XK}
    (g : Gs P w K mg base k C) (hr : Room k (A.deeper (envOfC "_law_number" (defScope s__law_number) s.heap.objs.size f cdv))) :
    BD (cxOf (L2.CX P w) P w K mg base ["rich", "choice", "rest"] "_law_number" (defScope s__law_number) f cdv A outer s H E) (WW.of (K := K) fun c d _ H => E c d H) (defBody s__law_number) (b__law_number C) := by
  have sc := sc__law_number
  have tk : Takes (cxOf (L2.CX P w) P w K mg base ["rich", "choice", "rest"] "_law_number" (defScope s__law_number) f cdv A outer s H E) (fun c d _ H => E c d H) := takes_of rfl rfl rfl rfl
  have po := passes_of (X := cxOf (L2.CX P w) P w K mg base ["rich", "choice", "rest"] "_law_number" (defScope s__law_number) f cdv A outer s H E) rfl
  have hu := hr.units
  exact (bd_cons (sd_set (i := 1) sc.nd rfl (Or.inl rfl) (ed_bin op_mod rp_mod (ed_var (pv 0)) ed_int))
    (bd_cons (sd_set (i := 2) sc.nd rfl (Or.inl rfl) (ed_bin op_fdivW rp_div (ed_var (pv 0)) ed_int))
    (bd_cons (sd_if (td_cmp (op_eqA hu) rp_eq (ed_var (pv 1)) ed_int (nomark _)) (bd_one (sd_ret (ed_call g.c__law_decimal hr tk rfl (ad_cons (ed_ix ix_seq rp_ix (ed_lst (ad_cons ed_int (ad_cons ed_int (ad_cons (ed_un un_neg rp_neg ed_int) (ad_cons ed_int (ad_cons (ed_un un_neg rp_neg ed_int) (ad_cons ed_int ad_nil))))))) (ed_bin op_mod rp_mod (ed_var (pv 2)) ed_int) (fun _ _ => rfl)) (ad_cons (ed_bin op_mod rp_mod (ed_bin op_fdivW rp_div (ed_var (pv 2)) ed_int) ed_int) ad_nil)) (len_cons (len_cons len_nil))))) bd_nil)
    (bd_cons (sd_if (td_cmp op_ltD rp_lt (ed_var (pv 1)) ed_int (nomark _)) (bd_one (sd_ret (ed_call g.c__law_decimal hr tk rfl (ad_cons (ed_bin op_sub rp_sub (ed_bin op_mod rp_mod (ed_var (pv 2)) ed_int) ed_int) (ad_cons (ed_bin op_mod rp_mod (ed_bin op_fdivW rp_div (ed_var (pv 2)) ed_int) ed_int) ad_nil)) (len_cons (len_cons len_nil))))) bd_nil)
    (bd_one (sd_ret (ed_call g.c__law_decimal hr tk rfl (ad_cons (ed_bin op_sub rp_sub (ed_bin op_mod rp_mod (ed_var (pv 2)) (ed_bin op_mulD rp_mul ed_int (ed_bin op_pow rp_pow ed_int ed_int))) (ed_bin op_pow rp_pow ed_int ed_int)) (ad_cons (ed_bin op_mod rp_mod (ed_bin op_fdivW rp_div (ed_var (pv 2)) (ed_bin op_pow rp_pow ed_int ed_int)) ed_int) ad_nil)) (len_cons (len_cons len_nil)))))))))
theorem sc__law_ten : FnScope ["scale", "result", "k"] ["scale"] (defScope s__law_ten) := ⟨rfl, rfl, rfl, by decide +kernel, rfl, by decide +kernel, by decide +kernel⟩
theorem d__law_ten {P : Program} {w : World} {K : PySem.W.Frag} {mg : Str → Option Value} {base : Heap} {k : Nat} {C : Tab} {f : Addr} {cdv : Value} {A : Around} {outer : List Env} {s : Shared} {H : Hp} {E : XK}
    (g : Gs P w K mg base k C) (hr : Room k (A.deeper (envOfC "_law_ten" (defScope s__law_ten) s.heap.objs.size f cdv))) :
    BD (cxOf (L2.CX P w) P w K mg base ["scale", "result", "k"] "_law_ten" (defScope s__law_ten) f cdv A outer s H E) (WW.of (K := K) fun c d _ H => E c d H) (defBody s__law_ten) (b__law_ten C) := by
  have sc := sc__law_ten
  have tk : Takes (cxOf (L2.CX P w) P w K mg base ["scale", "result", "k"] "_law_ten" (defScope s__law_ten) f cdv A outer s H E) (fun c d _ H => E c d H) := takes_of rfl rfl rfl rfl
  have po := passes_of (X := cxOf (L2.CX P w) P w K mg base ["scale", "result", "k"] "_law_ten" (defScope s__law_ten) f cdv A outer s H E) rfl
  have hu := hr.units
  exact (bd_cons (sd_set (i := 1) sc.nd rfl (Or.inl rfl) ed_int)
    (bd_cons (sd_for po rfl (id_range1 rfl g.f_range (ad_cons (ed_var (pv 0)) ad_nil)) (gd_name (pg_name (i := 2) sc.nd rfl (Or.inl rfl))) (bd_one (sd_set (i := 1) sc.nd rfl (Or.inl rfl) (ed_bin op_mulD rp_mul (ed_var (pv 1)) ed_int))))
    (bd_one (sd_ret (ed_var (pv 1))))))
theorem sc__law_right : FnScope ["actual", "above", "below", "is_rounded", "size", "above_size", "below_size"] ["actual", "above", "below", "is_rounded"] (defScope s__law_right) := ⟨rfl, rfl, rfl, by decide +kernel, rfl, by decide +kernel, by decide +kernel⟩
theorem d__law_right {P : Program} {w : World} {K : PySem.W.Frag} {mg : Str → Option Value} {base : Heap} {k : Nat} {C : Tab} {f : Addr} {cdv : Value} {A : Around} {outer : List Env} {s : Shared} {H : Hp} {E : XK}
    (g : Gs P w K mg base k C) (hr : Room k (A.deeper (envOfC "_law_right" (defScope s__law_right) s.heap.objs.size f cdv))) :
    BD (cxOf (L2.CX P w) P w K mg base ["actual", "above", "below", "is_rounded", "size", "above_size", "below_size"] "_law_right" (defScope s__law_right) f cdv A outer s H E) (WW.of (K := K) fun c d _ H => E c d H) (defBody s__law_right) (b__law_right C) := by
  have sc := sc__law_right
  have tk : Takes (cxOf (L2.CX P w) P w K mg base ["actual", "above", "below", "is_rounded", "size", "above_size", "below_size"] "_law_right" (defScope s__law_right) f cdv A outer s H E) (fun c d _ H => E c d H) := takes_of rfl rfl rfl rfl
  have po := passes_of (X := cxOf (L2.CX P w) P w K mg base ["actual", "above", "below", "is_rounded", "size", "above_size", "below_size"] "_law_right" (defScope s__law_right) f cdv A outer s H E) rfl
  have hu := hr.units
  exact (bd_cons (sd_if (td_w (wd_or (td_not (td_val (ed_callB call_isi rp_isi rfl g.f_isinstance boot_isinstance (ad_cons (ed_var (pv 0)) (ad_cons (ed_ty rfl g.f_int boot_int) ad_nil))))) (wd_or1 (td_val (ed_callB call_isi rp_isi rfl g.f_isinstance boot_isinstance (ad_cons (ed_var (pv 0)) (ad_cons (ed_ty rfl g.f_bool boot_bool) ad_nil))))))) (bd_one (sd_ret ed_bl)) bd_nil)
    (bd_cons (sd_set (i := 4) sc.nd rfl (Or.inl rfl) (ed_callB call_abs rp_abs rfl g.f_abs boot_abs (ad_cons (ed_var (pv 0)) ad_nil)))
    (bd_cons (sd_set (i := 5) sc.nd rfl (Or.inl rfl) (ed_callB call_abs rp_abs rfl g.f_abs boot_abs (ad_cons (ed_var (pv 1)) ad_nil)))
    (bd_cons (sd_set (i := 6) sc.nd rfl (Or.inl rfl) (ed_callB call_abs rp_abs rfl g.f_abs boot_abs (ad_cons (ed_var (pv 2)) ad_nil)))
    (bd_cons (sd_if (td_w (wd_and (td_cmp (op_neA hu) rp_ne (ed_var (pv 4)) ed_int (nomark _)) (wd_and1 (td_cmp (op_neA hu) rp_ne (ed_cmp op_ltD rp_lt (ed_var (pv 0)) ed_int (nomark _)) (ed_cmp (op_neA hu) rp_ne (ed_cmp op_ltD rp_lt (ed_var (pv 1)) ed_int (nomark _)) (ed_cmp op_ltD rp_lt (ed_var (pv 2)) ed_int (nomark _)) (nomark _)) (nomark _))))) (bd_one (sd_ret ed_bl)) bd_nil)
    (bd_cons (sd_if (td_not (td_val (ed_var (pv 3)))) (bd_one (sd_ret (ed_and (ed_cmp op_leD rp_le (ed_bin op_mulD rp_mul (ed_var (pv 4)) (ed_var (pv 6))) (ed_var (pv 5)) (nomark _)) (ed_one (ed_cmp op_ltD rp_lt (ed_var (pv 5)) (ed_bin op_mulD rp_mul (ed_bin op_addD rp_add (ed_var (pv 4)) ed_int) (ed_var (pv 6))) (nomark _)))))) bd_nil)
    (bd_one (sd_ret (ed_and (ed_cmp op_leD rp_le (ed_bin op_mulD rp_mul (ed_bin op_sub rp_sub (ed_bin op_mulD rp_mul ed_int (ed_var (pv 4))) ed_int) (ed_var (pv 6))) (ed_bin op_mulD rp_mul ed_int (ed_var (pv 5))) (nomark _)) (ed_one (ed_cmp op_ltD rp_lt (ed_bin op_mulD rp_mul ed_int (ed_var (pv 5))) (ed_bin op_mulD rp_mul (ed_bin op_addD rp_add (ed_bin op_mulD rp_mul ed_int (ed_var (pv 4))) ed_int) (ed_var (pv 6))) (nomark _))))))))))))
theorem sc__law_divide : FnScope ["a", "b", "scale", "is_rounded", "e"] ["a", "b", "scale", "is_rounded"] (defScope s__law_divide) := ⟨rfl, rfl, rfl, by decide +kernel, rfl, by decide +kernel, by decide +kernel⟩
theorem d__law_divide {P : Program} {w : World} {K : PySem.W.Frag} {mg : Str → Option Value} {base : Heap} {k : Nat} {C : Tab} {f : Addr} {cdv : Value} {A : Around} {outer : List Env} {s : Shared} {H : Hp} {E : XK}
    (g : Gs P w K mg base k C) (hr : Room k (A.deeper (envOfC "_law_divide" (defScope s__law_divide) s.heap.objs.size f cdv))) :
    BD (cxOf (L2.CX P w) P w K mg base ["a", "b", "scale", "is_rounded", "e"] "_law_divide" (defScope s__law_divide) f cdv A outer s H E) (WW.of (K := K) fun c d _ H => E c d H) (defBody s__law_divide) (b__law_divide C) := by
  have sc := sc__law_divide
  have tk : Takes (cxOf (L2.CX P w) P w K mg base ["a", "b", "scale", "is_rounded", "e"] "_law_divide" (defScope s__law_divide) f cdv A outer s H E) (fun c d _ H => E c d H) := takes_of rfl rfl rfl rfl
  have po := passes_of (X := cxOf (L2.CX P w) P w K mg base ["a", "b", "scale", "is_rounded", "e"] "_law_divide" (defScope s__law_divide) f cdv A outer s H E) rfl
  have hu := hr.units
  exact (bd_one (sd_try_as rfl rfl sc.nd (i := 4) rfl rfl rfl ⟨rfl, by decide, Or.inl g.g_CardError.g⟩ g.t_CardError tk (fun w pn xe tk po => (bd_one (sd_ret (ed_call g.c_divide hr tk rfl (ad_cons (ed_var (pv 0)) (ad_cons (ed_var (pv 1)) (ad_cons (ed_var (pv 2)) (ad_cons (ed_var (pv 3)) ad_nil)))) (len_cons (len_cons (len_cons (len_cons len_nil)))))))) (fun a oe e d pn hz hv => (bd_one (sd_ret (ed_tup (ad_cons (ed_str (c := [114, 101, 102, 117, 115, 101, 100]) rfl) (ad_cons (ed_exis hz hv g.is_BadDecimal rfl g.f_isinstance (pv 4) (pe_glob (v := .ref (He.ga K "BadDecimal")) rfl g.g_BadDecimal.g rfl)) ad_nil))))))))
theorem sc_law : FnScope ["script", "k", "rich", "is_rounded", "below", "above", "a", "b", "scale", "actual"] ["script"] (defScope s_law) := ⟨rfl, rfl, rfl, by decide +kernel, rfl, by decide +kernel, by decide +kernel⟩
theorem d_law {P : Program} {w : World} {K : PySem.W.Frag} {mg : Str → Option Value} {base : Heap} {k : Nat} {C : Tab} {f : Addr} {cdv : Value} {A : Around} {outer : List Env} {s : Shared} {H : Hp} {E : XK}
    (g : Gs P w K mg base k C) (hr : Room k (A.deeper (envOfC "law" (defScope s_law) s.heap.objs.size f cdv))) :
    BD (cxOf (L2.CX P w) P w K mg base ["script", "k", "rich", "is_rounded", "below", "above", "a", "b", "scale", "actual"] "law" (defScope s_law) f cdv A outer s H E) (WW.of (K := K) fun c d _ H => E c d H) (defBody s_law) (b_law C) := by
  have sc := sc_law
  have tk : Takes (cxOf (L2.CX P w) P w K mg base ["script", "k", "rich", "is_rounded", "below", "above", "a", "b", "scale", "actual"] "law" (defScope s_law) f cdv A outer s H E) (fun c d _ H => E c d H) := takes_of rfl rfl rfl rfl
  have po := passes_of (X := cxOf (L2.CX P w) P w K mg base ["script", "k", "rich", "is_rounded", "below", "above", "a", "b", "scale", "actual"] "law" (defScope s_law) f cdv A outer s H E) rfl
  have hu := hr.units
  exact (bd_cons (sd_for po rfl (id_range1 rfl g.f_range (ad_cons (ed_callB (call_max2 rfl) rp_max2 rfl g.f_max boot_max (ad_cons ed_int (ad_cons (ed_callB (call_min2 rfl) rp_min2 rfl g.f_min boot_min (ad_cons ed_int (ad_cons (ed_callB call_len rp_len rfl g.f_len boot_len (ad_cons (ed_var (pv 0)) ad_nil)) ad_nil))) ad_nil))) ad_nil)) (gd_name (pg_name (i := 1) sc.nd rfl (Or.inl rfl))) (bd_cons (sd_set (i := 2) sc.nd rfl (Or.inl rfl) (ed_call g.c__law_rich hr tk rfl (ad_cons (ed_call g.c__law_cell hr tk rfl (ad_cons (ed_var (pv 0)) (ad_cons (ed_var (pv 1)) ad_nil)) (len_cons (len_cons len_nil))) (ad_cons (ed_var (pv 1)) ad_nil)) (len_cons (len_cons len_nil))))
    (bd_cons (sd_set (i := 3) sc.nd rfl (Or.inl rfl) (ed_cmp (op_eqA hu) rp_eq (ed_bin op_mod rp_mod (ed_var (pv 2)) ed_int) ed_int (nomark _)))
    (bd_cons (sd_set (i := 4) sc.nd rfl (Or.inl rfl) (ed_bin op_sub rp_sub (ed_bin op_mod rp_mod (ed_bin op_fdivW rp_div (ed_var (pv 2)) ed_int) ed_int) ed_int))
    (bd_cons (sd_if (td_cmp (op_eqA hu) rp_eq (ed_var (pv 4)) ed_int (nomark _)) (bd_one (sd_set (i := 4) sc.nd rfl (Or.inl rfl) ed_int)) bd_nil)
    (bd_cons (sd_set (i := 5) sc.nd rfl (Or.inl rfl) (ed_bin op_sub rp_sub (ed_bin op_mod rp_mod (ed_bin op_fdivW rp_div (ed_var (pv 2)) ed_int) (ed_bin op_pow rp_pow ed_int ed_int)) (ed_bin op_pow rp_pow ed_int ed_int)))
    (bd_cons (sd_if (td_cmp (op_eqA hu) rp_eq (ed_bin op_mod rp_mod (ed_var (pv 2)) ed_int) ed_int (nomark _)) (bd_cons (sd_set (i := 4) sc.nd rfl (Or.inl rfl) (ed_bin op_mulD rp_mul ed_int (ed_var (pv 4))))
    (bd_one (sd_set (i := 5) sc.nd rfl (Or.inl rfl) (ed_bin op_mulD rp_mul (ed_bin op_fdivW rp_div (ed_var (pv 4)) ed_int) (ed_bin op_sub rp_sub (ed_bin op_mod rp_mod (ed_bin op_fdivW rp_div (ed_var (pv 2)) ed_int) ed_int) ed_int))))) bd_nil)
    (bd_cons (sd_if (td_not (td_val (ed_call g.c__law_right hr tk rfl (ad_cons (ed_call g.c_quotient hr tk rfl (ad_cons (ed_var (pv 5)) (ad_cons (ed_var (pv 4)) (ad_cons (ed_var (pv 3)) ad_nil))) (len_cons (len_cons (len_cons len_nil)))) (ad_cons (ed_var (pv 5)) (ad_cons (ed_var (pv 4)) (ad_cons (ed_var (pv 3)) ad_nil)))) (len_cons (len_cons (len_cons (len_cons len_nil))))))) (bd_one (sd_ret ed_bl)) bd_nil)
    (bd_cons (sd_set (i := 6) sc.nd rfl (Or.inl rfl) (ed_call g.c__law_number hr tk rfl (ad_cons (ed_bin op_fdivW rp_div (ed_var (pv 2)) ed_int) ad_nil) (len_cons len_nil)))
    (bd_cons (sd_set (i := 7) sc.nd rfl (Or.inl rfl) (ed_call g.c__law_number hr tk rfl (ad_cons (ed_bin op_addD rp_add (ed_bin op_fdivW rp_div (ed_var (pv 2)) ed_int) (ed_bin op_mulD rp_mul ed_int (ed_var (pv 1)))) ad_nil) (len_cons len_nil)))
    (bd_cons (sd_set (i := 8) sc.nd rfl (Or.inl rfl) (ed_bin op_mod rp_mod (ed_bin op_fdivW rp_div (ed_var (pv 2)) ed_int) ed_int))
    (bd_cons (sd_if (td_not (td_val (ed_call g.c__law_right hr tk rfl (ad_cons (ed_call g.c_units_at hr tk rfl (ad_cons (ed_var (pv 6)) (ad_cons (ed_var (pv 8)) (ad_cons (ed_var (pv 3)) ad_nil))) (len_cons (len_cons (len_cons len_nil)))) (ad_cons (ed_bin op_mulD rp_mul (ed_ix ix_seq rp_ix (ed_var (pv 6)) ed_int (fun _ _ => rfl)) (ed_call g.c__law_ten hr tk rfl (ad_cons (ed_var (pv 8)) ad_nil) (len_cons len_nil))) (ad_cons (ed_call g.c__law_ten hr tk rfl (ad_cons (ed_ix ix_seq rp_ix (ed_var (pv 6)) ed_int (fun _ _ => rfl)) ad_nil) (len_cons len_nil)) (ad_cons (ed_var (pv 3)) ad_nil)))) (len_cons (len_cons (len_cons (len_cons len_nil))))))) (bd_one (sd_ret ed_bl)) bd_nil)
    (bd_cons (sd_set (i := 9) sc.nd rfl (Or.inl rfl) (ed_call g.c__law_divide hr tk rfl (ad_cons (ed_var (pv 6)) (ad_cons (ed_var (pv 7)) (ad_cons (ed_var (pv 8)) (ad_cons (ed_var (pv 3)) ad_nil)))) (len_cons (len_cons (len_cons (len_cons len_nil))))))
    (bd_one (sd_if (td_cmp (op_eqA hu) rp_eq (ed_ix ix_seq rp_ix (ed_var (pv 7)) ed_int (fun _ _ => rfl)) ed_int (nomark _)) (bd_one (sd_if (td_cmp (op_neA hu) rp_ne (ed_var (pv 9)) (ed_tup (ad_cons (ed_str (c := [114, 101, 102, 117, 115, 101, 100]) rfl) (ad_cons ed_bl ad_nil))) (nomark _)) (bd_one (sd_ret ed_bl)) bd_nil)) (bd_one (sd_if (td_not (td_val (ed_call g.c__law_right hr tk rfl (ad_cons (ed_var (pv 9)) (ad_cons (ed_bin op_mulD rp_mul (ed_ix ix_seq rp_ix (ed_var (pv 6)) ed_int (fun _ _ => rfl)) (ed_call g.c__law_ten hr tk rfl (ad_cons (ed_bin op_addD rp_add (ed_ix ix_seq rp_ix (ed_var (pv 7)) ed_int (fun _ _ => rfl)) (ed_var (pv 8))) ad_nil) (len_cons len_nil))) (ad_cons (ed_bin op_mulD rp_mul (ed_ix ix_seq rp_ix (ed_var (pv 7)) ed_int (fun _ _ => rfl)) (ed_call g.c__law_ten hr tk rfl (ad_cons (ed_ix ix_seq rp_ix (ed_var (pv 6)) ed_int (fun _ _ => rfl)) ad_nil) (len_cons len_nil))) (ad_cons (ed_var (pv 3)) ad_nil)))) (len_cons (len_cons (len_cons (len_cons len_nil))))))) (bd_one (sd_ret ed_bl)) bd_nil)))))))))))))))))
    (bd_one (sd_ret ed_bl)))
/-- what the written part holds -/
structure Fx (K : PySem.W.Frag) (mg : Str → Option Value) : Prop where
  d_power : FD K mg "power" (defArgs s_power) (defBody s_power) (defScope s_power) ["exponent"]
  d_aligned : FD K mg "aligned" (defArgs s_aligned) (defBody s_aligned) (defScope s_aligned) ["number", "scale"]
  d_quotient : FD K mg "quotient" (defArgs s_quotient) (defBody s_quotient) (defScope s_quotient) ["above", "below", "is_rounded"]
  d_units_at : FD K mg "units_at" (defArgs s_units_at) (defBody s_units_at) (defScope s_units_at) ["a", "scale", "is_rounded"]
  d_divide : FD K mg "divide" (defArgs s_divide) (defBody s_divide) (defScope s_divide) ["a", "b", "scale", "is_rounded"]
  d__law_cell : FD K mg "_law_cell" (defArgs s__law_cell) (defBody s__law_cell) (defScope s__law_cell) ["script", "k"]
  d__law_rich : FD K mg "_law_rich" (defArgs s__law_rich) (defBody s__law_rich) (defScope s__law_rich) ["cell", "k"]
  d__law_decimal : FD K mg "_law_decimal" (defArgs s__law_decimal) (defBody s__law_decimal) (defScope s__law_decimal) ["units", "scale"]
  d__law_number : FD K mg "_law_number" (defArgs s__law_number) (defBody s__law_number) (defScope s__law_number) ["rich"]
  d__law_ten : FD K mg "_law_ten" (defArgs s__law_ten) (defBody s__law_ten) (defScope s__law_ten) ["scale"]
  d__law_right : FD K mg "_law_right" (defArgs s__law_right) (defBody s__law_right) (defScope s__law_right) ["actual", "above", "below", "is_rounded"]
  d__law_divide : FD K mg "_law_divide" (defArgs s__law_divide) (defBody s__law_divide) (defScope s__law_divide) ["a", "b", "scale", "is_rounded"]
  d_law : FD K mg "law" (defArgs s_law) (defBody s_law) (defScope s_law) ["script"]
  f_abs : mg "abs" = none
  f_bool : mg "bool" = none
  f_int : mg "int" = none
  f_isinstance : mg "isinstance" = none
  f_len : mg "len" = none
  f_max : mg "max" = none
  f_min : mg "min" = none
  f_range : mg "range" = none
  g_BadDecimal : ExK K mg "BadDecimal"
  g_CardError : ExK K mg "CardError"
  t_CardError : TblOk K (.ref (He.ga K "CardError")) [("CardError", true), ("BadDecimal", true)]
  is_BadDecimal : IsOk K "BadDecimal" [("CardError", false), ("BadDecimal", true)]
theorem gs_all {P : Program} {w : World} {K : PySem.W.Frag} {mg : Str → Option Value} {base : Heap} (x : Fx K mg) : ∀ k, Gs P w K mg base k (T k)
  | 0 => ⟨callF_zero x.d_power, callF_zero x.d_aligned, callF_zero x.d_quotient, callF_zero x.d_units_at, callF_zero x.d_divide, callF_zero x.d__law_cell, callF_zero x.d__law_rich, callF_zero x.d__law_decimal, callF_zero x.d__law_number, callF_zero x.d__law_ten, callF_zero x.d__law_right, callF_zero x.d__law_divide, callF_zero x.d_law, x.f_abs, x.f_bool, x.f_int, x.f_isinstance, x.f_len, x.f_max, x.f_min, x.f_range, x.g_BadDecimal, x.g_CardError, x.t_CardError, x.is_BadDecimal⟩
  | k + 1 => by
    have g := gs_all (P := P) (w := w) (base := base) x k
    exact ⟨callF_succ x.d_power sc_power rfl fun f cdv A outer s H E hr => d_power g hr,
      callF_succ x.d_aligned sc_aligned rfl fun f cdv A outer s H E hr => d_aligned g hr,
      callF_succ x.d_quotient sc_quotient rfl fun f cdv A outer s H E hr => d_quotient g hr,
      callF_succ x.d_units_at sc_units_at rfl fun f cdv A outer s H E hr => d_units_at g hr,
      callF_succ x.d_divide sc_divide rfl fun f cdv A outer s H E hr => d_divide g hr,
      callF_succ x.d__law_cell sc__law_cell rfl fun f cdv A outer s H E hr => d__law_cell g hr,
      callF_succ x.d__law_rich sc__law_rich rfl fun f cdv A outer s H E hr => d__law_rich g hr,
      callF_succ x.d__law_decimal sc__law_decimal rfl fun f cdv A outer s H E hr => d__law_decimal g hr,
      callF_succ x.d__law_number sc__law_number rfl fun f cdv A outer s H E hr => d__law_number g hr,
      callF_succ x.d__law_ten sc__law_ten rfl fun f cdv A outer s H E hr => d__law_ten g hr,
      callF_succ x.d__law_right sc__law_right rfl fun f cdv A outer s H E hr => d__law_right g hr,
      callF_succ x.d__law_divide sc__law_divide rfl fun f cdv A outer s H E hr => d__law_divide g hr,
      callF_succ x.d_law sc_law rfl fun f cdv A outer s H E hr => d_law g hr,
      x.f_abs, x.f_bool, x.f_int, x.f_isinstance, x.f_len, x.f_max, x.f_min, x.f_range, x.g_BadDecimal, x.g_CardError, x.t_CardError, x.is_BadDecimal⟩
def e_power : He.DefD := ⟨("power", none), "power", "power", defArgs s_power, defBody s_power, defScope s_power, [], []⟩
def e_aligned : He.DefD := ⟨("aligned", none), "aligned", "aligned", defArgs s_aligned, defBody s_aligned, defScope s_aligned, [], []⟩
def e_quotient : He.DefD := ⟨("quotient", none), "quotient", "quotient", defArgs s_quotient, defBody s_quotient, defScope s_quotient, [], []⟩
def e_units_at : He.DefD := ⟨("units_at", none), "units_at", "units_at", defArgs s_units_at, defBody s_units_at, defScope s_units_at, [], []⟩
def e_divide : He.DefD := ⟨("divide", none), "divide", "divide", defArgs s_divide, defBody s_divide, defScope s_divide, [], []⟩
def e__law_cell : He.DefD := ⟨("_law_cell", none), "_law_cell", "_law_cell", defArgs s__law_cell, defBody s__law_cell, defScope s__law_cell, [], []⟩
def e__law_rich : He.DefD := ⟨("_law_rich", none), "_law_rich", "_law_rich", defArgs s__law_rich, defBody s__law_rich, defScope s__law_rich, [], []⟩
def e__law_decimal : He.DefD := ⟨("_law_decimal", none), "_law_decimal", "_law_decimal", defArgs s__law_decimal, defBody s__law_decimal, defScope s__law_decimal, [], []⟩
def e__law_number : He.DefD := ⟨("_law_number", none), "_law_number", "_law_number", defArgs s__law_number, defBody s__law_number, defScope s__law_number, [], []⟩
def e__law_ten : He.DefD := ⟨("_law_ten", none), "_law_ten", "_law_ten", defArgs s__law_ten, defBody s__law_ten, defScope s__law_ten, [], []⟩
def e__law_right : He.DefD := ⟨("_law_right", none), "_law_right", "_law_right", defArgs s__law_right, defBody s__law_right, defScope s__law_right, [], []⟩
def e__law_divide : He.DefD := ⟨("_law_divide", none), "_law_divide", "_law_divide", defArgs s__law_divide, defBody s__law_divide, defScope s__law_divide, [], []⟩
def e_law : He.DefD := ⟨("law", none), "law", "law", defArgs s_law, defBody s_law, defScope s_law, [], []⟩
def fn : List He.DefD := [e_power, e_aligned, e_quotient, e_units_at, e_divide, e__law_cell, e__law_rich, e__law_decimal, e__law_number, e__law_ten, e__law_right, e__law_divide, e_law]
def ex (K : PySem.W.Frag) : Bool := excCB K "CardError" && (excCB K "BadDecimal" && (kitCB K "CardError" "BadDecimal" false && (kitCB K "BadDecimal" "BadDecimal" true && (true))))
def fa : List He.Fa := [.glo "power", .glo "aligned", .glo "quotient", .glo "units_at", .glo "divide", .glo "_law_cell", .glo "_law_rich", .glo "_law_decimal", .glo "_law_number", .glo "_law_ten", .glo "_law_right", .glo "_law_divide", .glo "law", .free "abs", .free "bool", .free "int", .free "isinstance", .free "len", .free "max", .free "min", .free "range", .glo "BadDecimal", .glo "CardError", .exc "BadDecimal", .exc "CardError", .exm "CardError" "CardError" true, .exm "BadDecimal" "CardError" true]
abbrev R : PySem.W.OpenRow := PySem.W.OpenLaw.row PySem.Challenge.rw_cardwright_k03_cutting_and_rounding
abbrev hk : PySem.W.Hook := PD.hookB 4 fa fn ex
def ob (s : PySem.W.SharedT) : He.AlD × Bool := PD.obsB 4 fa fn ex (HandSHeadRun.getT s)
theorem ob_eq (s : PySem.W.SharedT) : ob s = hk.obs s.abs := PD.obsB_eq (HandSHeadRun.getT_eq s)
def loose : List Str := ["CardError", "BadDecimal", "power", "aligned", "quotient", "units_at", "divide", "_law_cell", "_law_rich", "_law_decimal", "_law_number", "_law_ten", "_law_right", "_law_divide"]
theorem run (w : World) : HandSHeadRun.RunEq R (PySem.W.view R.prog [17]) hk ob 1680 loose w := by
  intro os
  kernel_rfl
theorem facts {K : PySem.W.Frag} {h : Heap} {mg : Str → Option Value} (X : K.In h) (G : h.Ns mainGlobals mg) (c : He.SaysD fa fn K) (c2 : ex K = true) : Fx K mg := by
  obtain ⟨q0, c2⟩ := He.ba c2
  obtain ⟨q1, c2⟩ := He.ba c2
  obtain ⟨q2, c2⟩ := He.ba c2
  obtain ⟨q3, c2⟩ := He.ba c2
  refine ⟨?_, ?_, ?_, ?_, ?_, ?_, ?_, ?_, ?_, ?_, ?_, ?_, ?_, ?_, ?_, ?_, ?_, ?_, ?_, ?_, ?_, ?_, ?_, ?_, ?_⟩
  · obtain ⟨fd, F⟩ := c.def_ 0 (d := e_power) rfl
    exact ⟨_, fd, F, He.glo_ok X G (c.fact 0 rfl), FunD.bindsN F fun _ _ _ _ _ _ us hl => match us, hl with | [_], _ => rfl⟩
  · obtain ⟨fd, F⟩ := c.def_ 1 (d := e_aligned) rfl
    exact ⟨_, fd, F, He.glo_ok X G (c.fact 1 rfl), FunD.bindsN F fun _ _ _ _ _ _ us hl => match us, hl with | [_, _], _ => rfl⟩
  · obtain ⟨fd, F⟩ := c.def_ 2 (d := e_quotient) rfl
    exact ⟨_, fd, F, He.glo_ok X G (c.fact 2 rfl), FunD.bindsN F fun _ _ _ _ _ _ us hl => match us, hl with | [_, _, _], _ => rfl⟩
  · obtain ⟨fd, F⟩ := c.def_ 3 (d := e_units_at) rfl
    exact ⟨_, fd, F, He.glo_ok X G (c.fact 3 rfl), FunD.bindsN F fun _ _ _ _ _ _ us hl => match us, hl with | [_, _, _], _ => rfl⟩
  · obtain ⟨fd, F⟩ := c.def_ 4 (d := e_divide) rfl
    exact ⟨_, fd, F, He.glo_ok X G (c.fact 4 rfl), FunD.bindsN F fun _ _ _ _ _ _ us hl => match us, hl with | [_, _, _, _], _ => rfl⟩
  · obtain ⟨fd, F⟩ := c.def_ 5 (d := e__law_cell) rfl
    exact ⟨_, fd, F, He.glo_ok X G (c.fact 5 rfl), FunD.bindsN F fun _ _ _ _ _ _ us hl => match us, hl with | [_, _], _ => rfl⟩
  · obtain ⟨fd, F⟩ := c.def_ 6 (d := e__law_rich) rfl
    exact ⟨_, fd, F, He.glo_ok X G (c.fact 6 rfl), FunD.bindsN F fun _ _ _ _ _ _ us hl => match us, hl with | [_, _], _ => rfl⟩
  · obtain ⟨fd, F⟩ := c.def_ 7 (d := e__law_decimal) rfl
    exact ⟨_, fd, F, He.glo_ok X G (c.fact 7 rfl), FunD.bindsN F fun _ _ _ _ _ _ us hl => match us, hl with | [_, _], _ => rfl⟩
  · obtain ⟨fd, F⟩ := c.def_ 8 (d := e__law_number) rfl
    exact ⟨_, fd, F, He.glo_ok X G (c.fact 8 rfl), FunD.bindsN F fun _ _ _ _ _ _ us hl => match us, hl with | [_], _ => rfl⟩
  · obtain ⟨fd, F⟩ := c.def_ 9 (d := e__law_ten) rfl
    exact ⟨_, fd, F, He.glo_ok X G (c.fact 9 rfl), FunD.bindsN F fun _ _ _ _ _ _ us hl => match us, hl with | [_], _ => rfl⟩
  · obtain ⟨fd, F⟩ := c.def_ 10 (d := e__law_right) rfl
    exact ⟨_, fd, F, He.glo_ok X G (c.fact 10 rfl), FunD.bindsN F fun _ _ _ _ _ _ us hl => match us, hl with | [_, _, _, _], _ => rfl⟩
  · obtain ⟨fd, F⟩ := c.def_ 11 (d := e__law_divide) rfl
    exact ⟨_, fd, F, He.glo_ok X G (c.fact 11 rfl), FunD.bindsN F fun _ _ _ _ _ _ us hl => match us, hl with | [_, _, _, _], _ => rfl⟩
  · obtain ⟨fd, F⟩ := c.def_ 12 (d := e_law) rfl
    exact ⟨_, fd, F, He.glo_ok X G (c.fact 12 rfl), FunD.bindsN F fun _ _ _ _ _ _ us hl => match us, hl with | [_], _ => rfl⟩
  · exact He.free_ok X G (c.fact 13 rfl)
  · exact He.free_ok X G (c.fact 14 rfl)
  · exact He.free_ok X G (c.fact 15 rfl)
  · exact He.free_ok X G (c.fact 16 rfl)
  · exact He.free_ok X G (c.fact 17 rfl)
  · exact He.free_ok X G (c.fact 18 rfl)
  · exact He.free_ok X G (c.fact 19 rfl)
  · exact He.free_ok X G (c.fact 20 rfl)
  · have h := He.exc_ok (c.fact 23 rfl)
    exact ⟨He.glo_ok X G (c.fact 21 rfl), h.1, h.2.1, h.2.2.1, h.2.2.2⟩
  · have h := He.exc_ok (c.fact 24 rfl)
    exact ⟨He.glo_ok X G (c.fact 22 rfl), h.1, h.2.1, h.2.2.1, h.2.2.2⟩
  · intro p hp
    simp only [List.mem_cons, List.not_mem_nil, or_false] at hp
    rcases hp with rfl | rfl
    · exact He.exm_ok (c.fact 25 rfl)
    · exact He.exm_ok (c.fact 26 rfl)
  · refine ⟨fun p hp => ?_⟩
    simp only [List.mem_cons, List.not_mem_nil, or_false] at hp
    rcases hp with rfl | rfl
    · exact ⟨excCB_ok q0, kitCB_ok q2⟩
    · exact ⟨excCB_ok q1, kitCB_ok q3⟩
local macro_rules | `(tactic| walk_at "ev") => `(tactic| simp only [a_run, a_turn, a_seq, a_skip, a_break, a_cont, a_if, a_ret, a_retN, a_drop, a_set, a_asg, a_aug, a_for, a_var, a_c, a_bin, a_un, a_b, a_nil, a_cons, a_tup, a_lst, a_loc, a_call, a_and, a_or, a_not, a_andV, a_orV, a_notV, a_ifE, a_asB, a_sl, a_nopart, a_part, a_gN, a_gT, a_gsNil, a_gsCons, noex_ok, a_range1, a_range2, a_iseq, a_int1, a_int2, g_add, g_addA, g_addAS, g_addS, g_addT, g_addL, g_sub, g_mul, g_div, g_mod, g_pow, g_lt, g_gt, g_le, g_ge, g_ltS, g_gtS, g_leS, g_geS, g_eq, g_ne, g_eqS, g_neS, g_eqB, g_neB, g_neg, g_abs, g_max, g_min, g_int, g_intB, g_ixT, g_ixL, g_ixF, g_lenT, g_lenL, g_lenF, g_lenS, at_nat, at_0, at_1, at_2, at_3, at_4, bind_ok, toS_ok, bind_ex, toS_ex, decide_eq_true_eq, Bool.not_eq_true, decide_eq_false_iff_not, List.map, List.length, List.length_map, List.replicate, List.cons_append, List.nil_append, List.append_nil, List.set, List.getElem?_cons_succ, List.getElem?_cons_zero, Nat.sub_self, Nat.reduceSub, Nat.reduceAdd, Int.toNat_natCast, if_true, if_false, ite_true, ite_false, reduceIte, Bool.false_eq_true, Bool.true_eq_false, Bool.not_true, Bool.not_false, decide_true, decide_false, isi_non_int, isi_non_bool, isi_non_str, isi_non_tuple, isi_non_list, isi_non_dict, isi_bl_int, isi_bl_bool, isi_bl_str, isi_bl_tuple, isi_bl_list, isi_bl_dict, isi_int_int, isi_int_bool, isi_int_str, isi_int_tuple, isi_int_list, isi_int_dict, isi_str_int, isi_str_bool, isi_str_str, isi_str_tuple, isi_str_list, isi_str_dict, isi_tup_int, isi_tup_bool, isi_tup_str, isi_tup_tuple, isi_tup_list, isi_tup_dict, isi_lst_int, isi_lst_bool, isi_lst_str, isi_lst_tuple, isi_lst_list, isi_lst_dict, isi_fz_int, isi_fz_bool, isi_fz_str, isi_fz_tuple, isi_fz_list, isi_fz_dict, so0, so1, so2, so3, so4, so5, so6, so7, so8, so9, so10, do10, mo10])
local macro_rules | `(tactic| walk_at "ev*") => `(tactic| simp only [a_run, a_turn, a_seq, a_skip, a_break, a_cont, a_if, a_ret, a_retN, a_drop, a_set, a_asg, a_aug, a_for, a_var, a_c, a_bin, a_un, a_b, a_nil, a_cons, a_tup, a_lst, a_loc, a_call, a_and, a_or, a_not, a_andV, a_orV, a_notV, a_ifE, a_asB, a_sl, a_nopart, a_part, a_gN, a_gT, a_gsNil, a_gsCons, noex_ok, a_range1, a_range2, a_iseq, a_int1, a_int2, g_add, g_addA, g_addAS, g_addS, g_addT, g_addL, g_sub, g_mul, g_div, g_mod, g_pow, g_lt, g_gt, g_le, g_ge, g_ltS, g_gtS, g_leS, g_geS, g_eq, g_ne, g_eqS, g_neS, g_eqB, g_neB, g_neg, g_abs, g_max, g_min, g_int, g_intB, g_ixT, g_ixL, g_ixF, g_lenT, g_lenL, g_lenF, g_lenS, at_nat, at_0, at_1, at_2, at_3, at_4, bind_ok, toS_ok, bind_ex, toS_ex, decide_eq_true_eq, Bool.not_eq_true, decide_eq_false_iff_not, List.map, List.length, List.length_map, List.replicate, List.cons_append, List.nil_append, List.append_nil, List.set, List.getElem?_cons_succ, List.getElem?_cons_zero, Nat.sub_self, Nat.reduceSub, Nat.reduceAdd, Int.toNat_natCast, if_true, if_false, ite_true, ite_false, reduceIte, Bool.false_eq_true, Bool.true_eq_false, Bool.not_true, Bool.not_false, decide_true, decide_false, isi_non_int, isi_non_bool, isi_non_str, isi_non_tuple, isi_non_list, isi_non_dict, isi_bl_int, isi_bl_bool, isi_bl_str, isi_bl_tuple, isi_bl_list, isi_bl_dict, isi_int_int, isi_int_bool, isi_int_str, isi_int_tuple, isi_int_list, isi_int_dict, isi_str_int, isi_str_bool, isi_str_str, isi_str_tuple, isi_str_list, isi_str_dict, isi_tup_int, isi_tup_bool, isi_tup_str, isi_tup_tuple, isi_tup_list, isi_tup_dict, isi_lst_int, isi_lst_bool, isi_lst_str, isi_lst_tuple, isi_lst_list, isi_lst_dict, isi_fz_int, isi_fz_bool, isi_fz_str, isi_fz_tuple, isi_fz_list, isi_fz_dict, so0, so1, so2, so3, so4, so5, so6, so7, so8, so9, so10, do10, mo10, *])
/-! numbers: bounds by figures, the least scale -/
def Bn (n : Nat) (i : Int) : Prop := i.natAbs < 10 ^ n
theorem bn_mono {n m : Nat} {i : Int} (h : Bn n i) (hm : n ≤ m) : Bn m i := Nat.lt_of_lt_of_le h (Nat.pow_le_pow_right (by decide) hm)
theorem bn_pow (n : Nat) : Bn (n + 1) ((10 : Int) ^ n) := by
  unfold Bn
  rw [Int.natAbs_pow, show Int.natAbs 10 = 10 from rfl]
  exact Nat.pow_lt_pow_right (by decide) (Nat.lt_succ_self n)
theorem bn_mul {n m : Nat} {i j : Int} (h : Bn n i) (g : Bn m j) : Bn (n + m) (i * j) := by
  unfold Bn at *
  rw [Int.natAbs_mul, Nat.pow_add]
  exact Nat.mul_lt_mul'' h g
theorem bn_add {n : Nat} {i j : Int} (h : Bn n i) (g : Bn n j) : Bn (n + 1) (i + j) := by
  unfold Bn at *
  have := Int.natAbs_add_le i j
  rw [Nat.pow_succ]
  omega
theorem bn_neg {n : Nat} {i : Int} (h : Bn n i) : Bn n (-i) := by
  unfold Bn at *
  rw [Int.natAbs_neg]; exact h
theorem bn_sub {n : Nat} {i j : Int} (h : Bn n i) (g : Bn n j) : Bn (n + 1) (i - j) := by
  rw [Int.sub_eq_add_neg]; exact bn_add h (bn_neg g)
theorem bn_of {n : Nat} {i : Int} {z : Nat} (hz : z = 10 ^ n) (h1 : -(z : Int) < i) (h2 : i < (z : Int)) : Bn n i := by
  unfold Bn
  rw [← hz]
  omega
theorem pow_bits (n : Nat) : (10 : Nat) ^ n ≤ 2 ^ (4 * n) := by
  rw [Nat.pow_mul]
  exact Nat.pow_le_pow_left (by decide) n
theorem mulOk_bn {n m : Nat} {i j : Int} (h : Bn n i) (g : Bn m j) (hl : n + m ≤ 100000) : mulOk i j := by
  refine mulOk_wide (a := 4 * n + 1) (b := 4 * m + 1) ?_ ?_ (by omega) (by omega) (by omega)
  · exact Nat.lt_of_lt_of_le h (Nat.le_trans (pow_bits n) (Nat.pow_le_pow_right (by decide) (by omega)))
  · exact Nat.lt_of_lt_of_le g (Nat.le_trans (pow_bits m) (Nat.pow_le_pow_right (by decide) (by omega)))
theorem pow10_pos (n : Nat) : (0 : Int) < 10 ^ n := Int.pow_pos (by decide)
theorem small62_nat {n : Nat} (h : n ≤ 1000000) : small62 n := ⟨by omega, by omega⟩
/-- a decimal as data -/
def dec (p : Int × Nat) : D := .tup [.int p.1, .int p.2]
/-- the least scale -/
def nrm : Nat → Int → Int × Nat
  | 0, u => (u, 0)
  | s + 1, u => if u / 10 * 10 = u then nrm s (u / 10) else (u, s + 1)
/-- least -/
def Lst (p : Int × Nat) : Prop := p.2 = 0 ∨ p.1 % 10 ≠ 0
theorem nrm_spec : ∀ (s : Nat) (u : Int), (nrm s u).2 ≤ s ∧ (nrm s u).1 * 10 ^ (s - (nrm s u).2) = u ∧ Lst (nrm s u)
  | 0, u => ⟨Nat.le_refl _, by simp [nrm], .inl rfl⟩
  | s + 1, u => by
    unfold nrm
    by_cases h : u / 10 * 10 = u
    · rw [if_pos h]
      obtain ⟨h1, h2, h3⟩ := nrm_spec s (u / 10)
      refine ⟨by omega, ?_, h3⟩
      rw [show s + 1 - (nrm s (u / 10)).2 = s - (nrm s (u / 10)).2 + 1 by omega, Int.pow_succ, ← Int.mul_assoc, h2, h]
    · rw [if_neg h]
      exact ⟨Nat.le_refl _, by simp, .inr fun e => h (by show u / 10 * 10 = u; have e : u % 10 = 0 := e; omega)⟩
theorem nrm_val (s : Nat) (u : Int) : (nrm s u).1 * 10 ^ s = u * 10 ^ (nrm s u).2 := by
  obtain ⟨h1, h2, h3⟩ := nrm_spec s u
  calc (nrm s u).1 * 10 ^ s = (nrm s u).1 * (10 ^ (s - (nrm s u).2) * 10 ^ (nrm s u).2) := by rw [← Int.pow_add, show s - (nrm s u).2 + (nrm s u).2 = s by omega]
    _ = u * 10 ^ (nrm s u).2 := by rw [← Int.mul_assoc, h2]
theorem nrm_bn {n s : Nat} {u : Int} (h : Bn n u) : Bn n (nrm s u).1 := by
  obtain ⟨h1, h2, h3⟩ := nrm_spec s u
  unfold Bn at *
  refine Nat.lt_of_le_of_lt ?_ h
  have e : u.natAbs = (nrm s u).1.natAbs * 10 ^ (s - (nrm s u).2) := by
    rw [← h2, Int.natAbs_mul, Int.natAbs_pow, h2]; rfl
  rw [e]
  exact Nat.le_mul_of_pos_right _ (Nat.pow_pos (by decide))
/-- a least decimal is told by its value -/
theorem lst_eq {p : Int × Nat} (h : Lst p) : ∀ (m : Nat), nrm (p.2 + m) (p.1 * 10 ^ m) = p
  | 0 => by
    obtain ⟨u, s⟩ := p
    simp only [Nat.add_zero, Int.pow_zero, Int.mul_one]
    cases s with
    | zero => rfl
    | succ s =>
      unfold nrm
      rw [if_neg]
      rcases h with h | h
      · cases h
      · intro e
        apply h
        show u % 10 = 0
        omega
  | m + 1 => by
    show nrm ((p.2 + m) + 1) _ = p
    unfold nrm
    have e : p.1 * 10 ^ (m + 1) / 10 = p.1 * 10 ^ m := by
      rw [Int.pow_succ, ← Int.mul_assoc]
      exact Int.mul_ediv_cancel _ (by decide)
    rw [if_pos (by rw [e, Int.pow_succ, Int.mul_assoc]), e]
    exact lst_eq h m
/-- from one value to the other -/
theorem nrm_eq_of {s t : Nat} {u v : Int} (h : u * 10 ^ t = v * 10 ^ s) : nrm s u = nrm t v := by
  obtain ⟨a1, a2, a3⟩ := nrm_spec s u
  have key : ∀ (s t : Nat) (u v : Int), s ≤ t → u * 10 ^ t = v * 10 ^ s → nrm s u = nrm t v := by
    intro s t u v hst h
    obtain ⟨a1, a2, a3⟩ := nrm_spec s u
    have e : v = u * 10 ^ (t - s) := by
      have h2 : u * 10 ^ (t - s) * 10 ^ s = v * 10 ^ s := by
        rw [Int.mul_assoc, ← Int.pow_add, show t - s + s = t by omega, h]
      exact (Int.eq_of_mul_eq_mul_right (Int.ne_of_gt (pow10_pos s)) h2).symm
    have e2 : v = (nrm s u).1 * 10 ^ (t - (nrm s u).2) := by
      calc v = u * 10 ^ (t - s) := e
        _ = (nrm s u).1 * 10 ^ (s - (nrm s u).2) * 10 ^ (t - s) := by rw [a2]
        _ = (nrm s u).1 * 10 ^ (t - (nrm s u).2) := by rw [Int.mul_assoc, ← Int.pow_add, show s - (nrm s u).2 + (t - s) = t - (nrm s u).2 by omega]
    have e3 := lst_eq a3 (t - (nrm s u).2)
    rw [← e2, show (nrm s u).2 + (t - (nrm s u).2) = t by omega] at e3
    exact e3.symm
  by_cases hst : s ≤ t
  · exact key s t u v hst h
  · exact (key t s v u (by omega) h.symm).symm
theorem t_power {k : Nat} (hk : 1 ≤ k) (n : Nat) (hn : n ≤ 1000000) (S : Sto) : (T k).power [.int n] S = .ok (.int (10 ^ n)) S := by
  obtain ⟨k, rfl⟩ := Nat.exists_eq_add_of_le' hk
  have lp : ∀ (a : Option D) (l : List D) (r : Int) (z : Option D), ∃ z', forD none (gN 2) (l_power_1 (T k)) l [a, some (.int r), z] S = .nx [a, some (.int (r * 10 ^ l.length)), z'] S := by
    intro a l
    induction l with
    | nil => exact fun r z => ⟨z, by rw [forD_nil]; simp⟩
    | cons x l ih =>
      intro r z
      have h : turn (gN 2) (l_power_1 (T k)) x [a, some (D.int r), z] S = SO.nx [a, some (.int (r * 10)), some x] S := by
        unfold l_power_1; walk_at "ev"
      obtain ⟨z', h2⟩ := ih (r * 10) (some x)
      refine ⟨z', ?_⟩
      rw [forD_cons, h]
      simp only
      rw [h2, List.length_cons, Int.pow_succ, Int.mul_assoc, Int.mul_comm 10]
  rw [T_power]
  obtain ⟨z', h⟩ := lp (some (.int n)) (rngD 0 n) 1 none
  rw [rng_len, Int.one_mul] at h
  have hs := small62_nat hn
  generalize (10 : Int) ^ n = r at h ⊢
  unfold b_power
  walk_at "ev*"
theorem t_aligned {k : Nat} (hk : 2 ≤ k) (u : Int) (t s n : Nat) (hu : Bn n u) (hn : n ≤ 10000) (ht : t ≤ s) (hs : s ≤ 10000) (S : Sto) : (T k).aligned [dec (u, t), .int s] S = .ok (.int (u * 10 ^ (s - t))) S := by
  obtain ⟨k, rfl⟩ := Nat.exists_eq_add_of_le' hk
  have p := t_power (k := k + 1) (by omega) (s - t) (by omega) S
  have e : ((s : Int) - (t : Int)) = ((s - t : Nat) : Int) := by omega
  have m := mulOk_bn hu (bn_pow (s - t)) (by omega)
  rw [show k + 2 = (k + 1) + 1 from rfl, T_aligned]
  unfold b_aligned dec
  generalize (10 : Int) ^ (s - t) = r at p m ⊢
  walk_at "ev"
  rw [e, p]
  walk_at "ev*"
/-! the law's own cells and decimals -/
theorem t_cell {k : Nat} (hk : 1 ≤ k) (ns : List Int) (i : Nat) (S : Sto) : (T k)._law_cell [.fz (ns.map D.int), .int i] S = .ok (.int (ns.getD i 0)) S := by
  obtain ⟨k, rfl⟩ := Nat.exists_eq_add_of_le' hk
  rw [T__law_cell]
  unfold b__law_cell
  by_cases h : i < ns.length
  · have h1 : (i : Int) < (ns.length : Int) := by omega
    have h2 : (ns.map D.int)[i]? = some (D.int ns[i]) := by rw [List.getElem?_map, List.getElem?_eq_getElem h]; rfl
    have h3 : ns.getD i 0 = ns[i] := by rw [List.getD_eq_getElem?_getD, List.getElem?_eq_getElem h]; rfl
    rw [h3]
    walk_at "ev*"
  · have h1 : ¬ (i : Int) < (ns.length : Int) := by omega
    have h3 : ns.getD i 0 = 0 := by rw [List.getD_eq_getElem?_getD, List.getElem?_eq_none (by omega)]; rfl
    rw [h3]
    walk_at "ev*"
theorem t_rich {k : Nat} (hk : 1 ≤ k) (c : Int) (i : Nat) (hi : i ≤ 100) (S : Sto) : ∃ r : Int, 0 ≤ r ∧ (T k)._law_rich [.int c, .int i] S = .ok (.int r) S := by
  obtain ⟨k, rfl⟩ := Nat.exists_eq_add_of_le' hk
  rw [T__law_rich]
  unfold b__law_rich
  have p18 : powOk 10 18 := ⟨by decide, by decide, by decide⟩
  have e18 : (10 : Int) ^ (Int.toNat 18) = 1000000000000000000 := by decide
  by_cases h : (1000000000000000000 : Int) ≤ c
  · refine ⟨c, by omega, ?_⟩
    walk_at "ev"
    simp only [p18, e18, h]
    walk_at "ev*"
  · have m1 : mulOk c 48271 := mulOk_small (by decide)
    have m2 : mulOk (i : Int) 69621 := mulOk_small (by decide)
    have d1 : modOk 2147483647 := modOk_of (by decide)
    have d2 : modOk 2147483629 := modOk_of (by decide)
    have hx := Int.emod_nonneg (c * 48271 + i * 69621 + 11) (show (2147483647 : Int) ≠ 0 by decide)
    have hx2 := Int.emod_lt_of_pos (c * 48271 + i * 69621 + 11) (show (0 : Int) < 2147483647 by decide)
    refine ⟨(c * 48271 + i * 69621 + 11) % 2147483647 * 2147483629 + ((c * 48271 + i * 69621 + 11) % 2147483647 * 16807 + c) % 2147483629, ?_, ?_⟩
    · have := Int.emod_nonneg ((c * 48271 + i * 69621 + 11) % 2147483647 * 16807 + c) (show (2147483629 : Int) ≠ 0 by decide)
      omega
    · generalize (i : Int) = z at *
      walk_at "ev"
      simp only [p18, e18, h]
      walk_at "ev*"
      generalize (c * 48271 + z * 69621 + 11) % 2147483647 = y at *
      have m3 : mulOk y 2147483629 := mulOk_small (by decide)
      have m4 : mulOk y 16807 := mulOk_small (by decide)
      walk_at "ev*"
theorem t_ldec {k : Nat} (hk : 1 ≤ k) (u : Int) (s : Nat) (hs : s ≤ 1000) (S : Sto) : (T k)._law_decimal [.int u, .int s] S = .ok (dec (nrm s u)) S := by
  obtain ⟨k, rfl⟩ := Nat.exists_eq_add_of_le' hk
  have m10 : modOk 10 := modOk_of (by decide)
  have lp : ∀ (l : List D) (s : Nat) (u : Int) (z : Option D), l.length = s →
      (∃ z', forD none (gN 2) (l__law_decimal_1 (T k)) l [some (.int u), some (.int s), z] S = .nx [some (.int (nrm s u).1), some (.int (nrm s u).2), z'] S) ∨
      forD none (gN 2) (l__law_decimal_1 (T k)) l [some (.int u), some (.int s), z] S = .rt (dec (nrm s u)) S := by
    intro l
    induction l with
    | nil =>
      intro s u z e
      cases e
      exact .inl ⟨z, by rw [forD_nil]; rfl⟩
    | cons x l ih =>
      intro s u z e
      cases e
      have e2 : ((l.length + 1 : Nat) : Int) - 1 = l.length := by omega
      rw [forD_cons, List.length_cons]
      by_cases h : u % 10 = 0
      · have h2 : u / 10 * 10 = u := by omega
        have t : turn (gN 2) (l__law_decimal_1 (T k)) x [some (.int u), some (.int ((l.length + 1 : Nat) : Int)), z] S = .nx [some (.int (u / 10)), some (.int (l.length : Int)), some x] S := by
          unfold l__law_decimal_1
          generalize ((l.length + 1 : Nat) : Int) = y at e2 ⊢
          walk_at "ev*"
        rw [t, nrm, if_pos h2]
        exact ih _ (u / 10) (some x) rfl
      · have h2 : ¬ u / 10 * 10 = u := by omega
        have t : turn (gN 2) (l__law_decimal_1 (T k)) x [some (.int u), some (.int ((l.length + 1 : Nat) : Int)), z] S = .rt (.tup [.int u, .int ((l.length + 1 : Nat) : Int)]) S := by
          unfold l__law_decimal_1
          generalize ((l.length + 1 : Nat) : Int) = y at e2 ⊢
          walk_at "ev*"
        rw [t, nrm, if_neg h2]
        exact .inr rfl
  rw [T__law_decimal]
  unfold b__law_decimal
  have hsm := small62_nat (n := s) (by omega)
  rcases lp (rngD 0 s) s u none rng_len with ⟨z', h⟩ | h
  · generalize nrm s u = res at h ⊢
    walk_at "ev*"
    rfl
  · walk_at "ev*"
theorem t_ten {k : Nat} (hk : 1 ≤ k) (n : Nat) (hn : n ≤ 1000000) (S : Sto) : (T k)._law_ten [.int n] S = .ok (.int (10 ^ n)) S := by
  obtain ⟨k, rfl⟩ := Nat.exists_eq_add_of_le' hk
  have lp : ∀ (a : Option D) (l : List D) (r : Int) (z : Option D), ∃ z', forD none (gN 2) (l__law_ten_1 (T k)) l [a, some (.int r), z] S = .nx [a, some (.int (r * 10 ^ l.length)), z'] S := by
    intro a l
    induction l with
    | nil => exact fun r z => ⟨z, by rw [forD_nil]; simp⟩
    | cons x l ih =>
      intro r z
      have h : turn (gN 2) (l__law_ten_1 (T k)) x [a, some (D.int r), z] S = SO.nx [a, some (.int (r * 10)), some x] S := by
        unfold l__law_ten_1; walk_at "ev"
      obtain ⟨z', h2⟩ := ih (r * 10) (some x)
      refine ⟨z', ?_⟩
      rw [forD_cons, h]
      simp only
      rw [h2, List.length_cons, Int.pow_succ, Int.mul_assoc, Int.mul_comm 10]
  rw [T__law_ten]
  obtain ⟨z', h⟩ := lp (some (.int n)) (rngD 0 n) 1 none
  rw [rng_len, Int.one_mul] at h
  have hs := small62_nat hn
  generalize (10 : Int) ^ n = r at h ⊢
  unfold b__law_ten
  walk_at "ev*"
theorem menu6 (i : Int) (h0 : 0 ≤ i) (h : i < 6) : ∃ u : Int, Bn 4 u ∧ atD [.int 0, .int 1, .int (-1), .int 10, .int (-100), .int 5] i = some (.int u) := by
  have : i = 0 ∨ i = 1 ∨ i = 2 ∨ i = 3 ∨ i = 4 ∨ i = 5 := by omega
  rcases this with rfl | rfl | rfl | rfl | rfl | rfl
  · exact ⟨0, by unfold Bn; decide, rfl⟩
  · exact ⟨1, by unfold Bn; decide, rfl⟩
  · exact ⟨-1, by unfold Bn; decide, rfl⟩
  · exact ⟨10, by unfold Bn; decide, rfl⟩
  · exact ⟨-100, by unfold Bn; decide, rfl⟩
  · exact ⟨5, by unfold Bn; decide, rfl⟩
theorem t_number {k : Nat} (hk : 2 ≤ k) (r : Int) (hr : 0 ≤ r) (S : Sto) : ∃ p : Int × Nat, Lst p ∧ Bn 19 p.1 ∧ p.2 ≤ 18 ∧ (T k)._law_number [.int r] S = .ok (dec p) S := by
  obtain ⟨k, rfl⟩ := Nat.exists_eq_add_of_le' hk
  have go : ∀ (u s : Int) (n : Nat), 0 ≤ s → s ≤ 18 → n ≤ 19 → Bn n u → ∃ p : Int × Nat, Lst p ∧ Bn 19 p.1 ∧ p.2 ≤ 18 ∧ (T (k + 1))._law_decimal [.int u, .int s] S = .ok (dec p) S := by
    intro u s n h0 h1 hn hu
    have t := t_ldec (k := k + 1) (by omega) u s.toNat (by omega) S
    rw [Int.toNat_of_nonneg h0] at t
    obtain ⟨a1, a2, a3⟩ := nrm_spec s.toNat u
    exact ⟨_, a3, bn_mono (nrm_bn hu) hn, by omega, t⟩
  rw [show k + 2 = (k + 1) + 1 from rfl, T__law_number]
  unfold b__law_number
  have m6 : modOk 6 := modOk_of (by decide)
  have d6 : divOk 6 := divOk_of (by decide) (by decide)
  have h6 := Int.emod_nonneg r (show (6 : Int) ≠ 0 by decide)
  have hrest : 0 ≤ r / 6 := Int.ediv_nonneg hr (by decide)
  by_cases c0 : r % 6 = 0
  · have m3 : modOk 3 := modOk_of (by decide)
    obtain ⟨u, hu, e⟩ := menu6 (r / 6 % 6) (Int.emod_nonneg _ (by decide)) (Int.emod_lt_of_pos _ (by decide))
    obtain ⟨p, p1, p2, p3, p4⟩ := go u (r / 6 / 6 % 3) 4 (Int.emod_nonneg _ (by decide)) (by have := Int.emod_lt_of_pos (r / 6 / 6) (show (0 : Int) < 3 by decide); omega) (by decide) hu
    refine ⟨p, p1, p2, p3, ?_⟩
    walk_at "ev*"
  · by_cases c4 : r % 6 < 4
    · have m5 : modOk 5 := modOk_of (by decide)
      have mA : modOk 20001 := modOk_of (by decide)
      have dA : divOk 20001 := divOk_of (by decide) (by decide)
      have b1 := Int.emod_nonneg (r / 6) (show (20001 : Int) ≠ 0 by decide)
      have b2 := Int.emod_lt_of_pos (r / 6) (show (0 : Int) < 20001 by decide)
      obtain ⟨p, p1, p2, p3, p4⟩ := go (r / 6 % 20001 - 10000) (r / 6 / 20001 % 5) 5 (Int.emod_nonneg _ (by decide)) (by have := Int.emod_lt_of_pos (r / 6 / 20001) (show (0 : Int) < 5 by decide); omega) (by decide) (bn_of (z := 100000) (by decide) (by omega) (by omega))
      refine ⟨p, p1, p2, p3, ?_⟩
      walk_at "ev*"
    · have m19 : modOk 19 := modOk_of (by decide)
      have mA : modOk 2000000000000000000 := modOk_of (by decide)
      have dA : divOk 1000000000000000 := divOk_of (by decide) (by decide)
      have p18 : powOk 10 18 := ⟨by decide, by decide, by decide⟩
      have p15 : powOk 10 15 := ⟨by decide, by decide, by decide⟩
      have e18 : (10 : Int) ^ (Int.toNat 18) = 1000000000000000000 := by decide
      have e15 : (10 : Int) ^ (Int.toNat 15) = 1000000000000000 := by decide
      have m2 : mulOk 2 1000000000000000000 := mulOk_smallL (by decide)
      have e2 : (2 : Int) * 1000000000000000000 = 2000000000000000000 := by decide
      have b1 := Int.emod_nonneg (r / 6) (show (2000000000000000000 : Int) ≠ 0 by decide)
      have b2 := Int.emod_lt_of_pos (r / 6) (show (0 : Int) < 2000000000000000000 by decide)
      obtain ⟨p, p1, p2, p3, p4⟩ := go (r / 6 % 2000000000000000000 - 1000000000000000000) (r / 6 / 1000000000000000 % 19) 19 (Int.emod_nonneg _ (by decide)) (by have := Int.emod_lt_of_pos (r / 6 / 1000000000000000) (show (0 : Int) < 19 by decide); omega) (by decide) (bn_of (z := 10000000000000000000) (by decide) (by omega) (by omega))
      refine ⟨p, p1, p2, p3, ?_⟩
      walk_at "ev"
      simp only [p18, p15, e18, e15, m2, e2, c0, c4]
      walk_at "ev*"
/-! quotients -/
theorem ab_nn (i : Int) : 0 ≤ ab i := by unfold ab; split <;> omega
theorem ab_pos {i : Int} (h : i ≠ 0) : 0 < ab i := by unfold ab; split <;> omega
theorem ab_nat (i : Int) : ab i = (i.natAbs : Int) := by unfold ab; split <;> omega
theorem ab_mul (i j : Int) : ab (i * j) = ab i * ab j := by rw [ab_nat, ab_nat, ab_nat, Int.natAbs_mul, Int.natCast_mul]
theorem ab_neg (i : Int) : ab (-i) = ab i := by unfold ab; split <;> split <;> omega
theorem ab_of_nn {i : Int} (h : 0 ≤ i) : ab i = i := by unfold ab; rw [if_neg (by omega)]
theorem ab_bn {n : Nat} {i : Int} (h : Bn n i) : Bn n (ab i) := by
  unfold Bn at *
  rw [ab_nat, Int.natAbs_natCast]; exact h
theorem bn_le {n : Nat} {i j : Int} (h : Bn n j) (h0 : 0 ≤ i) (h1 : i ≤ ab j) : Bn n i := by
  unfold Bn at *
  rw [ab_nat] at h1
  omega
theorem divOk_bn {n : Nat} {j : Int} (h : Bn n j) (h0 : 0 < j) (hn : n ≤ 2000) : divOk j := by
  refine ⟨h0, Nat.lt_of_lt_of_le (PySem.Flt.log2_lt_of (k := 4 * n + 1) (by omega) ?_) (show 4 * n + 1 ≤ 9000 by omega)⟩
  exact Nat.lt_of_lt_of_le h (Nat.le_trans (pow_bits n) (Nat.pow_le_pow_right (by decide) (by omega)))
/-- the size of a quotient, cut off or rounded -/
def qsize (n d : Int) (r : Bool) : Int := if r = true ∧ 2 * (n - n / d * d) ≥ d then n / d + 1 else n / d
def quo (a b : Int) (r : Bool) : Int := if decide (a < 0) = decide (b < 0) then qsize (ab a) (ab b) r else -qsize (ab a) (ab b) r
theorem qsize_spec (n d : Int) (r : Bool) (hn : 0 ≤ n) (hd : 0 < d) :
    0 ≤ qsize n d r ∧ (r = false → qsize n d r * d ≤ n ∧ n < (qsize n d r + 1) * d) ∧ (r = true → (2 * qsize n d r - 1) * d ≤ 2 * n ∧ 2 * n < (2 * qsize n d r + 1) * d) := by
  have h1 := Int.emod_nonneg n (Int.ne_of_gt hd)
  have h2 := Int.emod_lt_of_pos n hd
  have h3 := Int.mul_ediv_add_emod n d
  have h4 : 0 ≤ n / d := Int.ediv_nonneg hn (by omega)
  rw [Int.mul_comm] at h3
  unfold qsize
  generalize n / d = q at *
  generalize n % d = m at *
  by_cases c : r = true ∧ 2 * (n - q * d) ≥ d
  · rw [if_pos c]
    refine ⟨by omega, fun e => ?_, fun _ => ?_⟩
    · rw [e] at c; exact absurd c.1 (by simp)
    · have e1 : (2 * (q + 1) - 1) * d = 2 * (q * d) + d := by rw [show 2 * (q + 1) - 1 = 2 * q + 1 by omega, Int.add_mul, Int.mul_assoc, Int.one_mul]
      have e2 : (2 * (q + 1) + 1) * d = 2 * (q * d) + 3 * d := by rw [show 2 * (q + 1) + 1 = 2 * q + 3 by omega, Int.add_mul, Int.mul_assoc]
      rw [e1, e2]
      have := c.2
      generalize q * d = p at *
      omega
  · rw [if_neg c]
    refine ⟨h4, fun _ => ?_, fun e => ?_⟩
    · have e1 : (q + 1) * d = q * d + d := by rw [Int.add_mul, Int.one_mul]
      rw [e1]
      generalize q * d = p at *
      omega
    · have e1 : (2 * q - 1) * d = 2 * (q * d) - d := by rw [Int.sub_mul, Int.mul_assoc, Int.one_mul]
      have e2 : (2 * q + 1) * d = 2 * (q * d) + d := by rw [Int.add_mul, Int.mul_assoc, Int.one_mul]
      rw [e1, e2]
      have : ¬ 2 * (n - q * d) ≥ d := fun z => c ⟨e, z⟩
      generalize q * d = p at *
      omega
/-- what the law asks -/
structure Rgt (v a b : Int) (r : Bool) : Prop where
  sg : v = 0 ∨ decide (v < 0) = !(decide (decide (a < 0) = decide (b < 0)))
  cut : r = false → ab v * ab b ≤ ab a ∧ ab a < (ab v + 1) * ab b
  rnd : r = true → (2 * ab v - 1) * ab b ≤ 2 * ab a ∧ 2 * ab a < (2 * ab v + 1) * ab b
theorem quo_right (a b : Int) (r : Bool) (hb : b ≠ 0) : Rgt (quo a b r) a b r := by
  obtain ⟨h0, h1, h2⟩ := qsize_spec (ab a) (ab b) r (ab_nn a) (ab_pos hb)
  have ha : ab (quo a b r) = qsize (ab a) (ab b) r := by
    unfold quo
    split
    · exact ab_of_nn h0
    · rw [ab_neg]; exact ab_of_nn h0
  refine ⟨?_, by rw [ha]; exact h1, by rw [ha]; exact h2⟩
  unfold quo
  generalize qsize (ab a) (ab b) r = s at *
  by_cases c : decide (a < 0) = decide (b < 0)
  · rw [if_pos c, c]
    simp
    omega
  · rw [if_neg c]
    have : decide (decide (a < 0) = decide (b < 0)) = false := by simpa using c
    rw [this]
    simp
    omega
/-- a common factor does not count -/
theorem rgt_scale {v a b c : Int} {r : Bool} (h : Rgt v a b r) (hc : 0 < c) : Rgt v (a * c) (b * c) r := by
  have s : ∀ x : Int, decide (x * c < 0) = decide (x < 0) := fun x => by
    by_cases hx : x < 0
    · have := Int.mul_neg_of_neg_of_pos hx hc
      simp [hx, this]
    · have : 0 ≤ x * c := Int.mul_nonneg (by omega) (by omega)
      have h2 : ¬ x * c < 0 := by omega
      simp [hx, h2]
  have e : ∀ x : Int, ab (x * c) = ab x * c := fun x => by rw [ab_mul, ab_of_nn (show 0 ≤ c by omega)]
  refine ⟨by rw [s, s]; exact h.sg, fun hr => ?_, fun hr => ?_⟩
  · rw [e, e, ← Int.mul_assoc, ← Int.mul_assoc]
    exact ⟨Int.mul_le_mul_of_nonneg_right (h.cut hr).1 (by omega), Int.mul_lt_mul_of_pos_right (h.cut hr).2 hc⟩
  · rw [e, e, ← Int.mul_assoc, ← Int.mul_assoc, ← Int.mul_assoc]
    exact ⟨Int.mul_le_mul_of_nonneg_right (h.rnd hr).1 (by omega), Int.mul_lt_mul_of_pos_right (h.rnd hr).2 hc⟩
/-- an exact value -/
theorem rgt_exact {v a b : Int} {r : Bool} (hb : 0 < b) (h : v * b = a) : Rgt v a b r := by
  have e : ab a = ab v * b := by rw [← h, ab_mul, ab_of_nn (show 0 ≤ b by omega)]
  have e2 : ab b = b := ab_of_nn (by omega)
  have hn := ab_nn v
  refine ⟨?_, fun _ => ?_, fun _ => ?_⟩
  · by_cases hv : v = 0
    · exact .inl hv
    · right
      have hb2 : decide (b < 0) = false := by simp; omega
      rw [hb2]
      by_cases hv2 : v < 0
      · have : a < 0 := by rw [← h]; exact Int.mul_neg_of_neg_of_pos hv2 hb
        simp [hv2, this]
      · have : 0 ≤ a := by rw [← h]; exact Int.mul_nonneg (by omega) (by omega)
        have h1 : decide (v < 0) = false := by simpa using hv2
        have h2 : decide (a < 0) = false := by simpa using this
        rw [h1, h2]
        rfl
  · rw [e, e2, Int.add_mul, Int.one_mul]
    generalize ab v * b = p
    omega
  · rw [e, e2, Int.add_mul, Int.sub_mul, Int.one_mul, Int.mul_assoc]
    generalize ab v * b = p
    omega
theorem t_quotient {k : Nat} (hk : 1 ≤ k) (a b : Int) (r : Bool) (n : Nat) (ha : Bn n a) (hb : Bn n b) (hn : n ≤ 2000) (h0 : b ≠ 0) (S : Sto) : (T k).quotient [.int a, .int b, .bl r] S = .ok (.int (quo a b r)) S := by
  obtain ⟨k, rfl⟩ := Nat.exists_eq_add_of_le' hk
  have d := divOk_bn (ab_bn hb) (ab_pos h0) hn
  have hq : 0 ≤ ab a / ab b := Int.ediv_nonneg (ab_nn a) (ab_nn b)
  have hq2 : ab a / ab b ≤ ab a := Int.ediv_le_self _ (ab_nn a)
  have m := mulOk_bn (bn_le ha hq hq2) (ab_bn hb) (by omega)
  have m2 : mulOk 2 (ab a - ab a / ab b * ab b) := mulOk_smallL (by decide)
  rw [T_quotient]
  unfold b_quotient quo qsize
  by_cases c2 : decide (a < 0) = decide (b < 0)
  · cases r with
    | false => walk_at "ev*"; simp
    | true =>
      by_cases c : ab b ≤ 2 * (ab a - ab a / ab b * ab b)
      · walk_at "ev*"
        simp [c]
      · walk_at "ev*"
        simp [c]
  · cases r with
    | false => walk_at "ev*"; simp
    | true =>
      by_cases c : ab b ≤ 2 * (ab a - ab a / ab b * ab b)
      · walk_at "ev*"
        simp [c]
      · walk_at "ev*"
        simp [c]
theorem t_units_at {k : Nat} (hk : 3 ≤ k) (a : Int × Nat) (s n : Nat) (r : Bool) (ha : Bn n a.1) (hn : n ≤ 900) (h1 : a.2 ≤ 1000) (h2 : s ≤ 1000) (S : Sto) :
    ∃ v, (T k).units_at [dec a, .int s, .bl r] S = .ok (.int v) S ∧ Rgt v (a.1 * 10 ^ s) (10 ^ a.2) r ∧ v = (if a.2 ≤ s then a.1 * 10 ^ (s - a.2) else quo a.1 (10 ^ (a.2 - s)) r) := by
  obtain ⟨k, rfl⟩ := Nat.exists_eq_add_of_le' hk
  rw [show k + 3 = (k + 2) + 1 from rfl, T_units_at]
  unfold b_units_at
  by_cases c : a.2 ≤ s
  · have al := t_aligned (k := k + 2) (by omega) a.1 a.2 s n ha (by omega) c (by omega) S
    refine ⟨a.1 * 10 ^ (s - a.2), ?_, rgt_exact (pow10_pos _) (by rw [Int.mul_assoc, ← Int.pow_add, show s - a.2 + a.2 = s by omega]), by rw [if_pos c]⟩
    have c' : (a.2 : Int) ≤ (s : Int) := by omega
    unfold dec at *
    generalize a.1 * 10 ^ (s - a.2) = v at *
    generalize (s : Int) = ss at *
    walk_at "ev*"
  · have p := t_power (k := k + 2) (by omega) (a.2 - s) (by omega) S
    have q := t_quotient (k := k + 2) (by omega) a.1 (10 ^ (a.2 - s)) r (n + 1001) (bn_mono ha (by omega)) (bn_mono (bn_pow _) (by omega)) (by omega) (Int.ne_of_gt (pow10_pos _)) S
    have e : ((a.2 : Int) - (s : Int)) = ((a.2 - s : Nat) : Int) := by omega
    have rg := rgt_scale (quo_right a.1 (10 ^ (a.2 - s)) r (Int.ne_of_gt (pow10_pos _))) (pow10_pos s)
    rw [← Int.pow_add, show a.2 - s + s = a.2 by omega] at rg
    refine ⟨quo a.1 (10 ^ (a.2 - s)) r, ?_, rg, by rw [if_neg c]⟩
    have c' : ¬ (a.2 : Int) ≤ (s : Int) := by omega
    unfold dec
    clear rg
    generalize (10 : Int) ^ (a.2 - s) = P at *
    generalize quo a.1 P r = v at *
    generalize (s : Int) = ss at *
    walk_at "ev*"
theorem t_divide {k : Nat} (hk : 2 ≤ k) (a b : Int × Nat) (s n : Nat) (r : Bool) (ha : Bn n a.1) (hb : Bn n b.1) (hn : n ≤ 500) (h1 : a.2 ≤ 500) (h2 : b.2 ≤ 500) (hs : s ≤ 500) (h0 : b.1 ≠ 0) (S : Sto) :
    (T k).divide [dec a, dec b, .int s, .bl r] S = .ok (.int (quo (a.1 * 10 ^ (b.2 + s)) (b.1 * 10 ^ a.2) r)) S := by
  obtain ⟨k, rfl⟩ := Nat.exists_eq_add_of_le' hk
  have p := t_power (k := k + 1) (by omega) (b.2 + s) (by omega) S
  have p2 := t_power (k := k + 1) (by omega) a.2 (by omega) S
  have m1 := mulOk_bn ha (bn_pow (b.2 + s)) (by omega)
  have m2 := mulOk_bn hb (bn_pow a.2) (by omega)
  have q := t_quotient (k := k + 1) (by omega) (a.1 * 10 ^ (b.2 + s)) (b.1 * 10 ^ a.2) r 2000 (bn_mono (bn_mul ha (bn_pow _)) (by omega)) (bn_mono (bn_mul hb (bn_pow _)) (by omega)) (by omega) (Int.mul_ne_zero h0 (Int.ne_of_gt (pow10_pos _))) S
  have e : ((b.2 : Int) + (s : Int)) = ((b.2 + s : Nat) : Int) := by omega
  rw [show k + 2 = (k + 1) + 1 from rfl, T_divide]
  unfold b_divide dec
  generalize (10 : Int) ^ (b.2 + s) = P at *
  generalize (10 : Int) ^ a.2 = P2 at *
  generalize quo (a.1 * P) (b.1 * P2) r = v at *
  generalize ((b.2 + s : Nat) : Int) = bs at *
  walk_at "ev*"
theorem t_divide0 {k : Nat} (hk : 1 ≤ k) (a b : Int × Nat) (s : D) (r : D) (h0 : b.1 = 0) (S : Sto) : (T k).divide [dec a, dec b, s, r] S = .ex ⟨.own "BadDecimal", none⟩ S := by
  obtain ⟨k, rfl⟩ := Nat.exists_eq_add_of_le' hk
  rw [T_divide]
  unfold b_divide dec mRaise
  walk_at "ev*"
theorem t_right {k : Nat} (hk : 1 ≤ k) (v a b : Int) (r : Bool) (n : Nat) (h : Rgt v a b r) (hv : Bn n v) (hb : Bn n b) (hn : n ≤ 2000) (S : Sto) : (T k)._law_right [.int v, .int a, .int b, .bl r] S = .ok (.bl true) S := by
  obtain ⟨k, rfl⟩ := Nat.exists_eq_add_of_le' hk
  have bb := ab_bn hb
  have bv := ab_bn hv
  have v1 : Bn (n + 3) (ab v + 1) := bn_mono (bn_add (n := n + 1) (bn_mono bv (by omega)) (bn_mono (show Bn 1 1 by unfold Bn; decide) (by omega))) (by omega)
  have v2 : Bn (n + 3) (2 * ab v) := by
    have := bn_add bv bv
    rw [show ab v + ab v = 2 * ab v by omega] at this
    exact bn_mono this (by omega)
  have w1 : Bn (n + 4) (2 * ab v - 1) := bn_sub v2 (bn_mono (show Bn 1 1 by unfold Bn; decide) (by omega))
  have w2 : Bn (n + 4) (2 * ab v + 1) := bn_add v2 (bn_mono (show Bn 1 1 by unfold Bn; decide) (by omega))
  have m1 := mulOk_bn bv bb (by omega)
  have m2 := mulOk_bn v1 bb (by omega)
  have m3 : mulOk 2 (ab v) := mulOk_smallL (by decide)
  have m4 : mulOk 2 (ab a) := mulOk_smallL (by decide)
  have m5 := mulOk_bn w1 bb (by omega)
  have m6 := mulOk_bn w2 bb (by omega)
  have sg : ¬ (¬ ab v = 0 ∧ ¬ decide (v < 0) = !decide (decide (a < 0) = decide (b < 0))) := fun z => by
    rcases h.sg with e | e
    · subst e; exact z.1 rfl
    · exact z.2 e
  have c1 := h.cut
  have c2 := h.rnd
  clear h
  rw [T__law_right]
  unfold b__law_right
  walk_at "ev"
  generalize ab v = w at *
  unfold q__law_right_1
  cases r with
  | false =>
    obtain ⟨c3, c4⟩ := c1 rfl
    clear c1 c2
    by_cases z : w = 0
    · subst z
      walk_at "ev*"
    · have z2 : decide (v < 0) = !decide (decide (a < 0) = decide (b < 0)) := Classical.byContradiction fun q => sg ⟨z, q⟩
      walk_at "ev*"
  | true =>
    obtain ⟨c3, c4⟩ := c2 rfl
    clear c1 c2
    by_cases z : w = 0
    · subst z
      walk_at "ev*"
    · have z2 : decide (v < 0) = !decide (decide (a < 0) = decide (b < 0)) := Classical.byContradiction fun q => sg ⟨z, q⟩
      walk_at "ev*"
theorem t_ldiv0 {k : Nat} (hk : 2 ≤ k) (a b : Int × Nat) (s r : D) (h0 : b.1 = 0) (S : Sto) : (T k)._law_divide [dec a, dec b, s, r] S = .ok (.tup [.str [114, 101, 102, 117, 115, 101, 100], .bl true]) S := by
  obtain ⟨k, rfl⟩ := Nat.exists_eq_add_of_le' hk
  have d := t_divide0 (k := k + 1) (by omega) a b s r h0 S
  rw [show k + 2 = (k + 1) + 1 from rfl, T__law_divide]
  unfold b__law_divide mTryAs
  walk_at "ev"
  rw [d]
  simp only [toS_ex, mExIs, takesE, List.lookup]
  walk_at "ev"
  simp [so2]
theorem t_ldiv {k : Nat} (hk : 2 ≤ k) (a b s r v : D) (S : Sto) (h : (T (k - 1)).divide [a, b, s, r] S = .ok v S) : (T k)._law_divide [a, b, s, r] S = .ok v S := by
  obtain ⟨k, rfl⟩ := Nat.exists_eq_add_of_le' hk
  rw [show k + 2 - 1 = k + 1 by omega] at h
  rw [show k + 2 = (k + 1) + 1 from rfl, T__law_divide]
  unfold b__law_divide mTryAs
  walk_at "ev*"
theorem ne_ref {S : Sto} : gNe S (.tup [.str [114, 101, 102, 117, 115, 101, 100], .bl true]) (.tup [.str [114, 101, 102, 117, 115, 101, 100], .bl true]) = some (.bl false) := by
  rw [gNe_teq rfl rfl]; rfl
theorem quo_bn {n : Nat} {a b : Int} {r : Bool} (h : Bn n a) : Bn (n + 1) (quo a b r) := by
  have key : ∀ x : Int, 0 ≤ x → x ≤ ab a + 1 → Bn (n + 1) x := fun x h0 h1 => by
    unfold Bn at *
    rw [ab_nat] at h1
    rw [Nat.pow_succ]
    have : 0 < 10 ^ n := Nat.pow_pos (by decide)
    omega
  have h0 : 0 ≤ ab a / ab b := Int.ediv_nonneg (ab_nn a) (ab_nn b)
  have h1 : ab a / ab b ≤ ab a := Int.ediv_le_self _ (ab_nn a)
  have hs : Bn (n + 1) (qsize (ab a) (ab b) r) := by
    unfold qsize
    split
    · exact key _ (by omega) (by omega)
    · exact key _ h0 (by omega)
  unfold quo
  split
  · exact hs
  · exact bn_neg hs
section
variable (ns : List Int) (r : Int) (hr : 0 ≤ r) (i : Nat) (f : Bool)
include hr in
theorem rest1 (be up : Int) (a : Int × Nat) (ba : Bn 19 a.1) (sa : a.2 ≤ 18) (z7 z8 z9 : Option D) :
    ∃ y7 y8 y9, q_law_1 (T 5) [some (.fz (ns.map D.int)), some (.int (i : Int)), some (.int r), some (.bl f), some (.int be), some (.int up), some (dec a), z7, z8, z9] [] =
      .nx [some (.fz (ns.map D.int)), some (.int (i : Int)), some (.int r), some (.bl f), some (.int be), some (.int up), some (dec a), y7, y8, y9] [] := by
  have hq : 0 ≤ r / 77 := Int.ediv_nonneg hr (by decide)
  obtain ⟨b, lb, bb, sb, hb⟩ := t_number (k := 5) (by decide) (r / 77 + 5 * (i : Int)) (by omega) []
  have d77 : divOk 77 := divOk_of (by decide) (by decide)
  have d11 : divOk 11 := divOk_of (by decide) (by decide)
  have m21 : modOk 21 := modOk_of (by decide)
  have m5 : mulOk 5 (i : Int) := mulOk_smallL (by decide)
  obtain ⟨s, hs, hs2⟩ : ∃ m : Nat, r / 11 % 21 = (m : Int) ∧ m < 21 := ⟨(r / 11 % 21).toNat, by have := Int.emod_nonneg (r / 11) (show (21 : Int) ≠ 0 by decide); omega, by have := Int.emod_lt_of_pos (r / 11) (show (0 : Int) < 21 by decide); omega⟩
  obtain ⟨v, hv, rg, ev⟩ := t_units_at (k := 5) (by decide) a s 19 f ba (by decide) (by omega) (by omega) []
  have bv : Bn 60 v := by
    rw [ev]
    split
    · exact bn_mono (bn_mul ba (bn_pow _)) (by omega)
    · exact bn_mono (quo_bn ba) (by omega)
  clear ev
  have t1 := t_ten (k := 5) (by decide) s (by omega) []
  have t2 := t_ten (k := 5) (by decide) a.2 (by omega) []
  have t3 := t_ten (k := 5) (by decide) (b.2 + s) (by omega) []
  have m1 := mulOk_bn ba (bn_pow s) (by omega)
  have m2 := mulOk_bn ba (bn_pow (b.2 + s)) (by omega)
  have m3 := mulOk_bn bb (bn_pow a.2) (by omega)
  have r1 := t_right (k := 5) (by decide) v _ _ f 60 rg bv (bn_mono (bn_pow a.2) (by omega)) (by omega) []
  have e : ((b.2 : Int) + (s : Int)) = ((b.2 + s : Nat) : Int) := by omega
  clear rg
  refine ⟨some (dec b), some (.int s), some (if b.1 = 0 then .tup [.str [114, 101, 102, 117, 115, 101, 100], .bl true] else .int (quo (a.1 * 10 ^ (b.2 + s)) (b.1 * 10 ^ a.2) f)), ?_⟩
  unfold q_law_1
  by_cases h0 : b.1 = 0
  · have dv := t_ldiv0 (k := 5) (by decide) a b (.int s) (.bl f) h0 []
    rw [if_pos h0]
    obtain ⟨b1, b2⟩ := b
    dsimp only at h0
    subst h0
    unfold dec at *
    dsimp only at *
    generalize (10 : Int) ^ s = P1 at *
    generalize (10 : Int) ^ a.2 = P2 at *
    generalize (10 : Int) ^ (b2 + s) = P3 at *
    generalize (i : Int) = ii at *
    generalize ((b2 + s : Nat) : Int) = bs at *
    generalize (s : Int) = ss at *
    walk_at "ev*"
    simp only [ne_ref]
    walk_at "ev*"
  · have dv := t_ldiv (k := 5) (by decide) (dec a) (dec b) (.int s) (.bl f) _ [] (t_divide (k := 4) (by decide) a b s 19 f ba bb (by decide) (by omega) (by omega) (by omega) h0 [])
    have r2 := t_right (k := 5) (by decide) _ _ _ f 100 (quo_right (a.1 * 10 ^ (b.2 + s)) (b.1 * 10 ^ a.2) f (Int.mul_ne_zero h0 (Int.ne_of_gt (pow10_pos _)))) (bn_mono (quo_bn (bn_mul ba (bn_pow _))) (by omega)) (bn_mono (bn_mul bb (bn_pow a.2)) (by omega)) (by omega) []
    rw [if_neg h0]
    unfold dec at *
    generalize (10 : Int) ^ s = P1 at *
    generalize (10 : Int) ^ a.2 = P2 at *
    generalize (10 : Int) ^ (b.2 + s) = P3 at *
    generalize quo (a.1 * P3) (b.1 * P2) f = w at *
    generalize (i : Int) = ii at *
    generalize ((b.2 + s : Nat) : Int) = bs at *
    generalize (s : Int) = ss at *
    walk_at "ev*"
include hr in
theorem rest2 (be : Int) (hbe : be ≠ 0) (hb2 : Bn 5 be) (z5 z6 z7 z8 z9 : Option D) :
    ∃ y4 y5 y6 y7 y8 y9, q_law_2 (T 5) [some (.fz (ns.map D.int)), some (.int (i : Int)), some (.int r), some (.bl f), some (.int be), z5, z6, z7, z8, z9] [] =
      .nx [some (.fz (ns.map D.int)), some (.int (i : Int)), some (.int r), some (.bl f), y4, y5, y6, y7, y8, y9] [] := by
  have go : ∀ (be up : Int), be ≠ 0 → Bn 10 be → Bn 40 up → ∃ y6 y7 y8 y9, (mSeq (mIf (mNot (asB (mCall (T 5)._law_right (mCons (mCall (T 5).quotient (mCons (mVar 5) (mCons (mVar 4) (mCons (mVar 3) mNil)))) (mCons (mVar 5) (mCons (mVar 4) (mCons (mVar 3) mNil))))))) (mRet (mC (.bl false))) mSkip)
      (mSeq (mSet 6 (mCall (T 5)._law_number (mCons (mBin gDiv (mVar 2) (mC (.int 3))) mNil))) (q_law_1 (T 5)))) [some (.fz (ns.map D.int)), some (.int (i : Int)), some (.int r), some (.bl f), some (.int be), some (.int up), z6, z7, z8, z9] [] =
      .nx [some (.fz (ns.map D.int)), some (.int (i : Int)), some (.int r), some (.bl f), some (.int be), some (.int up), y6, y7, y8, y9] [] := by
    intro be up h0 b1 b2
    have q := t_quotient (k := 5) (by decide) up be f 40 b2 (bn_mono b1 (by decide)) (by decide) h0 []
    have r1 := t_right (k := 5) (by decide) _ _ _ f 100 (quo_right up be f h0) (bn_mono (quo_bn b2) (by decide)) (bn_mono b1 (by decide)) (by omega) []
    have d3 : divOk 3 := divOk_of (by decide) (by decide)
    obtain ⟨a, la, ba, sa, ha⟩ := t_number (k := 5) (by decide) (r / 3) (Int.ediv_nonneg hr (by decide)) []
    obtain ⟨y7, y8, y9, h⟩ := rest1 ns r hr i f be up a ba sa z7 z8 z9
    refine ⟨some (dec a), y7, y8, y9, ?_⟩
    unfold dec at *
    generalize (i : Int) = ii at *
    generalize quo up be f = v at *
    walk_at "ev*"
  have d4 : divOk 4002 := divOk_of (by decide) (by decide)
  have d9 : divOk 9 := divOk_of (by decide) (by decide)
  have d2 : divOk 2 := divOk_of (by decide) (by decide)
  have m31 : modOk 31 := modOk_of (by decide)
  have m5 : modOk 5 := modOk_of (by decide)
  have m30 : modOk 1000000000000000000000000000000 := modOk_of (by decide)
  have p30 : powOk 10 30 := ⟨by decide, by decide, by decide⟩
  have p29 : powOk 10 29 := ⟨by decide, by decide, by decide⟩
  have e30 : (10 : Int) ^ (Int.toNat 30) = 1000000000000000000000000000000 := by decide
  have e29 : (10 : Int) ^ (Int.toNat 29) = 100000000000000000000000000000 := by decide
  have b1 := Int.emod_nonneg (r / 4002) (show (1000000000000000000000000000000 : Int) ≠ 0 by decide)
  have b2 := Int.emod_lt_of_pos (r / 4002) (show (0 : Int) < 1000000000000000000000000000000 by decide)
  have bu : Bn 31 (r / 4002 % 1000000000000000000000000000000 - 100000000000000000000000000000) := bn_of (z := 10000000000000000000000000000000) (by decide) (by omega) (by omega)
  unfold q_law_2
  by_cases h5 : r % 5 = 0
  · have mm : mulOk 2 be := mulOk_smallL (by decide)
    have e2 : 2 * be / 2 = be := by omega
    have b3 := Int.emod_nonneg (r / 9) (show (31 : Int) ≠ 0 by decide)
    have b4 := Int.emod_lt_of_pos (r / 9) (show (0 : Int) < 31 by decide)
    have bx : Bn 3 (r / 9 % 31 - 15) := bn_of (z := 1000) (by decide) (by omega) (by omega)
    have m3 := mulOk_bn hb2 bx (by decide)
    have b6 : Bn 10 (2 * be) := by
      have := bn_add hb2 hb2
      rw [show be + be = 2 * be by omega] at this
      exact bn_mono this (by decide)
    obtain ⟨y6, y7, y8, y9, h⟩ := go (2 * be) (be * (r / 9 % 31 - 15)) (by omega) b6 (bn_mono (bn_mul hb2 bx) (by decide))
    refine ⟨some (.int (2 * be)), some (.int (be * (r / 9 % 31 - 15))), y6, y7, y8, y9, ?_⟩
    rw [← h]
    clear h go
    generalize (i : Int) = ii at *
    walk_at "ev"
    simp only [p30, p29, e30, e29, d4, m30, m5, if_true, h5]
    walk_at "ev*"
  · obtain ⟨y6, y7, y8, y9, h⟩ := go be _ hbe (bn_mono hb2 (by decide)) (bn_mono bu (by decide))
    refine ⟨some (.int be), some (.int (r / 4002 % 1000000000000000000000000000000 - 100000000000000000000000000000)), y6, y7, y8, y9, ?_⟩
    rw [← h]
    clear h go
    generalize (i : Int) = ii at *
    walk_at "ev"
    simp only [p30, p29, e30, e29, d4, m30, m5, if_true, h5]
    walk_at "ev*"
end
theorem law_turn (ns : List Int) (i : Nat) (hi : i < 64) (z z2 z3 z4 z5 z6 z7 z8 z9 : Option D) : ∃ y1 y2 y3 y4 y5 y6 y7 y8 y9,
    turn (gN 1) (l_law_1 (T 5)) (.int (0 + (i : Int))) [some (.fz (ns.map D.int)), z, z2, z3, z4, z5, z6, z7, z8, z9] [] = .nx [some (.fz (ns.map D.int)), y1, y2, y3, y4, y5, y6, y7, y8, y9] [] := by
  have c := t_cell (k := 5) (by decide) ns i []
  obtain ⟨r, hr, hrich⟩ := t_rich (k := 5) (by decide) (ns.getD i 0) i (by omega) []
  have m2 : modOk 2 := modOk_of (by decide)
  have d2 : divOk 2 := divOk_of (by decide) (by decide)
  have mA : modOk 2001 := modOk_of (by decide)
  have b1 := Int.emod_nonneg (r / 2) (show (2001 : Int) ≠ 0 by decide)
  have b2 := Int.emod_lt_of_pos (r / 2) (show (0 : Int) < 2001 by decide)
  have e0 : (0 : Int) + (i : Int) = (i : Int) := by omega
  rw [e0]
  unfold l_law_1
  by_cases h0 : r / 2 % 2001 - 1000 = 0
  · obtain ⟨y4, y5, y6, y7, y8, y9, h⟩ := rest2 ns r hr i (decide (r % 2 = 1)) 7 (by decide) (by unfold Bn; decide) z5 z6 z7 z8 z9
    refine ⟨some (.int (i : Int)), some (.int r), some (.bl (decide (r % 2 = 1))), y4, y5, y6, y7, y8, y9, ?_⟩
    generalize (i : Int) = ii at *
    generalize (ns.getD i 0) = cc at *
    walk_at "ev*"
  · obtain ⟨y4, y5, y6, y7, y8, y9, h⟩ := rest2 ns r hr i (decide (r % 2 = 1)) (r / 2 % 2001 - 1000) h0 (bn_of (z := 100000) (by decide) (by omega) (by omega)) z5 z6 z7 z8 z9
    refine ⟨some (.int (i : Int)), some (.int r), some (.bl (decide (r % 2 = 1))), y4, y5, y6, y7, y8, y9, ?_⟩
    generalize (i : Int) = ii at *
    generalize (ns.getD i 0) = cc at *
    walk_at "ev*"
theorem law_true (ns : List Int) (hn : ns.length ≤ 63) : ∃ S', (T 6).law [.fz (ns.map D.int)] [] = .ok (.bl true) S' := by
  refine ⟨[], ?_⟩
  obtain ⟨m, hm, hm2⟩ : ∃ m : Nat, (if (if (ns.length : Int) < 12 then (ns.length : Int) else 12) > 1 then (if (ns.length : Int) < 12 then (ns.length : Int) else 12) else 1) = (m : Int) ∧ m ≤ 63 := by
    refine ⟨(if (if (ns.length : Int) < 12 then (ns.length : Int) else 12) > 1 then (if (ns.length : Int) < 12 then (ns.length : Int) else 12) else 1).toNat, ?_, ?_⟩ <;> (split <;> split <;> omega)
  obtain ⟨E2, S2, h1, ⟨y1, y2, y3, y4, y5, y6, y7, y8, y9, rfl⟩, rfl⟩ := forR_inv (g := gN 1) (b := l_law_1 (T 5)) (lo := 0) (n := m) (E := [some (.fz (ns.map D.int)), none, none, none, none, none, none, none, none, none]) (S := [])
    (fun _ E S => (∃ y1 y2 y3 y4 y5 y6 y7 y8 y9, E = [some (.fz (ns.map D.int)), y1, y2, y3, y4, y5, y6, y7, y8, y9]) ∧ S = []) ⟨⟨_, _, _, _, _, _, _, _, _, rfl⟩, rfl⟩ (by
      rintro i E S hi ⟨⟨y1, y2, y3, y4, y5, y6, y7, y8, y9, rfl⟩, rfl⟩
      obtain ⟨w1, w2, w3, w4, w5, w6, w7, w8, w9, h⟩ := law_turn ns i (by omega) y1 y2 y3 y4 y5 y6 y7 y8 y9
      exact ⟨_, _, .inl h, ⟨_, _, _, _, _, _, _, _, _, rfl⟩, rfl⟩)
  have hs : small62 (m : Int) := small62_nat (by omega)
  rw [show (6 : Nat) = 5 + 1 from rfl, T_law]
  unfold b_law
  walk_at "ev"
  rw [hm]
  walk_at "ev*"
end Law
open PySem PySem.W PySem.Calls PyProof.Rows
set_option maxRecDepth 100000 in
set_option maxHeartbeats 0 in
theorem PySem.Challenge.cw_cardwright_k03_cutting_and_rounding_holds : PySem.Challenge.rw_cardwright_k03_cutting_and_rounding.Holds := by
  w_on; o_law
  refine HandSHeadRun.head_any (r := OpenLaw.row PySem.Challenge.rw_cardwright_k03_cutting_and_rounding) (q := view (OpenLaw.row PySem.Challenge.rw_cardwright_k03_cutting_and_rounding).prog [17]) (H := Law.hk) (ob := Law.ob) (M := 1680) (loose := Law.loose) (d := HandSHeadRun.topDef (OpenLaw.row PySem.Challenge.rw_cardwright_k03_cutting_and_rounding).prog 17) (kwd := []) Law.ob_eq
    (by kernel_rfl) (fun s => by kernel_rfl) Law.run (by kernel_rfl) (by kernel_rfl) (by kernel_rfl) (by rfl) (by first | assumption | decide +kernel) (by decide +kernel) ⟨rfl, rfl, rfl, rfl, rfl, by decide +kernel⟩ ?hw ?hc
  case hw => w_witness2
  case hc =>
    refine PD.walk_W (l := PySem.Challenge.rw_cardwright_k03_cutting_and_rounding) (n := 63) (k := 5 + 1) (x := "script") (m := (Law.T (5 + 1)).law) rfl (by decide) (by kernel_rfl) ⟨rfl, by decide, by decide⟩ ?F Law.law_true
    intro w mg fa h Y G hmg0
    obtain ⟨K, KX, c, c2⟩ := Y
    have hmg : mg ("law" : PySem.Str) = some (.ref fa) := by
      have e : (HandSHeadRun.topDef (OpenLaw.row PySem.Challenge.rw_cardwright_k03_cutting_and_rounding).prog 17).name = ("law" : PySem.Str) := by kernel_rfl
      rw [← e]
      exact hmg0
    have x := Law.facts KX G c c2
    obtain ⟨fd, F⟩ := c.def_ 12 (d := Law.e_law) rfl
    refine ⟨K, fd, KX, fun s u => L2.FunD.bindsA (ps := ["script"]) F (fun _ _ _ _ _ _ us hl => match us, hl with | [_], _ => rfl) s [u] rfl, fun base _ _ => ?_⟩
    exact PD.law_fn F (He.glo_ok KX G (c.fact 12 rfl)) hmg Law.sc_law fun f cdv A outer s H E hr => Law.d_law (Law.gs_all x 5) hr
#print axioms PySem.Challenge.cw_cardwright_k03_cutting_and_rounding_holds
