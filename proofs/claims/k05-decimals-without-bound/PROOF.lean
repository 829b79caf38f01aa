import PyProof.Rows.All
import Wide.All
import OpenK.AllK
import Wide.FinOn
import HandS.ForMost
import HandS.ForExc
import HandS.Wide
import HandS.WideMore
import HandS.Defaults
import HandS.CallSlots
import HandS.IsInst
import HandS.Flow
import HandS.TupAny
import HandS.StrMore
import HandS.HeadHook2
import KE.KStateDown
import Lean
import HandS.Head0
import HandS.Head1
import HandS.Head2
import HandS.HeadEnd
import HandS.HeadHook1
import HandS.WordsExc
import HandS.TryOnly
import HandS.ExcIs
import HandS.ExcField
import HandS.Codes
import HandS.Style
import HandS.StrSplit
import PyProof.StrBlock2
import PyProof.StrOps2
import PyProof.Rows.StrPadWhole
import HandS.Comp
import HandS.Iter
import HandS.Deep
import PySem.Challenge.RW_cardwright_k05_decimals_without_bound
set_option Elab.async false
set_option linter.all false
set_option maxRecDepth 100000
set_option maxHeartbeats 4000000
/-! PyD: values as plain data, a store that is counted, defs as plain functions. -/
namespace PD
open PySem PySem.Spec PyProof.Rows L2

abbrev Tx := List Nat
/-- a size within the line; no decision of it is ever run -/
def sizeOk (n : Nat) : Prop := n ≤ sizeLine
/-- plain data; loc n: the n-th thing of the store -/
inductive D where
  | non | bl (b : Bool) | int (i : Int) | str (x : Tx) | tup (xs : List D) | lst (xs : List D) | fz (xs : List D) | loc (n : Nat) | ty (n : String) | glo (x : String) | exo
inductive Ob where
  | lst (xs : List D)
  | dic (kvs : List (Key × D))
  | set (S : Int → Bool) (n : Nat)
  | ins (c : Str) (fs : List (Str × D))
abbrev Sto := List Ob
/-- an error's class -/
inductive Cl where
  | own (x : String) | bi (n : String)
structure Exn where
  cls : Cl
  fs : Option (List (Str × D))
inductive Out (α : Type) where
  | ok (a : α) (S : Sto)
  | ex (e : Exn) (S : Sto)
  | bad
def Out.bind {α β : Type} : Out α → (α → Sto → Out β) → Out β
  | .ok a S, f => f a S
  | .ex e S, _ => .ex e S
  | .bad, _ => .bad
@[simp] theorem bind_ok {α β : Type} (a : α) (S : Sto) (f : α → Sto → Out β) : (Out.ok a S).bind f = f a S := rfl
@[simp] theorem bind_ex {α β : Type} (e : Exn) (S : Sto) (f : α → Sto → Out β) : (Out.ex e S).bind f = .ex e S := rfl
@[simp] theorem bind_bad {α β : Type} (f : α → Sto → Out β) : (Out.bad : Out α).bind f = .bad := rfl
abbrev Evn := List (Option D)
abbrev ME := Evn → Sto → Out D
abbrev MT := Evn → Sto → Out Bool
abbrev MA := Evn → Sto → Out (List D)
/-- a def's own meaning -/
abbrev MF := List D → Sto → Out D
inductive SO where
  | nx (E : Evn) (S : Sto)
  | rt (d : D) (S : Sto)
  | bk (E : Evn) (S : Sto)
  | ct (E : Evn) (S : Sto)
  | ex (e : Exn) (E : Evn) (S : Sto)
  | bad
abbrev MS := Evn → Sto → SO
def Out.toS {α : Type} (E : Evn) : Out α → (α → Sto → SO) → SO
  | .ok a S, f => f a S
  | .ex e S, _ => .ex e E S
  | .bad, _ => .bad
@[simp] theorem toS_ok {α : Type} (E : Evn) (a : α) (S : Sto) (f : α → Sto → SO) : (Out.ok a S).toS E f = f a S := rfl
@[simp] theorem toS_ex {α : Type} (E : Evn) (e : Exn) (S : Sto) (f : α → Sto → SO) : (Out.ex e S).toS E f = .ex e E S := rfl
@[simp] theorem toS_bad {α : Type} (E : Evn) (f : α → Sto → SO) : (Out.bad : Out α).toS E f = .bad := rfl

/-! ### what the data stand for -/
def KL (K : PySem.W.Frag) (a : Addr) (xs : List V) : Prop :=
  ∃ (o : Obj) (its : Array Value) (n : Nat), K.lookup a = some o ∧ o.cls = .type "list" ∧ o.dict = none ∧ o.data = .seq its n ∧ its.size ≤ sizeLine ∧ Vals xs its.toList
def LstP (ρ : List Addr) (H : Hp) (a : Addr) (vs : List V) : Prop := a ∉ ρ ∧ H a = some (.lst vs)
/-- a list that is locked, or stands in the written part -/
def FzP (K : PySem.W.Frag) (H : Hp) (a : Addr) (vs : List V) : Prop := (∃ o, H a = some (.frz o (.lst vs))) ∨ KL K a vs
def sv (x : Tx) : V := .str ⟨x.toArray⟩
mutual
def DV (K : PySem.W.Frag) (ρ : List Addr) (H : Hp) : D → V → Prop
  | .non, v => v = .non
  | .bl b, v => v = .bl b
  | .int i, v => v = .int i
  | .str x, v => v = sv x
  | .tup xs, v => ∃ a vs, v = .ref a ∧ SqT K H a vs ∧ DVs K ρ H xs vs
  | .lst xs, v => ∃ a vs, v = .ref a ∧ LstP ρ H a vs ∧ DVs K ρ H xs vs
  | .fz xs, v => ∃ a vs, v = .ref a ∧ FzP K H a vs ∧ DVs K ρ H xs vs
  | .loc n, v => ∃ a, v = .ref a ∧ ρ[n]? = some a
  | .ty n, v => v = .ty n
  | .glo x, v => v = .ref (He.ga K x)
  | .exo, v => ∃ a, v = .ref a
def DVs (K : PySem.W.Frag) (ρ : List Addr) (H : Hp) : List D → List V → Prop
  | [], vs => vs = []
  | x :: xs, vs => ∃ v r, vs = v :: r ∧ DV K ρ H x v ∧ DVs K ρ H xs r
end
/-- the world goes on -/
structure Ext (K : PySem.W.Frag) (ρ : List Addr) (H : Hp) (ρ' : List Addr) (H' : Hp) : Prop where
  pre : ∃ t, ρ' = ρ ++ t
  tup : ∀ a vs, SqT K H a vs → SqT K H' a vs
  lst : ∀ a vs, a ∉ ρ → H a = some (.lst vs) → a ∉ ρ' ∧ H' a = some (.lst vs)
  fz : ∀ a o vs, H a = some (.frz o (.lst vs)) → H' a = some (.frz o (.lst vs))
  xd : ∀ a fs, H a = some (.xd fs) → H' a = some (.xd fs)
theorem Ext.refl {K : PySem.W.Frag} {ρ : List Addr} {H : Hp} : Ext K ρ H ρ H := ⟨⟨[], by simp⟩, fun _ _ h => h, fun _ _ h g => ⟨h, g⟩, fun _ _ _ h => h, fun _ _ h => h⟩
theorem Ext.trans {K : PySem.W.Frag} {ρ ρ1 ρ2 : List Addr} {H H1 H2 : Hp} (a : Ext K ρ H ρ1 H1) (b : Ext K ρ1 H1 ρ2 H2) : Ext K ρ H ρ2 H2 := by
  obtain ⟨t, rfl⟩ := a.pre
  obtain ⟨u, rfl⟩ := b.pre
  refine ⟨⟨t ++ u, by simp⟩, fun x vs h => b.tup x vs (a.tup x vs h), fun x vs h g => ?_, fun x o vs h => b.fz x o vs (a.fz x o vs h), fun x fs h => b.xd x fs (a.xd x fs h)⟩
  obtain ⟨h1, g1⟩ := a.lst x vs h g
  exact b.lst x vs h1 g1
theorem LstP.mono {K : PySem.W.Frag} {ρ ρ' : List Addr} {H H' : Hp} (e : Ext K ρ H ρ' H') {a : Addr} {vs : List V} (h : LstP ρ H a vs) : LstP ρ' H' a vs := e.lst a vs h.1 h.2
theorem LstP.seq {K : PySem.W.Frag} {ρ : List Addr} {H : Hp} {a : Addr} {vs : List V} (h : LstP ρ H a vs) : SqL K H a vs := SqL.of h.2
theorem FzP.mono {K : PySem.W.Frag} {ρ ρ' : List Addr} {H H' : Hp} (e : Ext K ρ H ρ' H') {a : Addr} {vs : List V} (h : FzP K H a vs) : FzP K H' a vs := by
  rcases h with ⟨o, h⟩ | h
  · exact .inl ⟨o, e.fz a o vs h⟩
  · exact .inr h
theorem FzP.seq {K : PySem.W.Frag} {H : Hp} {a : Addr} {vs : List V} (h : FzP K H a vs) : SqL K H a vs := by
  rcases h with ⟨o, h⟩ | h
  · exact .inl (.inr ⟨o, h⟩)
  · exact .inr h
theorem FzP.of {K : PySem.W.Frag} {H : Hp} {a : Addr} {vs : List V} (h : SqL K H a vs) : (∃ o, H a = some (.frz o (.lst vs))) ∨ KL K a vs ∨ H a = some (.lst vs) := by
  rcases h with (h | ⟨o, h⟩) | h
  · exact .inr (.inr h)
  · exact .inl ⟨o, h⟩
  · exact .inr (.inl h)
mutual
theorem DV.mono {K : PySem.W.Frag} {ρ ρ' : List Addr} {H H' : Hp} (e : Ext K ρ H ρ' H') : ∀ (d : D) (v : V), DV K ρ H d v → DV K ρ' H' d v
  | .non, _, h => by simp only [DV] at h ⊢; exact h
  | .bl _, _, h => by simp only [DV] at h ⊢; exact h
  | .int _, _, h => by simp only [DV] at h ⊢; exact h
  | .str _, _, h => by simp only [DV] at h ⊢; exact h
  | .ty _, _, h => by simp only [DV] at h ⊢; exact h
  | .glo _, _, h => by simp only [DV] at h ⊢; exact h
  | .exo, _, h => by simp only [DV] at h ⊢; exact h
  | .tup xs, _, h => by
    simp only [DV] at h ⊢
    obtain ⟨a, vs, rfl, h1, h2⟩ := h
    exact ⟨a, vs, rfl, e.tup _ _ h1, DVs.mono e xs vs h2⟩
  | .lst xs, _, h => by
    simp only [DV] at h ⊢
    obtain ⟨a, vs, rfl, h1, h2⟩ := h
    exact ⟨a, vs, rfl, h1.mono e, DVs.mono e xs vs h2⟩
  | .fz xs, _, h => by
    simp only [DV] at h ⊢
    obtain ⟨a, vs, rfl, h1, h2⟩ := h
    exact ⟨a, vs, rfl, h1.mono e, DVs.mono e xs vs h2⟩
  | .loc n, _, h => by
    simp only [DV] at h ⊢
    obtain ⟨a, rfl, h1⟩ := h
    obtain ⟨t, rfl⟩ := e.pre
    exact ⟨a, rfl, by rw [List.getElem?_append_left (List.getElem?_eq_some_iff.mp h1).1]; exact h1⟩
theorem DVs.mono {K : PySem.W.Frag} {ρ ρ' : List Addr} {H H' : Hp} (e : Ext K ρ H ρ' H') : ∀ (ds : List D) (vs : List V), DVs K ρ H ds vs → DVs K ρ' H' ds vs
  | [], _, h => by simp only [DVs] at h ⊢; exact h
  | x :: xs, _, h => by
    simp only [DVs] at h ⊢
    obtain ⟨v, r, rfl, h1, h2⟩ := h
    exact ⟨v, r, rfl, DV.mono e x v h1, DVs.mono e xs r h2⟩
end
theorem DVs.length {K : PySem.W.Frag} {ρ : List Addr} {H : Hp} : ∀ {ds : List D} {vs : List V}, DVs K ρ H ds vs → ds.length = vs.length
  | [], _, h => by simp only [DVs] at h; subst h; rfl
  | x :: xs, _, h => by
    simp only [DVs] at h
    obtain ⟨v, r, rfl, h1, h2⟩ := h
    simp [DVs.length h2]
theorem DVs.get {K : PySem.W.Frag} {ρ : List Addr} {H : Hp} : ∀ {ds : List D} {vs : List V} {i : Nat} {d : D}, DVs K ρ H ds vs → ds[i]? = some d → ∃ v, vs[i]? = some v ∧ DV K ρ H d v
  | [], _, _, _, _, e => by simp at e
  | x :: xs, _, i, d, h, e => by
    simp only [DVs] at h
    obtain ⟨v, r, rfl, h1, h2⟩ := h
    cases i with
    | zero => simp at e; subst e; exact ⟨v, rfl, h1⟩
    | succ i =>
      obtain ⟨u, q1, q2⟩ := DVs.get (i := i) (d := d) h2 (by simpa using e)
      exact ⟨u, by simpa using q1, q2⟩
theorem DVs.getV {K : PySem.W.Frag} {ρ : List Addr} {H : Hp} {ds : List D} {vs : List V} {i : Nat} {v : V} (h : DVs K ρ H ds vs) (e : vs[i]? = some v) : ∃ d, ds[i]? = some d ∧ DV K ρ H d v := by
  have hl := h.length
  have hi : i < vs.length := (List.getElem?_eq_some_iff.mp e).1
  obtain ⟨u, q1, q2⟩ := h.get (i := i) (d := ds[i]'(by omega)) (List.getElem?_eq_getElem _)
  rw [e] at q1
  cases q1
  exact ⟨_, List.getElem?_eq_getElem _, q2⟩
theorem DVs.append {K : PySem.W.Frag} {ρ : List Addr} {H : Hp} : ∀ {ds es : List D} {vs us : List V}, DVs K ρ H ds vs → DVs K ρ H es us → DVs K ρ H (ds ++ es) (vs ++ us)
  | [], _, _, _, h, g => by simp only [DVs] at h; subst h; simpa using g
  | x :: xs, _, _, _, h, g => by
    simp only [DVs] at h
    obtain ⟨v, r, rfl, h1, h2⟩ := h
    simp only [List.cons_append, DVs]
    exact ⟨v, _, rfl, h1, DVs.append h2 g⟩
theorem DVs.take {K : PySem.W.Frag} {ρ : List Addr} {H : Hp} : ∀ {ds : List D} {vs : List V} (n : Nat), DVs K ρ H ds vs → DVs K ρ H (ds.take n) (vs.take n)
  | _, _, 0, _ => by simp [DVs]
  | [], _, n + 1, h => by simp only [DVs] at h; subst h; simp [DVs]
  | x :: xs, _, n + 1, h => by
    simp only [DVs] at h
    obtain ⟨v, r, rfl, h1, h2⟩ := h
    simp only [List.take_succ_cons, DVs]
    exact ⟨v, _, rfl, h1, DVs.take n h2⟩
theorem DVs.drop {K : PySem.W.Frag} {ρ : List Addr} {H : Hp} : ∀ {ds : List D} {vs : List V} (n : Nat), DVs K ρ H ds vs → DVs K ρ H (ds.drop n) (vs.drop n)
  | _, _, 0, h => by simpa using h
  | [], _, n + 1, h => by simp only [DVs] at h; subst h; simp [DVs]
  | x :: xs, _, n + 1, h => by
    simp only [DVs] at h
    obtain ⟨v, r, rfl, h1, h2⟩ := h
    simpa using DVs.drop n h2
theorem DVs.set {K : PySem.W.Frag} {ρ : List Addr} {H : Hp} {d : D} {v : V} (q : DV K ρ H d v) : ∀ {ds : List D} {vs : List V} (n : Nat), DVs K ρ H ds vs → DVs K ρ H (ds.set n d) (vs.set n v)
  | [], _, _, h => by simp only [DVs] at h; subst h; simp [DVs]
  | x :: xs, _, 0, h => by
    simp only [DVs] at h
    obtain ⟨w, r, rfl, h1, h2⟩ := h
    simp only [List.set_cons_zero, DVs]
    exact ⟨v, r, rfl, q, h2⟩
  | x :: xs, _, n + 1, h => by
    simp only [DVs] at h
    obtain ⟨w, r, rfl, h1, h2⟩ := h
    simp only [List.set_cons_succ, DVs]
    exact ⟨w, _, rfl, h1, DVs.set q n h2⟩
theorem DVs.reverse {K : PySem.W.Frag} {ρ : List Addr} {H : Hp} : ∀ {ds : List D} {vs : List V}, DVs K ρ H ds vs → DVs K ρ H ds.reverse vs.reverse
  | [], _, h => by simp only [DVs] at h; subst h; simp [DVs]
  | x :: xs, _, h => by
    simp only [DVs] at h
    obtain ⟨w, r, rfl, h1, h2⟩ := h
    simp only [List.reverse_cons]
    exact (DVs.reverse h2).append (by simp only [DVs]; exact ⟨w, [], rfl, h1, rfl⟩)
theorem DVs.one {K : PySem.W.Frag} {ρ : List Addr} {H : Hp} {d : D} {v : V} (h : DV K ρ H d v) : DVs K ρ H [d] [v] := by simp only [DVs]; exact ⟨v, [], rfl, h, rfl⟩

/-- what stands at a place of the store -/
def OR (K : PySem.W.Frag) (ρ : List Addr) (H : Hp) (a : Addr) : Ob → Prop
  | .lst xs => ∃ vs, H a = some (.lst vs) ∧ DVs K ρ H xs vs
  | .dic kvs => ∃ vs : List V, H a = some (.dK ((kvs.map (·.1)).zip vs)) ∧ DVs K ρ H (kvs.map (·.2)) vs
  | .set S n => H a = some (.set S n)
  | .ins c fs => ∃ dx vs, H a = some (.ins (He.ga K c) dx ((fs.map (·.1)).zip vs)) ∧ DVs K ρ H (fs.map (·.2)) vs
structure Rel (K : PySem.W.Frag) (ρ : List Addr) (S : Sto) (H : Hp) : Prop where
  len : ρ.length = S.length
  nd : ρ.Nodup
  at_ : ∀ (n : Nat) (o : Ob) (a : Addr), S[n]? = some o → ρ[n]? = some a → OR K ρ H a o
/-- an error as it lies -/
def Cl.val (K : PySem.W.Frag) : Cl → Value
  | .own x => .ref (He.ga K x)
  | .bi n => .type n
def XR (K : PySem.W.Frag) (ρ : List Addr) (H : Hp) (e : Exn) (c : Value) (dx : Option Addr) : Prop :=
  c = e.cls.val K ∧ match e.fs with
    | none => dx = none
    | some fs => ∃ d vs, dx = some d ∧ H d = some (.xd ((fs.map (·.1)).zip vs)) ∧ DVs K ρ H (fs.map (·.2)) vs
abbrev XQ := Value → Option Addr → Hp → Prop
/-- how an outcome lies in the heap -/
def Post {α β : Type} (K : PySem.W.Frag) (R : List Addr → Hp → α → β → Prop) (ρ : List Addr) (H : Hp) (Q : β → Hp → Prop) (Z : XQ) : Out α → Prop
  | .ok d S' => ∀ ρ' H' v, Rel K ρ' S' H' → Ext K ρ H ρ' H' → R ρ' H' d v → Q v H'
  | .ex e S' => ∀ ρ' H' c dx, Rel K ρ' S' H' → Ext K ρ H ρ' H' → XR K ρ' H' e c dx → Z c dx H'
  | .bad => False
theorem Post.start {α β : Type} {K : PySem.W.Frag} {R : List Addr → Hp → α → β → Prop} {ρ ρ1 : List Addr} {H H1 : Hp} {Q : β → Hp → Prop} {Z : XQ} {o : Out α} (h : Post K R ρ H Q Z o) (e : Ext K ρ H ρ1 H1) : Post K R ρ1 H1 Q Z o := by
  cases o with
  | ok d S => exact fun ρ' H' v r x => h ρ' H' v r (e.trans x)
  | ex d S => exact fun ρ' H' c dx r x => h ρ' H' c dx r (e.trans x)
  | bad => exact h
theorem Post.imp {α β : Type} {K : PySem.W.Frag} {R : List Addr → Hp → α → β → Prop} {ρ : List Addr} {H : Hp} {Q Q' : β → Hp → Prop} {Z : XQ} {o : Out α} (h : Post K R ρ H Q Z o) (i : ∀ v H', Q v H' → Q' v H') : Post K R ρ H Q' Z o := by
  cases o with
  | ok d S => exact fun ρ' H' v r x y => i _ _ (h ρ' H' v r x y)
  | ex d S => exact h
  | bad => exact h
theorem Post.bind {α β γ δ : Type} {K : PySem.W.Frag} {R : List Addr → Hp → α → β → Prop} {R2 : List Addr → Hp → γ → δ → Prop} {ρ : List Addr} {H : Hp} {Q : δ → Hp → Prop} {Z : XQ} {o : Out α} {f : α → Sto → Out γ} (h : Post K R2 ρ H Q Z (o.bind f)) :
    Post K R ρ H (fun v H1 => ∃ ρ1 S1 d, Rel K ρ1 S1 H1 ∧ Ext K ρ H ρ1 H1 ∧ R ρ1 H1 d v ∧ Post K R2 ρ1 H1 Q Z (f d S1)) Z o := by
  cases o with
  | ok d S => exact fun ρ' H' v r x y => ⟨ρ', S, d, r, x, y, Post.start h x⟩
  | ex d S => exact h
  | bad => exact h
/-- what is wanted of an error; what holds meanwhile -/
structure WW (K : PySem.W.Frag) where
  w : WX
  g : List Addr → Hp → Prop
  gm : ∀ ρ H ρ' H', Ext K ρ H ρ' H' → g ρ H → g ρ' H'
  /-- a name that holds a caught error, where there is one: nothing is stored meanwhile -/
  fix : Option (Nat × Addr)
def WW.of {K : PySem.W.Frag} (w : WX) : WW K := ⟨w, fun _ _ => True, fun _ _ _ _ _ _ => trivial, none⟩
theorem XR.mono {K : PySem.W.Frag} {ρ ρ' : List Addr} {H H' : Hp} (x : Ext K ρ H ρ' H') {e : Exn} {c : Value} {dx : Option Addr} (h : XR K ρ H e c dx) : XR K ρ' H' e c dx := by
  obtain ⟨h1, h2⟩ := h
  refine ⟨h1, ?_⟩
  cases q : e.fs with
  | none => rw [q] at h2; exact h2
  | some fs =>
    rw [q] at h2
    obtain ⟨d, vs, a1, a2, a3⟩ := h2
    exact ⟨d, vs, a1, x.xd _ _ a2, DVs.mono x _ _ a3⟩
def ER (K : PySem.W.Frag) (W : WW K) (ρ : List Addr) (H : Hp) (E : Evn) (σ : L2.St) : Prop := W.g ρ H ∧ (∀ i a, W.fix = some (i, a) → σ[i]? = some (some (.ref a))) ∧ E.length = σ.length ∧ ∀ (i : Nat) (d : D), E[i]? = some (some d) → ∃ v, σ[i]? = some (some v) ∧ DV K ρ H d v
theorem ER.mono {K : PySem.W.Frag} {W : WW K} {ρ ρ' : List Addr} {H H' : Hp} (e : Ext K ρ H ρ' H') {E : Evn} {σ : L2.St} (h : ER K W ρ H E σ) : ER K W ρ' H' E σ :=
  ⟨W.gm _ _ _ _ e h.1, h.2.1, h.2.2.1, fun i d q => let ⟨v, a, b⟩ := h.2.2.2 i d q; ⟨v, a, DV.mono e d v b⟩⟩
theorem ER.set {K : PySem.W.Frag} {W : WW K} {ρ : List Addr} {H : Hp} {E : Evn} {σ : L2.St} (hw : W.fix = none) (h : ER K W ρ H E σ) (i : Nat) {d : D} {v : V} (q : DV K ρ H d v) : ER K W ρ H (E.set i (some d)) (σ.set i (some v)) := by
  refine ⟨h.1, fun j a z => (by rw [hw] at z; cases z), by simpa using h.2.2.1, fun j u e => ?_⟩
  by_cases hj : i = j
  · subst hj
    have hl : i < E.length := by
      have := (List.getElem?_eq_some_iff.mp e).1
      simpa using this
    rw [List.getElem?_set_self hl] at e
    cases e
    exact ⟨v, by rw [List.getElem?_set_self (by have := h.2.2.1; omega)], q⟩
  · rw [List.getElem?_set_ne hj] at e
    obtain ⟨w, a, b⟩ := h.2.2.2 j u e
    exact ⟨w, by rw [List.getElem?_set_ne hj]; exact a, b⟩
theorem ER.unset {K : PySem.W.Frag} {W : WW K} {ρ : List Addr} {H : Hp} {E : Evn} {σ : L2.St} (hw : W.fix = none) (h : ER K W ρ H E σ) (i : Nat) : ER K W ρ H (E.set i none) (σ.set i none) := by
  refine ⟨h.1, fun j a z => (by rw [hw] at z; cases z), by simpa using h.2.2.1, fun j u e => ?_⟩
  by_cases hj : i = j
  · subst hj
    by_cases hl : i < E.length
    · rw [List.getElem?_set_self hl] at e; cases e
    · rw [List.getElem?_eq_none (by simpa using hl)] at e; cases e
  · rw [List.getElem?_set_ne hj] at e
    obtain ⟨w, a, b⟩ := h.2.2.2 j u e
    exact ⟨w, by rw [List.getElem?_set_ne hj]; exact a, b⟩
theorem ER.wish {K : PySem.W.Frag} {W W' : WW K} {ρ : List Addr} {H : Hp} {E : Evn} {σ : L2.St} (h : ER K W ρ H E σ) (g : W'.g ρ H) (f : ∀ i a, W'.fix = some (i, a) → σ[i]? = some (some (.ref a))) : ER K W' ρ H E σ := ⟨g, f, h.2.2⟩
/-- the readings -/
def tE (K : PySem.W.Frag) (W : WW K) (m : ME) : TE := fun σ H Q => ∃ ρ S E, Rel K ρ S H ∧ ER K W ρ H E σ ∧ Post K (DV K) ρ H Q (fun c dx H' => W.w c dx σ H') (m E S)
def tT (K : PySem.W.Frag) (W : WW K) (m : MT) : TT := fun σ H Q => ∃ ρ S E, Rel K ρ S H ∧ ER K W ρ H E σ ∧ Post K (fun _ _ (b c : Bool) => b = c) ρ H Q (fun c dx H' => W.w c dx σ H') (m E S)
def tA (K : PySem.W.Frag) (W : WW K) (m : MA) : TA := fun σ H Q => ∃ ρ S E, Rel K ρ S H ∧ ER K W ρ H E σ ∧ Post K (DVs K) ρ H Q (fun c dx H' => W.w c dx σ H') (m E S)
def SPost (K : PySem.W.Frag) (W : WW K) (ρ : List Addr) (H : Hp) (D : Ends) : SO → Prop
  | .nx E' S' => ∀ ρ' H' σ', Rel K ρ' S' H' → Ext K ρ H ρ' H' → ER K W ρ' H' E' σ' → D.nx σ' H'
  | .bk E' S' => ∀ ρ' H' σ', Rel K ρ' S' H' → Ext K ρ H ρ' H' → ER K W ρ' H' E' σ' → D.bk σ' H'
  | .ct E' S' => ∀ ρ' H' σ', Rel K ρ' S' H' → Ext K ρ H ρ' H' → ER K W ρ' H' E' σ' → D.ct σ' H'
  | .rt d S' => ∀ ρ' H' v, Rel K ρ' S' H' → Ext K ρ H ρ' H' → DV K ρ' H' d v → D.rt v H'
  | .ex e E' S' => ∀ ρ' H' σ' c dx, Rel K ρ' S' H' → Ext K ρ H ρ' H' → ER K W ρ' H' E' σ' → XR K ρ' H' e c dx → W.w c dx σ' H'
  | .bad => False
theorem SPost.start {K : PySem.W.Frag} {W : WW K} {ρ ρ1 : List Addr} {H H1 : Hp} {D : Ends} {o : SO} (h : SPost K W ρ H D o) (e : Ext K ρ H ρ1 H1) : SPost K W ρ1 H1 D o := by
  cases o with
  | nx E S => exact fun ρ' H' σ' r x => h ρ' H' σ' r (e.trans x)
  | bk E S => exact fun ρ' H' σ' r x => h ρ' H' σ' r (e.trans x)
  | ct E S => exact fun ρ' H' σ' r x => h ρ' H' σ' r (e.trans x)
  | rt d S => exact fun ρ' H' v r x => h ρ' H' v r (e.trans x)
  | ex d E S => exact fun ρ' H' σ' c dx r x => h ρ' H' σ' c dx r (e.trans x)
  | bad => exact h
def tS (K : PySem.W.Frag) (W : WW K) (m : MS) : TS := fun D σ H => ∃ ρ S E, Rel K ρ S H ∧ ER K W ρ H E σ ∧ SPost K W ρ H D (m E S)
/-- from an expression's outcome to a statement's -/
theorem SPost.bind {α β : Type} {K : PySem.W.Frag} {W : WW K} {R : List Addr → Hp → α → β → Prop} {ρ : List Addr} {H : Hp} {D : Ends} {E : Evn} {σ : L2.St} {o : Out α} {f : α → Sto → SO} (er : ER K W ρ H E σ) (h : SPost K W ρ H D (o.toS E f)) :
    Post K R ρ H (fun v H1 => ∃ ρ1 S1 d, Rel K ρ1 S1 H1 ∧ Ext K ρ H ρ1 H1 ∧ R ρ1 H1 d v ∧ SPost K W ρ1 H1 D (f d S1)) (fun c dx H' => W.w c dx σ H') o := by
  cases o with
  | ok d S => exact fun ρ' H' v r x y => ⟨ρ', S, d, r, x, y, SPost.start h x⟩
  | ex d S => exact fun ρ' H' c dx r x y => h ρ' H' σ c dx r x (er.mono x) y
  | bad => exact h
/-! the judgements -/
def ED (X : Cx) (W : WW X.K) (e : Expr) (m : ME) : Prop := PE X e (tE X.K W m)
def TD (X : Cx) (W : WW X.K) (e : Expr) (m : MT) : Prop := PT X e (tT X.K W m)
def WD (X : Cx) (W : WW X.K) (e : Expr) (m : MT) : Prop := PW X e (tT X.K W m)
def AD (X : Cx) (W : WW X.K) (es : List Expr) (m : MA) : Prop := PA X es (tA X.K W m)
def SD (X : Cx) (W : WW X.K) (st : Stmt) (m : MS) : Prop := PS X st (tS X.K W m)
def BD (X : Cx) (W : WW X.K) (st : List Stmt) (m : MS) : Prop := PSs X st (tS X.K W m)
theorem PE.imp {X : Cx} {e : Expr} {t t' : TE} (h : PE X e t) (i : ∀ σ H Q, t' σ H Q → t σ H Q) : PE X e t' := ⟨fun pins s σ H Q I q => h.run pins s σ H Q I (i _ _ _ q)⟩
theorem PT.imp {X : Cx} {e : Expr} {t t' : TT} (h : PT X e t) (i : ∀ σ H Q, t' σ H Q → t σ H Q) : PT X e t' := ⟨fun pins s σ H Q I q => h.run pins s σ H Q I (i _ _ _ q)⟩
theorem PW.imp {X : Cx} {e : Expr} {t t' : TT} (h : PW X e t) (i : ∀ σ H Q, t' σ H Q → t σ H Q) : PW X e t' := ⟨fun wh pins s σ H Q I q => h.run wh pins s σ H Q I (i _ _ _ q)⟩
theorem PA.imp {X : Cx} {e : List Expr} {t t' : TA} (h : PA X e t) (i : ∀ σ H Q, t' σ H Q → t σ H Q) : PA X e t' := ⟨fun pos pins s σ H Q I q => h.run pos pins s σ H Q I (i _ _ _ q)⟩
theorem PS.imp {X : Cx} {e : Stmt} {t t' : TS} (h : PS X e t) (i : ∀ D σ H, t' D σ H → t D σ H) : PS X e t' := ⟨fun pins s σ H Q I q => h.run pins s σ H Q I (i _ _ _ q)⟩
theorem PSs.imp {X : Cx} {e : List Stmt} {t t' : TS} (h : PSs X e t) (i : ∀ D σ H, t' D σ H → t D σ H) : PSs X e t' := ⟨fun pins s σ H Q I q => h.run pins s σ H Q I (i _ _ _ q)⟩
theorem PI.imp {X : Cx} {tg e : Expr} {t t' : TI} (h : PI X tg e t) (i : ∀ σ H Q, t' σ H Q → t σ H Q) : PI X tg e t' := ⟨fun pins s σ H Q I q => h.run pins s σ H Q I (i _ _ _ q)⟩
end PD

/-! PyD1: expressions. -/
namespace PD
open PySem PySem.Spec PyProof.Rows L2

/-! ### names, constants -/
def mVar (i : Nat) : ME := fun E S => match E[i]? with
  | some (some d) => .ok d S
  | _ => .bad
def mC (d : D) : ME := fun _ S => .ok d S
section
variable {X : Cx} {W : WW X.K} {pos : Pos}
theorem ed_of {e : Expr} {t : TE} {m : ME} (h : PE X e t) (i : ∀ σ H Q ρ S E, Rel X.K ρ S H → ER X.K W ρ H E σ → Post X.K (DV X.K) ρ H Q (fun c dx H' => W.w c dx σ H') (m E S) → t σ H Q) : ED X W e m :=
  PE.imp h fun σ H Q ⟨ρ, S, E, r, er, p⟩ => i σ H Q ρ S E r er p
theorem ed_var {i : Nat} {e : Expr} (h : PE X e (tVar i)) : ED X W e (mVar i) := by
  refine ed_of h fun σ H Q ρ S E r er p => ?_
  unfold mVar at p
  cases q : E[i]? with
  | none => rw [q] at p; exact p.elim
  | some o =>
    cases o with
    | none => rw [q] at p; exact p.elim
    | some d =>
      rw [q] at p
      obtain ⟨v, a, b⟩ := er.2.2.2 i d q
      exact ⟨v, a, p ρ H v r Ext.refl b⟩
theorem ed_c {e : Expr} {v : V} {d : D} (h : PE X e (tC v)) (hd : ∀ ρ H, DV X.K ρ H d v) : ED X W e (mC d) :=
  ed_of h fun σ H Q ρ S E r er p => p ρ H v r Ext.refl (hd ρ H)
theorem ed_int {i : Int} {j : Nat} : ED X W (.Constant (.int i) j pos) (mC (.int i)) := ed_c pe_int fun _ _ => by simp [DV]
theorem ed_bl {b : Bool} {j : Nat} : ED X W (.Constant (.bool b) j pos) (mC (.bl b)) := ed_c pe_bl fun _ _ => by simp [DV]
theorem ed_non {j : Nat} : ED X W (.Constant .none j pos) (mC .non) := ed_c pe_non fun _ _ => by simp [DV]
theorem ed_str {x : Str} {j : Nat} {c : Tx} (hc : x = ⟨c.toArray⟩) : ED X W (.Constant (.str x) j pos) (mC (.str c)) := ed_c pe_str fun _ _ => by simp [DV, sv, hc]
/-- an object of the module's top by its name -/
theorem ed_glo {x : String} (hg : Gl X (x : Str)) (hm : X.mg (x : Str) = some (.ref (He.ga X.K x))) (hd : ((x : Str) == ("__debug__" : Str)) = false := by decide) : ED X W (.Name (x : Str) pos) (mC (.glo x)) :=
  ed_c (pe_glob (v := .ref (He.ga X.K x)) hg hm rfl hd) fun _ _ => by simp [DV]
theorem ed_ty {x : Str} {n : String} (hg : Gl X x) (hm : X.mg x = none) (hv : bootBuiltins x = some (.type n)) (hn : x ≠ "__name__" := by decide) (hd : (x == ("__debug__" : Str)) = false := by decide) : ED X W (.Name x pos) (mC (.ty n)) :=
  ed_c (pe_bltn (v := .ty n) hg hm hv rfl hn hd) fun _ _ => by simp [DV]
/-- a constant of the module's top: GC says what it is -/
def GC (K : PySem.W.Frag) (mg : Str → Option Value) (x : Str) (d : D) : Prop := ∃ u v, mg x = some u ∧ RelV v u ∧ ∀ ρ H, DV K ρ H d v
theorem ed_gc {x : Str} {d : D} (hg : Gl X x) (h : GC X.K X.mg x d) (hd : (x == ("__debug__" : Str)) = false := by decide) : ED X W (.Name x pos) (mC d) := by
  obtain ⟨u, v, h1, h2, h3⟩ := h
  exact ed_c (pe_glob hg h1 h2 hd) h3
/-! ### two expressions in a row -/
def mBin (g : Sto → D → D → Option D) (a b : ME) : ME := fun E S => (a E S).bind fun x S1 => (b E S1).bind fun y S2 => match g S2 x y with
  | some d => .ok d S2
  | none => .bad
/-- an operator by plain data -/
def rP (K : PySem.W.Frag) (g : Sto → D → D → Option D) : R2 := fun x y H Q => ∃ ρ S dx dy d, Rel K ρ S H ∧ DV K ρ H dx x ∧ DV K ρ H dy y ∧ g S dx dy = some d ∧ ∀ ρ' H' v, Rel K ρ' S H' → Ext K ρ H ρ' H' → DV K ρ' H' d v → Q v H'
theorem post_opt {K : PySem.W.Frag} {ρ : List Addr} {H : Hp} {Q : V → Hp → Prop} {Z : XQ} {S : Sto} {o : Option D} (p : Post K (DV K) ρ H Q Z (match o with | some d => Out.ok d S | none => Out.bad)) :
    ∃ d, o = some d ∧ ∀ ρ' H' v, Rel K ρ' S H' → Ext K ρ H ρ' H' → DV K ρ' H' d v → Q v H' := by
  cases o with
  | none => exact p.elim
  | some d => exact ⟨d, rfl, p⟩
variable {a b : Expr} {ma mb : ME} {g : Sto → D → D → Option D}
theorem bin_read {r : R2} (hr : ∀ x y H Q, rP X.K g x y H Q → r x y H Q) : ∀ σ H Q ρ S E, Rel X.K ρ S H → ER X.K W ρ H E σ → Post X.K (DV X.K) ρ H Q (fun c dx H' => W.w c dx σ H') (mBin g ma mb E S) → tOp r (tE X.K W ma) (tE X.K W mb) σ H Q := by
  intro σ H Q ρ S E re er p
  refine ⟨ρ, S, E, re, er, (Post.bind (R := DV X.K) p).imp fun x H1 ⟨ρ1, S1, dx, r1, e1, d1, p1⟩ => ?_⟩
  refine ⟨ρ1, S1, E, r1, er.mono e1, (Post.bind (R := DV X.K) p1).imp fun y H2 ⟨ρ2, S2, dy, r2, e2, d2, p2⟩ => ?_⟩
  obtain ⟨d, hd, q⟩ := post_opt p2
  exact hr _ _ _ _ ⟨ρ2, S2, dx, dy, d, r2, DV.mono e2 _ _ d1, d2, hd, q⟩
theorem ed_bin {op : Operator} {r : R2} (ho : OpR X (binaryOp op) r) (hr : ∀ x y H Q, rP X.K g x y H Q → r x y H Q) (ha : ED X W a ma) (hb : ED X W b mb) : ED X W (.BinOp a op b pos) (mBin g ma mb) :=
  ed_of (pe_op ho ha hb) (bin_read hr)
theorem ed_cmp {op : CmpOp} {r : R2} (ho : OpR X (compareOp op) r) (hr : ∀ x y H Q, rP X.K g x y H Q → r x y H Q) (ha : ED X W a ma) (hb : ED X W b mb) (hm : behindInMarks op b = false) : ED X W (.Compare a [op] [b] pos) (mBin g ma mb) :=
  ed_of (pe_cmpR ho ha hb hm) (bin_read hr)
/-- the test of a comparison -/
def asB (m : ME) : MT := fun E S => (m E S).bind fun d S1 => match d with
  | .bl b => .ok b S1
  | _ => .bad
theorem td_of {e : Expr} {t : TT} {m : MT} (h : PT X e t) (i : ∀ σ H Q ρ S E, Rel X.K ρ S H → ER X.K W ρ H E σ → Post X.K (fun _ _ (b c : Bool) => b = c) ρ H Q (fun c dx H' => W.w c dx σ H') (m E S) → t σ H Q) : TD X W e m :=
  PT.imp h fun σ H Q ⟨ρ, S, E, r, er, p⟩ => i σ H Q ρ S E r er p
theorem asB_read {m : ME} {t : TE} (ht : ∀ σ H Q, tE X.K W m σ H Q → t σ H Q) : ∀ σ H Q ρ S E, Rel X.K ρ S H → ER X.K W ρ H E σ → Post X.K (fun _ _ (b c : Bool) => b = c) ρ H Q (fun c dx H' => W.w c dx σ H') (asB m E S) → t σ H (fun x H' => ∃ k, x = .bl k ∧ Q k H') := by
  intro σ H Q ρ S E r er p
  refine ht _ _ _ ⟨ρ, S, E, r, er, (Post.bind (R := DV X.K) p).imp fun x H1 ⟨ρ1, S1, d, r1, e1, d1, p1⟩ => ?_⟩
  cases d with
  | bl k =>
    simp only [DV] at d1
    exact ⟨k, d1, p1 ρ1 H1 k r1 Ext.refl rfl⟩
  | _ => exact p1.elim
theorem td_cmp {op : CmpOp} {r : R2} (ho : OpR X (compareOp op) r) (hr : ∀ x y H Q, rP X.K g x y H Q → r x y H Q) (ha : ED X W a ma) (hb : ED X W b mb) (hm : behindInMarks op b = false) : TD X W (.Compare a [op] [b] pos) (asB (mBin g ma mb)) :=
  td_of (pt_cmpR ho ha hb hm) (asB_read fun σ H Q ⟨ρ, S, E, r, er, p⟩ => bin_read hr σ H Q ρ S E r er p)
theorem td_val {e : Expr} {m : ME} (h : ED X W e m) (he : ∀ whole, isTrue e X.env whole = (do let v ← whole; standAt e.pos; holding [v] (truthy v)) := by intro _; rfl) : TD X W e (asB m) :=
  td_of (pt_val h he) (asB_read fun σ H Q q => q)
/-! and, or, not as tests -/
def mAnd (a b : MT) : MT := fun E S => (a E S).bind fun x S1 => if x = true then b E S1 else .ok false S1
def mOr (a b : MT) : MT := fun E S => (a E S).bind fun x S1 => if x = true then .ok true S1 else b E S1
def mNot (a : MT) : MT := fun E S => (a E S).bind fun x S1 => .ok (!x) S1
variable {ta tb : MT} {rest : List Expr}
theorem and_read : ∀ σ H Q ρ S E, Rel X.K ρ S H → ER X.K W ρ H E σ → Post X.K (fun _ _ (b c : Bool) => b = c) ρ H Q (fun c dx H' => W.w c dx σ H') (mAnd ta tb E S) → tAnd (tT X.K W ta) (tT X.K W tb) σ H Q := by
  intro σ H Q ρ S E r er p
  refine ⟨ρ, S, E, r, er, (Post.bind (R := fun _ _ (b c : Bool) => b = c) p).imp fun x H1 ⟨ρ1, S1, d, r1, e1, d1, p1⟩ => ?_⟩
  subst d1
  cases d with
  | true => rw [if_pos rfl] at p1 ⊢; exact ⟨ρ1, S1, E, r1, er.mono e1, p1⟩
  | false => rw [if_neg (by simp)] at p1 ⊢; exact p1 ρ1 H1 false r1 Ext.refl rfl
theorem or_read : ∀ σ H Q ρ S E, Rel X.K ρ S H → ER X.K W ρ H E σ → Post X.K (fun _ _ (b c : Bool) => b = c) ρ H Q (fun c dx H' => W.w c dx σ H') (mOr ta tb E S) → tOr (tT X.K W ta) (tT X.K W tb) σ H Q := by
  intro σ H Q ρ S E r er p
  refine ⟨ρ, S, E, r, er, (Post.bind (R := fun _ _ (b c : Bool) => b = c) p).imp fun x H1 ⟨ρ1, S1, d, r1, e1, d1, p1⟩ => ?_⟩
  subst d1
  cases d with
  | true => rw [if_pos rfl] at p1 ⊢; exact p1 ρ1 H1 true r1 Ext.refl rfl
  | false => rw [if_neg (by simp)] at p1 ⊢; exact ⟨ρ1, S1, E, r1, er.mono e1, p1⟩
theorem wd_and1 (ha : TD X W a ta) : WD X W (.BoolOp .And [a] pos) ta := pw_and1 ha
theorem wd_or1 (ha : TD X W a ta) : WD X W (.BoolOp .Or [a] pos) ta := pw_or1 ha
theorem wd_and (ha : TD X W a ta) (hb : WD X W (.BoolOp .And (b :: rest) pos) tb) : WD X W (.BoolOp .And (a :: b :: rest) pos) (mAnd ta tb) :=
  PW.imp (pw_and ha hb) fun σ H Q ⟨ρ, S, E, r, er, p⟩ => and_read σ H Q ρ S E r er p
theorem wd_or (ha : TD X W a ta) (hb : WD X W (.BoolOp .Or (b :: rest) pos) tb) : WD X W (.BoolOp .Or (a :: b :: rest) pos) (mOr ta tb) :=
  PW.imp (pw_or ha hb) fun σ H Q ⟨ρ, S, E, r, er, p⟩ => or_read σ H Q ρ S E r er p
theorem td_w (h : WD X W a ta) : TD X W a ta := PW.pt h
theorem td_not (ha : TD X W a ta) : TD X W (.UnaryOp .Not a pos) (mNot ta) := by
  refine td_of (pt_not ha) fun σ H Q ρ S E r er p => ?_
  refine ⟨ρ, S, E, r, er, (Post.bind (R := fun _ _ (b c : Bool) => b = c) p).imp fun x H1 ⟨ρ1, S1, d, r1, e1, d1, p1⟩ => ?_⟩
  subst d1
  exact p1 ρ1 H1 _ r1 Ext.refl rfl
/-! and, or, not as values (of truths) -/
def mAndV (a b : ME) : ME := fun E S => (a E S).bind fun x S1 => match x with
  | .bl true => b E S1
  | .bl false => .ok (.bl false) S1
  | _ => .bad
def mOrV (a b : ME) : ME := fun E S => (a E S).bind fun x S1 => match x with
  | .bl true => .ok (.bl true) S1
  | .bl false => b E S1
  | _ => .bad
def mNotV (a : ME) : ME := fun E S => (a E S).bind fun x S1 => match x with
  | .bl b => .ok (.bl (!b)) S1
  | _ => .bad
theorem ed_one {op : BoolOp} {m : ME} (h : ED X W a m) : ED X W (.BoolOp op [a] pos) m := pe_one h
theorem ed_and (ha : ED X W a ma) (hb : ED X W (.BoolOp .And (b :: rest) pos) mb) : ED X W (.BoolOp .And (a :: b :: rest) pos) (mAndV ma mb) := by
  refine ed_of (pe_and ha hb) fun σ H Q ρ S E r er p => ?_
  refine ⟨ρ, S, E, r, er, (Post.bind (R := DV X.K) p).imp fun x H1 ⟨ρ1, S1, d, r1, e1, d1, p1⟩ => ?_⟩
  cases d with
  | bl k =>
    simp only [DV] at d1
    refine ⟨k, d1, ?_⟩
    cases k with
    | true => rw [if_pos rfl]; exact ⟨ρ1, S1, E, r1, er.mono e1, p1⟩
    | false => rw [if_neg (by simp)]; exact p1 ρ1 H1 _ r1 Ext.refl (by simp [DV])
  | _ => exact p1.elim
theorem ed_or (ha : ED X W a ma) (hb : ED X W (.BoolOp .Or (b :: rest) pos) mb) : ED X W (.BoolOp .Or (a :: b :: rest) pos) (mOrV ma mb) := by
  refine ed_of (pe_or ha hb) fun σ H Q ρ S E r er p => ?_
  refine ⟨ρ, S, E, r, er, (Post.bind (R := DV X.K) p).imp fun x H1 ⟨ρ1, S1, d, r1, e1, d1, p1⟩ => ?_⟩
  cases d with
  | bl k =>
    simp only [DV] at d1
    refine ⟨k, d1, ?_⟩
    cases k with
    | true => rw [if_pos rfl]; exact p1 ρ1 H1 _ r1 Ext.refl (by simp [DV])
    | false => rw [if_neg (by simp)]; exact ⟨ρ1, S1, E, r1, er.mono e1, p1⟩
  | _ => exact p1.elim
theorem ed_not (ha : ED X W a ma) : ED X W (.UnaryOp .Not a pos) (mNotV ma) := by
  refine ed_of (pe_not ha) fun σ H Q ρ S E r er p => ?_
  refine ⟨ρ, S, E, r, er, (Post.bind (R := DV X.K) p).imp fun x H1 ⟨ρ1, S1, d, r1, e1, d1, p1⟩ => ?_⟩
  cases d with
  | bl k =>
    simp only [DV] at d1
    exact ⟨k, d1, p1 ρ1 H1 _ r1 Ext.refl (by simp [DV])⟩
  | _ => exact p1.elim
def mIfE (c : MT) (a b : ME) : ME := fun E S => (c E S).bind fun x S1 => if x = true then a E S1 else b E S1
theorem ed_if {c : Expr} {mc : MT} (hc : TD X W c mc) (ha : ED X W a ma) (hb : ED X W b mb) : ED X W (.IfExp c a b pos) (mIfE mc ma mb) := by
  refine ed_of (pe_ifExp hc ha hb) fun σ H Q ρ S E r er p => ?_
  refine ⟨ρ, S, E, r, er, (Post.bind (R := fun _ _ (b c : Bool) => b = c) p).imp fun x H1 ⟨ρ1, S1, d, r1, e1, d1, p1⟩ => ?_⟩
  subst d1
  cases d with
  | true => rw [if_pos rfl] at p1 ⊢; exact ⟨ρ1, S1, E, r1, er.mono e1, p1⟩
  | false => rw [if_neg (by simp)] at p1 ⊢; exact ⟨ρ1, S1, E, r1, er.mono e1, p1⟩
/-! ### one operand -/
def mUn (g : Sto → D → Option D) (a : ME) : ME := fun E S => (a E S).bind fun x S1 => match g S1 x with
  | some d => .ok d S1
  | none => .bad
def rP1 (K : PySem.W.Frag) (g : Sto → D → Option D) : V → Hp → VK → Prop := fun x H Q => ∃ ρ S dx d, Rel K ρ S H ∧ DV K ρ H dx x ∧ g S dx = some d ∧ ∀ ρ' H' v, Rel K ρ' S H' → Ext K ρ H ρ' H' → DV K ρ' H' d v → Q v H'
theorem ed_un {op : UnaryOp} {r : V → Hp → VK → Prop} {g : Sto → D → Option D} (ho : UnR X (unaryOp op) r) (hr : ∀ x H Q, rP1 X.K g x H Q → r x H Q) (ha : ED X W a ma) : ED X W (.UnaryOp op a pos) (mUn g ma) := by
  refine ed_of (pe_un ho ha) fun σ H Q ρ S E r er p => ?_
  refine ⟨ρ, S, E, r, er, (Post.bind (R := DV X.K) p).imp fun x H1 ⟨ρ1, S1, d, r1, e1, d1, p1⟩ => ?_⟩
  obtain ⟨u, hu, q⟩ := post_opt p1
  exact hr _ _ _ ⟨ρ1, S1, d, u, r1, d1, hu, q⟩
/-! ### rows of expressions -/
def mNil : MA := fun _ S => .ok [] S
def mCons (a : ME) (r : MA) : MA := fun E S => (a E S).bind fun x S1 => (r E S1).bind fun xs S2 => .ok (x :: xs) S2
theorem ad_nil : AD X W [] mNil := PA.imp pa_nil fun σ H Q ⟨ρ, S, E, r, er, p⟩ => p ρ H [] r Ext.refl (by simp [DVs])
theorem ad_cons {e : Expr} {es : List Expr} {m : ME} {ms : MA} (h : ED X W e m) (hr : AD X W es ms) (hs : starEach (e :: es) X.env = (false, eval e X.env) :: starEach es X.env := by rfl) : AD X W (e :: es) (mCons m ms) := by
  refine PA.imp (pa_cons h hr hs) fun σ H Q ⟨ρ, S, E, r, er, p⟩ => ?_
  refine ⟨ρ, S, E, r, er, (Post.bind (R := DV X.K) p).imp fun x H1 ⟨ρ1, S1, d, r1, e1, d1, p1⟩ => ?_⟩
  refine ⟨ρ1, S1, E, r1, er.mono e1, (Post.bind (R := DVs X.K) p1).imp fun xs H2 ⟨ρ2, S2, ds, r2, e2, d2, p2⟩ => ?_⟩
  exact p2 ρ2 H2 (x :: xs) r2 Ext.refl (by simp only [DVs]; exact ⟨x, xs, rfl, DV.mono e2 _ _ d1, d2⟩)
/-! new things -/
theorem rd_none {H : Hp} {a p : Addr} {u : HO} (hp : H p = none) (h : Rd H a u) : a ≠ p := fun z => by
  subst z
  rcases h with h | ⟨o, h⟩ <;> rw [hp] at h <;> cases h
theorem Rd.upd {H : Hp} {a p : Addr} {u o : HO} (hne : a ≠ p) (h : Rd H a u) : Rd (upd H p o) a u := by
  unfold Rd
  rw [upd_ne hne]
  exact h
/-- a thing is laid anew and not tracked -/
theorem Ext.new {K : PySem.W.Frag} {ρ : List Addr} {H : Hp} {p : Addr} {o : HO} (hp : H p = none) : Ext K ρ H ρ (upd H p o) :=
  ⟨⟨[], by simp⟩, fun a vs h => h.imp (fun h => Rd.upd (rd_none hp h) h) id, fun a vs h g => ⟨h, by rw [upd_ne (ne_of_none g hp)]; exact g⟩, fun a u vs h => by rw [upd_ne (ne_of_none h hp)]; exact h, fun a fs h => by rw [upd_ne (ne_of_none h hp)]; exact h⟩
theorem OR.mono {K : PySem.W.Frag} {ρ ρ' : List Addr} {H H' : Hp} (e : Ext K ρ H ρ' H') {a : Addr} {o : Ob} (h : OR K ρ H a o) (k : ∀ u, H a = some u → H' a = some u) : OR K ρ' H' a o := by
  cases o with
  | lst xs => obtain ⟨vs, h1, h2⟩ := h; exact ⟨vs, k _ h1, DVs.mono e _ _ h2⟩
  | dic xs => obtain ⟨vs, h1, h2⟩ := h; exact ⟨vs, k _ h1, DVs.mono e _ _ h2⟩
  | set S n => exact k _ h
  | ins c fs => obtain ⟨dx, vs, h1, h2⟩ := h; exact ⟨dx, vs, k _ h1, DVs.mono e _ _ h2⟩
theorem OR.some {K : PySem.W.Frag} {ρ : List Addr} {H : Hp} {a : Addr} {o : Ob} (h : OR K ρ H a o) : ∃ u, H a = some u := by
  cases o with
  | lst xs => obtain ⟨vs, h1, h2⟩ := h; exact ⟨_, h1⟩
  | dic xs => obtain ⟨vs, h1, h2⟩ := h; exact ⟨_, h1⟩
  | set S n => exact ⟨_, h⟩
  | ins c fs => obtain ⟨dx, vs, h1, h2⟩ := h; exact ⟨_, h1⟩
theorem Rel.mem {K : PySem.W.Frag} {ρ : List Addr} {S : Sto} {H : Hp} (r : Rel K ρ S H) {a : Addr} (h : a ∈ ρ) : ∃ u, H a = some u := by
  obtain ⟨n, hn, e⟩ := List.getElem_of_mem h
  have h2 : n < S.length := by rw [← r.len]; exact hn
  exact (r.at_ n S[n] a (List.getElem?_eq_getElem h2) (by rw [List.getElem?_eq_getElem hn, e])).some
theorem Rel.new {K : PySem.W.Frag} {ρ : List Addr} {S : Sto} {H : Hp} (r : Rel K ρ S H) {p : Addr} {o : HO} (hp : H p = none) : Rel K ρ S (upd H p o) :=
  ⟨r.len, r.nd, fun n u a h1 h2 => (r.at_ n u a h1 h2).mono (Ext.new hp) fun w hw => by rw [upd_ne (ne_of_none hw hp)]; exact hw⟩
theorem Rel.notin {K : PySem.W.Frag} {ρ : List Addr} {S : Sto} {H : Hp} (r : Rel K ρ S H) {p : Addr} (hp : H p = none) : p ∉ ρ := fun h => by
  obtain ⟨u, e⟩ := r.mem h
  rw [hp] at e
  cases e
open Classical in
noncomputable def mTup (a : MA) : ME := fun E S => (a E S).bind fun xs S1 => if sizeOk (xs.length) then .ok (.tup xs) S1 else .bad
/- a list that is never changed -/
open Classical in
noncomputable def mLst (a : MA) : ME := fun E S => (a E S).bind fun xs S1 => if sizeOk (xs.length) then .ok (.lst xs) S1 else .bad
/- a list that may change -/
open Classical in
noncomputable def mLoc (a : MA) : ME := fun E S => (a E S).bind fun xs S1 => if sizeOk (xs.length) then .ok (.loc S1.length) (S1 ++ [.lst xs]) else .bad
theorem dv_tup {K : PySem.W.Frag} {ρ : List Addr} {H : Hp} {p : Addr} {xs : List D} {vs : List V} (hp : H p = none) (h : DVs K ρ H xs vs) : DV K ρ (upd H p (.tup vs)) (.tup xs) (.ref p) := by
  simp only [DV]
  exact ⟨p, vs, rfl, SqT.of upd_same, DVs.mono (Ext.new hp) _ _ h⟩
theorem dv_lst {K : PySem.W.Frag} {ρ : List Addr} {H : Hp} {p : Addr} {xs : List D} {vs : List V} (hp : H p = none) (hn : p ∉ ρ) (h : DVs K ρ H xs vs) : DV K ρ (upd H p (.lst vs)) (.lst xs) (.ref p) := by
  simp only [DV]
  exact ⟨p, vs, rfl, ⟨hn, upd_same⟩, DVs.mono (Ext.new hp) _ _ h⟩
theorem Ext.alloc {K : PySem.W.Frag} {ρ : List Addr} {H : Hp} {p : Addr} {o : HO} (hp : H p = none) : Ext K ρ H (ρ ++ [p]) (upd H p o) :=
  ⟨⟨[p], rfl⟩, fun a vs h => h.imp (fun h => Rd.upd (rd_none hp h) h) id, fun a vs h g => ⟨by simp [h, ne_of_none g hp], by rw [upd_ne (ne_of_none g hp)]; exact g⟩, fun a u vs h => by rw [upd_ne (ne_of_none h hp)]; exact h, fun a fs h => by rw [upd_ne (ne_of_none h hp)]; exact h⟩
theorem Rel.alloc {K : PySem.W.Frag} {ρ : List Addr} {S : Sto} {H : Hp} (r : Rel K ρ S H) {p : Addr} {o : HO} {u : Ob} (hp : H p = none) (h : OR K (ρ ++ [p]) (upd H p o) p u) : Rel K (ρ ++ [p]) (S ++ [u]) (upd H p o) := by
  refine ⟨by simp [r.len], ?_, fun n w a h1 h2 => ?_⟩
  · rw [List.nodup_append]
    refine ⟨r.nd, by simp, fun x hx y hy z => ?_⟩
    simp only [List.mem_singleton] at hy
    subst hy z
    exact r.notin hp hx
  · by_cases hn : n < S.length
    · rw [List.getElem?_append_left hn] at h1
      rw [List.getElem?_append_left (by rw [r.len]; exact hn)] at h2
      exact (r.at_ n w a h1 h2).mono (Ext.alloc hp) fun q hq => by rw [upd_ne (ne_of_none hq hp)]; exact hq
    · have hn2 : n = S.length := by
        have := (List.getElem?_eq_some_iff.mp h1).1
        simp only [List.length_append, List.length_singleton] at this
        omega
      subst hn2
      rw [List.getElem?_append_right (Nat.le_refl _), Nat.sub_self] at h1
      rw [List.getElem?_append_right (by rw [r.len]; exact Nat.le_refl _), r.len, Nat.sub_self] at h2
      simp only [List.getElem?_cons_zero, Option.some.injEq] at h1 h2
      subst h1 h2
      exact h
theorem dv_loc {K : PySem.W.Frag} {ρ : List Addr} {S : Sto} {H H' : Hp} (r : Rel K ρ S H) {p : Addr} : DV K (ρ ++ [p]) H' (.loc S.length) (.ref p) := by
  simp only [DV]
  exact ⟨p, rfl, by rw [List.getElem?_append_right (by rw [r.len]; exact Nat.le_refl _), r.len, Nat.sub_self]; rfl⟩
variable {es : List Expr} {ms : MA}
theorem ed_tup {x1} (h : AD X W es ms) : ED X W (.Tuple es x1 pos) (mTup ms) := by
  refine ed_of (pe_tup h) fun σ H Q ρ S E r er p => ?_
  refine ⟨ρ, S, E, r, er, (Post.bind (R := DVs X.K) p).imp fun vs H1 ⟨ρ1, S1, ds, r1, e1, d1, p1⟩ => ?_⟩
  by_cases hl : sizeOk (ds.length)
  · rw [if_pos hl] at p1
    exact ⟨by rw [← d1.length]; exact hl, fun q hq => p1 ρ1 _ _ (r1.new hq) (Ext.new hq) (dv_tup hq d1)⟩
  · rw [if_neg hl] at p1; exact p1.elim
theorem ed_lst (h : AD X W es ms) : ED X W (.List es pos) (mLst ms) := by
  refine ed_of (pe_lst h) fun σ H Q ρ S E r er p => ?_
  refine ⟨ρ, S, E, r, er, (Post.bind (R := DVs X.K) p).imp fun vs H1 ⟨ρ1, S1, ds, r1, e1, d1, p1⟩ => ?_⟩
  by_cases hl : sizeOk (ds.length)
  · rw [if_pos hl] at p1
    exact ⟨by rw [← d1.length]; exact hl, fun q hq => p1 ρ1 _ _ (r1.new hq) (Ext.new hq) (dv_lst hq (r1.notin hq) d1)⟩
  · rw [if_neg hl] at p1; exact p1.elim
theorem ed_loc (h : AD X W es ms) : ED X W (.List es pos) (mLoc ms) := by
  refine ed_of (pe_lst h) fun σ H Q ρ S E r er p => ?_
  refine ⟨ρ, S, E, r, er, (Post.bind (R := DVs X.K) p).imp fun vs H1 ⟨ρ1, S1, ds, r1, e1, d1, p1⟩ => ?_⟩
  by_cases hl : sizeOk (ds.length)
  · rw [if_pos hl] at p1
    refine ⟨by rw [← d1.length]; exact hl, fun q hq => p1 (ρ1 ++ [q]) _ _ (r1.alloc hq ⟨vs, upd_same, DVs.mono (Ext.alloc hq) _ _ d1⟩) (Ext.alloc hq) (dv_loc r1)⟩
  · rw [if_neg hl] at p1; exact p1.elim
/-! ### calls -/
def mCall (f : MF) (a : MA) : ME := fun E S => (a E S).bind fun ds S1 => f ds S1
/-- a def's promise by plain data -/
def spM (K : PySem.W.Frag) (n : Nat) (m : MF) : Sp := fun vs H Q E => ∃ ρ S ds, Rel K ρ S H ∧ DVs K ρ H ds vs ∧ ds.length = n ∧ Post K (DV K) ρ H Q E (m ds S)
structure CallF (P : Program) (w : World) (K : PySem.W.Frag) (mg : Str → Option Value) (base : Heap) (k : Nat) (x : Str) (n : Nat) (m : MF) : Prop where
  ex : ∃ f fd ps, FnOk P w K mg base (L2.CX P w) k f fd ps (spM K n m) ∧ mg x = some (.ref f) ∧ PySem.W.keepIn K (.ref f) = true ∧ Binds K fd ps []
theorem ed_call {x : Str} {n k : Nat} {m : MF} {p : Pos} {e : Expr} (c : CallF X.prog X.w X.K X.mg X.base k x n m) (hr : Room k X.A) (tk : Takes X W.w) (hg : Gl X x) (ha : AD X W (e :: es) ms)
    (hl : ∀ E S ds S', ms E S = .ok ds S' → ds.length = n) (hdb : (x == ("__debug__" : Str)) = false := by decide) (he : starEach (e :: es) X.env = (false, eval e X.env) :: starEach es X.env := by rfl) (hpl : (backTo pos (starEach es X.env)).any (·.1) = false := by rfl) :
    ED X W (.Call (.Name x p) (e :: es) [] pos) (mCall m ms) := by
  obtain ⟨f, fd, ps, F, hm, hk, hb⟩ := c.ex
  refine ed_of (pe_callSD (E := fun σ c dx H => W.w c dx σ H) F hr hg hm hk hb .nil (fun σ => passAt tk σ) ha hdb he hpl) fun σ H Q ρ S E r er p => ?_
  refine ⟨ρ, S, E, r, er, ?_⟩
  have hl' := hl E S
  unfold mCall at p
  cases q : ms E S with
  | bad => rw [q] at p; exact p.elim
  | ex e S' => rw [q] at p; exact p
  | ok ds S' =>
    rw [q] at p
    have hn := hl' ds S' q
    intro ρ1 H1 vs r1 e1 d1
    rw [List.append_nil]
    exact ⟨ρ1, S', ds, r1, d1, hn, p.start e1⟩
theorem len_nil : ∀ E S ds S', mNil E S = .ok ds S' → ds.length = 0 := fun E S ds S' h => by cases h; rfl
theorem len_cons {a : ME} {r : MA} {n : Nat} (h : ∀ E S ds S', r E S = .ok ds S' → ds.length = n) : ∀ E S ds S', mCons a r E S = .ok ds S' → ds.length = n + 1 := fun E S ds S' q => by
  unfold mCons at q
  cases e1 : a E S with
  | bad => rw [e1] at q; cases q
  | ex e S1 => rw [e1] at q; cases q
  | ok x S1 =>
    rw [e1] at q
    cases e2 : r E S1 with
    | bad => rw [bind_ok, e2] at q; cases q
    | ex e S2 => rw [bind_ok, e2] at q; cases q
    | ok xs S2 =>
      rw [bind_ok, e2] at q
      cases q
      simp [h E S1 xs _ e2]
/-! built-ins of values: g reads the store -/
def mB (g : Sto → List D → Option D) (a : MA) : ME := fun E S => (a E S).bind fun xs S1 => match g S1 xs with
  | some d => .ok d S1
  | none => .bad
def rPB (K : PySem.W.Frag) (g : Sto → List D → Option D) : List V → Hp → VK → Prop := fun vs H Q => ∃ ρ S ds d, Rel K ρ S H ∧ DVs K ρ H ds vs ∧ g S ds = some d ∧ ∀ ρ' H' v, Rel K ρ' S H' → Ext K ρ H ρ' H' → DV K ρ' H' d v → Q v H'
theorem b_read {g : Sto → List D → Option D} {r : List V → Hp → VK → Prop} (hr : ∀ vs H Q, rPB X.K g vs H Q → r vs H Q) : ∀ σ H Q ρ S E, Rel X.K ρ S H → ER X.K W ρ H E σ → Post X.K (DV X.K) ρ H Q (fun c dx H' => W.w c dx σ H') (mB g ms E S) → tCB r (tA X.K W ms) σ H Q := by
  intro σ H Q ρ S E re er p
  refine ⟨ρ, S, E, re, er, (Post.bind (R := DVs X.K) p).imp fun vs H1 ⟨ρ1, S1, ds, r1, e1, d1, p1⟩ => ?_⟩
  obtain ⟨d, hd, q⟩ := post_opt p1
  exact hr _ _ _ ⟨ρ1, S1, ds, d, r1, d1, hd, q⟩
theorem ed_callB {x : Str} {id : String} {r : List V → Hp → VK → Prop} {g : Sto → List D → Option D} {e : Expr} {p : Pos} (hc : CallR X (.builtin id) r) (hr : ∀ vs H Q, rPB X.K g vs H Q → r vs H Q) (hg : Gl X x) (hm : X.mg x = none) (hv : bootBuiltins x = some (.builtin id)) (ha : AD X W (e :: es) ms)
    (hn : x ≠ "__name__" := by decide) (hdb : (x == ("__debug__" : Str)) = false := by decide) (he : starEach (e :: es) X.env = (false, eval e X.env) :: starEach es X.env := by rfl) (hpl : (backTo pos (starEach es X.env)).any (·.1) = false := by rfl) :
    ED X W (.Call (.Name x p) (e :: es) [] pos) (mB g ms) := by
  first
    | exact ed_of (pe_callB hc hg hm hv ha hn hdb he hpl) (b_read hr)
    | exact ed_of (pe_callB hc hg hm hv ha hn hdb) (b_read hr)
theorem ed_callTy {x : Str} {T : String} {r : List V → Hp → VK → Prop} {g : Sto → List D → Option D} {e : Expr} {p : Pos} (hc : CallR X (.type T) r) (hr : ∀ vs H Q, rPB X.K g vs H Q → r vs H Q) (hg : Gl X x) (hm : X.mg x = none) (hv : bootBuiltins x = some (.type T)) (ha : AD X W (e :: es) ms)
    (hn : x ≠ "__name__" := by decide) (hdb : (x == ("__debug__" : Str)) = false := by decide) (he : starEach (e :: es) X.env = (false, eval e X.env) :: starEach es X.env := by rfl) (hpl : (backTo pos (starEach es X.env)).any (·.1) = false := by rfl) :
    ED X W (.Call (.Name x p) (e :: es) [] pos) (mB g ms) := by
  first
    | exact ed_of (pe_callTy hc hg hm hv ha hn hdb he hpl) (b_read hr)
    | exact ed_of (pe_callTy hc hg hm hv ha hn hdb) (b_read hr)
/-! items, slices -/
theorem ed_ix {r : R2} (hi : IxR X r) (hr : ∀ x y H Q, rP X.K g x y H Q → r x y H Q) (ha : ED X W a ma) (hb : ED X W b mb) (hs : PlainIx b) : ED X W (.Subscript a b pos) (mBin g ma mb) :=
  ed_of (pe_ix hi ha hb hs) (bin_read hr)
abbrev MO := Evn → Sto → Out (Option Int)
def mNoPart : MO := fun _ S => .ok none S
def mPart (a : ME) : MO := fun E S => (a E S).bind fun d S1 => match d with
  | .int i => .ok (some i) S1
  | _ => .bad
def tO (K : PySem.W.Frag) (W : WW K) (m : MO) : TO := fun σ H Q => ∃ ρ S E, Rel K ρ S H ∧ ER K W ρ H E σ ∧ Post K (fun _ _ (b c : Option Int) => b = c) ρ H Q (fun c dx H' => W.w c dx σ H') (m E S)
def OD (X : Cx) (W : WW X.K) (e : Option Expr) (m : MO) : Prop := PO X e (tO X.K W m)
theorem PO.imp {X : Cx} {e : Option Expr} {t t' : TO} (h : PO X e t) (i : ∀ σ H Q, t' σ H Q → t σ H Q) : PO X e t' := ⟨fun pins s σ H Q I q => h.run pins s σ H Q I (i _ _ _ q)⟩
theorem od_none : OD X W none mNoPart := PO.imp po_none fun σ H Q ⟨ρ, S, E, r, er, p⟩ => p ρ H none r Ext.refl rfl
theorem od_some {e : Expr} {m : ME} (h : ED X W e m) : OD X W (some e) (mPart m) := by
  refine PO.imp (po_some h) fun σ H Q ⟨ρ, S, E, r, er, p⟩ => ?_
  refine ⟨ρ, S, E, r, er, (Post.bind (R := DV X.K) p).imp fun x H1 ⟨ρ1, S1, d, r1, e1, d1, p1⟩ => ?_⟩
  cases d with
  | int i => simp only [DV] at d1; exact ⟨i, d1, p1 ρ1 H1 _ r1 Ext.refl rfl⟩
  | _ => exact p1.elim
def mSl (g : Sto → D → Option Int → Option Int → Option D) (a : ME) (lo hi : MO) : ME := fun E S => (a E S).bind fun x S1 => (lo E S1).bind fun l S2 => (hi E S2).bind fun u S3 => match g S3 x l u with
  | some d => .ok d S3
  | none => .bad
def rPS (K : PySem.W.Frag) (g : Sto → D → Option Int → Option Int → Option D) : V → Option Int → Option Int → Hp → VK → Prop := fun x lo hi H Q => ∃ ρ S dx d, Rel K ρ S H ∧ DV K ρ H dx x ∧ g S dx lo hi = some d ∧ ∀ ρ' H' v, Rel K ρ' S H' → Ext K ρ H ρ' H' → DV K ρ' H' d v → Q v H'
theorem ed_sl {lo hi : Option Expr} {ml mh : MO} {p2 : Pos} {r : V → Option Int → Option Int → Hp → VK → Prop} {g : Sto → D → Option Int → Option Int → Option D} (hsl : SlR X r) (hr : ∀ x l u H Q, rPS X.K g x l u H Q → r x l u H Q) (ha : ED X W a ma) (hl : OD X W lo ml) (hu : OD X W hi mh) :
    ED X W (.Subscript a (.Slice lo hi none p2) pos) (mSl g ma ml mh) := by
  refine ed_of (pe_slice hsl ha hl hu) fun σ H Q ρ S E re er p => ?_
  refine ⟨ρ, S, E, re, er, (Post.bind (R := DV X.K) p).imp fun x H1 ⟨ρ1, S1, dx, r1, e1, d1, p1⟩ => ?_⟩
  refine ⟨ρ1, S1, E, r1, er.mono e1, (Post.bind (R := fun _ _ (b c : Option Int) => b = c) p1).imp fun l H2 ⟨ρ2, S2, dl, r2, e2, d2, p2⟩ => ?_⟩
  subst d2
  refine ⟨ρ2, S2, E, r2, er.mono (e1.trans e2), (Post.bind (R := fun _ _ (b c : Option Int) => b = c) p2).imp fun u H3 ⟨ρ3, S3, du, r3, e3, d3, p3⟩ => ?_⟩
  subst d3
  obtain ⟨d, hd, q⟩ := post_opt p3
  exact hr _ _ _ _ _ ⟨ρ3, S3, dx, d, r3, DV.mono (e2.trans e3) _ _ d1, hd, q⟩
/-! methods of built-in types -/
def mBM (g : Sto → D → List D → Option D) (o : ME) (a : MA) : ME := fun E S => (o E S).bind fun x S1 => (a E S1).bind fun xs S2 => match g S2 x xs with
  | some d => .ok d S2
  | none => .bad
end
end PD

/-! PyD2: statements. -/
namespace PD
open PySem PySem.Spec PyProof.Rows L2

def mSeq (a b : MS) : MS := fun E S => match a E S with
  | .nx E' S' => b E' S'
  | r => r
def mSkip : MS := fun E S => .nx E S
def mBreak : MS := fun E S => .bk E S
def mCont : MS := fun E S => .ct E S
def mIf (c : MT) (a b : MS) : MS := fun E S => (c E S).toS E fun x S1 => if x = true then a E S1 else b E S1
def mRet (a : ME) : MS := fun E S => (a E S).toS E fun d S1 => .rt d S1
def mRetN : MS := fun _ S => .rt .non S
def mDrop (a : ME) : MS := fun E S => (a E S).toS E fun _ S1 => .nx E S1
abbrev MG := D → Evn → Sto → Out Evn
abbrev MGs := List D → Evn → Sto → Out Evn
def gN (i : Nat) : MG := fun d E S => .ok (E.set i (some d)) S
def gsNil : MGs := fun ds E S => match ds with
  | [] => .ok E S
  | _ => .bad
def Out.noex {α : Type} : Out α → Out α
  | .ok a S => .ok a S
  | _ => .bad
@[simp] theorem noex_ok {α : Type} (a : α) (S : Sto) : (Out.ok a S).noex = .ok a S := rfl
def gsCons (g : MG) (r : MGs) : MGs := fun ds E S => match ds with
  | d :: ds => (g d E S).bind fun E' S' => (r ds E' S').noex
  | [] => .bad
def gT (n : Nat) (g : MGs) : MG := fun d E S => match d with
  | .tup xs => if xs.length = n then g xs E S else .bad
  | _ => .bad
def mAsg (a : ME) (g : MG) : MS := fun E S => (a E S).toS E fun d S1 => (g d E S1).toS E fun E' S2 => .nx E' S2
def mSet (i : Nat) (a : ME) : MS := fun E S => (a E S).toS E fun d S1 => .nx (E.set i (some d)) S1
section
variable {X : Cx} {W : WW X.K} {pos : Pos}
theorem sd_of {st : Stmt} {t : TS} {m : MS} (h : PS X st t) (i : ∀ D σ H ρ S E, Rel X.K ρ S H → ER X.K W ρ H E σ → SPost X.K W ρ H D (m E S) → t D σ H) : SD X W st m :=
  PS.imp h fun D σ H ⟨ρ, S, E, r, er, p⟩ => i D σ H ρ S E r er p
theorem bd_of {st : List Stmt} {t : TS} {m : MS} (h : PSs X st t) (i : ∀ D σ H ρ S E, Rel X.K ρ S H → ER X.K W ρ H E σ → SPost X.K W ρ H D (m E S) → t D σ H) : BD X W st m :=
  PSs.imp h fun D σ H ⟨ρ, S, E, r, er, p⟩ => i D σ H ρ S E r er p
theorem bd_nil : BD X W [] mSkip := bd_of pss_nil fun D σ H ρ S E r er p => p ρ H σ r Ext.refl er
theorem bd_one {st : Stmt} {m : MS} (h : SD X W st m) : BD X W [st] m := pss_one h
theorem bd_cons {st : Stmt} {rest : List Stmt} {a b : MS} (h1 : SD X W st a) (h2 : BD X W rest b) : BD X W (st :: rest) (mSeq a b) := by
  refine bd_of (pss_cons h1 h2) fun D σ H ρ S E r er p => ?_
  refine ⟨ρ, S, E, r, er, ?_⟩
  unfold mSeq at p
  cases q : a E S with
  | nx E' S' =>
    rw [q] at p
    exact fun ρ' H' σ' r' e' er' => ⟨ρ', S', E', r', er', p.start e'⟩
  | rt d S' => rw [q] at p; exact p
  | bk E' S' => rw [q] at p; exact p
  | ct E' S' => rw [q] at p; exact p
  | ex e E' S' => rw [q] at p; exact p
  | bad => rw [q] at p; exact p
theorem sd_pass : SD X W (.Pass pos) mSkip := sd_of ps_pass fun D σ H ρ S E r er p => p ρ H σ r Ext.refl er
theorem sd_break : SD X W (.Break pos) mBreak := sd_of ps_break fun D σ H ρ S E r er p => p ρ H σ r Ext.refl er
theorem sd_cont : SD X W (.Continue pos) mCont := sd_of ps_continue fun D σ H ρ S E r er p => p ρ H σ r Ext.refl er
theorem sd_if {c : Expr} {a b : List Stmt} {mc : MT} {ma mb : MS} (hc : TD X W c mc) (ha : BD X W a ma) (hb : BD X W b mb) : SD X W (.If c a b pos) (mIf mc ma mb) := by
  refine sd_of (ps_if hc ha hb) fun D σ H ρ S E r er p => ?_
  refine ⟨ρ, S, E, r, er, (SPost.bind (R := fun _ _ (b c : Bool) => b = c) er p).imp fun x H1 ⟨ρ1, S1, d, r1, e1, d1, p1⟩ => ?_⟩
  subst d1
  cases d with
  | true => rw [if_pos rfl] at p1 ⊢; exact ⟨ρ1, S1, E, r1, er.mono e1, p1⟩
  | false => rw [if_neg (by simp)] at p1 ⊢; exact ⟨ρ1, S1, E, r1, er.mono e1, p1⟩
theorem sd_ret {e : Expr} {m : ME} (h : ED X W e m) : SD X W (.Return (some e) pos) (mRet m) := by
  refine sd_of (ps_ret h) fun D σ H ρ S E r er p => ?_
  refine ⟨ρ, S, E, r, er, (SPost.bind (R := DV X.K) er p).imp fun x H1 ⟨ρ1, S1, d, r1, e1, d1, p1⟩ => ?_⟩
  exact p1 ρ1 H1 x r1 Ext.refl d1
theorem sd_retN : SD X W (.Return none pos) mRetN := sd_of ps_retN fun D σ H ρ S E r er p => p ρ H .non r Ext.refl (by simp [DV])
theorem sd_expr {e : Expr} {m : ME} (h : ED X W e m) (hs : swapsWith e none pos.line X.env = pure false := by rfl) : SD X W (.Expr e pos) (mDrop m) := by
  refine sd_of (ps_expr h hs) fun D σ H ρ S E r er p => ?_
  refine ⟨ρ, S, E, r, er, (SPost.bind (R := DV X.K) er p).imp fun x H1 ⟨ρ1, S1, d, r1, e1, d1, p1⟩ => ?_⟩
  exact p1 ρ1 H1 σ r1 Ext.refl (er.mono e1)
/-! targets -/
def tG (K : PySem.W.Frag) (W : WW K) (g : MG) : TG := fun v σ H Q => ∃ ρ S E d, Rel K ρ S H ∧ ER K W ρ H E σ ∧ DV K ρ H d v ∧ Post K (ER K W) ρ H Q (fun c dx H' => W.w c dx σ H') (g d E S)
def tGs (K : PySem.W.Frag) (W : WW K) (g : MGs) : TGs := fun vs σ H Q => ∃ ρ S E ds, Rel K ρ S H ∧ ER K W ρ H E σ ∧ DVs K ρ H ds vs ∧ Post K (ER K W) ρ H Q (fun c dx H' => W.w c dx σ H') (g ds E S)
def GD (X : Cx) (W : WW X.K) (tg : Expr) (g : MG) : Prop := PG X tg (tG X.K W g)
def GDs (X : Cx) (W : WW X.K) (tg : List Expr) (g : MGs) : Prop := PGs X tg (tGs X.K W g)
theorem PG.imp {tg : Expr} {t t' : TG} (h : PG X tg t) (i : ∀ v σ H Q, t' v σ H Q → t v σ H Q) : PG X tg t' := ⟨fun pins s σ H v u Q I r q => h.run pins s σ H v u Q I r (i _ _ _ _ q)⟩
theorem PGs.imp {tg : List Expr} {t t' : TGs} (h : PGs X tg t) (i : ∀ v σ H Q, t' v σ H Q → t v σ H Q) : PGs X tg t' := ⟨fun pins s σ H v u Q I r q => h.run pins s σ H v u Q I r (i _ _ _ _ q)⟩
theorem gd_name {i : Nat} {tg : Expr} (h : PG X tg (gName i)) (hw : W.fix = none := by rfl) : GD X W tg (gN i) :=
  PG.imp h fun v σ H Q ⟨ρ, S, E, d, r, er, dv, p⟩ => p ρ H _ r Ext.refl (er.set hw i dv)
theorem gds_nil : GDs X W [] gsNil := PGs.imp pgs_nil fun v σ H Q ⟨ρ, S, E, d, r, er, dv, p⟩ => by
  cases d with
  | nil => simp only [DVs] at dv; exact ⟨dv, p ρ H σ r Ext.refl er⟩
  | cons x xs => exact p.elim
theorem Post.noex {α β : Type} {K : PySem.W.Frag} {R : List Addr → Hp → α → β → Prop} {ρ : List Addr} {H : Hp} {Q : β → Hp → Prop} {Z Z' : XQ} {o : Out α} (h : Post K R ρ H Q Z o.noex) : Post K R ρ H Q Z' o := by
  cases o with
  | ok d S => exact h
  | ex e S => exact h.elim
  | bad => exact h
theorem gds_cons {e : Expr} {es : List Expr} {g : MG} {gs : MGs} (h1 : GD X W e g) (h2 : GDs X W es gs) (hs : (assignEach (e :: es) X.env).map (·.2) = assign e X.env :: (assignEach es X.env).map (·.2) := by rfl) : GDs X W (e :: es) (gsCons g gs) := by
  refine PGs.imp (pgs_cons h1 h2 hs) fun vs σ H Q ⟨ρ, S, E, ds, r, er, dv, p⟩ => ?_
  cases ds with
  | nil => exact p.elim
  | cons x xs =>
    simp only [DVs] at dv
    obtain ⟨v, vr, rfl, dx, dr⟩ := dv
    refine ⟨v, vr, rfl, ρ, S, E, x, r, er, dx, (Post.bind (R := ER X.K W) p).imp fun σ1 H1 ⟨ρ1, S1, E1, r1, e1, er1, p1⟩ => ?_⟩
    exact ⟨ρ1, S1, E1, xs, r1, er1, DVs.mono e1 _ _ dr, p1.noex⟩
theorem gd_tup {es : List Expr} {k n : Nat} {gs : MGs} (hc : X.calm = true) (h : GDs X W es gs) (hn : (assignEach es X.env).length = n := by rfl) (hst : (assignEach es X.env).findIdx? (·.1) = none := by rfl) : GD X W (.Tuple es k pos) (gT n gs) := by
  refine PG.imp (pg_tup hc h hn hst) fun v σ H Q ⟨ρ, S, E, d, r, er, dv, p⟩ => ?_
  cases d with
  | tup xs =>
    simp only [DV] at dv
    obtain ⟨a, vs, rfl, h1, h2⟩ := dv
    unfold gT at p
    simp only at p
    by_cases hl : xs.length = n
    · rw [if_pos hl] at p
      exact ⟨a, vs, rfl, h1, by rw [← h2.length]; exact hl, ρ, S, E, xs, r, er, h2, p⟩
    · rw [if_neg hl] at p; exact p.elim
  | _ => exact p.elim
theorem sd_asg {tg e : Expr} {m : ME} {g : MG} (he : ED X W e m) (hg : GD X W tg g) (hs : swapsWithSole [tg] e pos.line X.env = pure false := by rfl) (hw : swappedStores [tg] e X.env = pure none := by rfl)
    (h1 : (assignEach [tg] X.env).map (·.2) = [assign tg X.env] := by rfl) : SD X W (.Assign [tg] e pos) (mAsg m g) := by
  refine sd_of (ps_asg he hg hs hw h1) fun D σ H ρ S E r er p => ?_
  refine ⟨ρ, S, E, r, er, (SPost.bind (R := DV X.K) er p).imp fun x H1 ⟨ρ1, S1, d, r1, e1, d1, p1⟩ => ?_⟩
  refine ⟨ρ1, S1, E, d, r1, er.mono e1, d1, (SPost.bind (R := ER X.K W) (er.mono e1) p1).imp fun σ2 H2 ⟨ρ2, S2, E2, r2, e2, er2, p2⟩ => ?_⟩
  exact p2 ρ2 H2 σ2 r2 Ext.refl er2
theorem sd_set {i : Nat} {e : Expr} {m : ME} {x : Str} {pos' : Pos} (hN : X.N.Nodup) (hi : X.N[i]? = some x) (hx : Loc X.env.scope x) (he : ED X W e m) (hs : swapsWith e (some (.Name x pos')) pos.line X.env = pure false := by rfl)
    (hf : X.fn x = true ∨ X.env.scope.names.lookup x = some .local := by first | exact .inl rfl | exact .inr rfl | assumption) (hw : W.fix = none := by rfl) : SD X W (.Assign [.Name x pos'] e pos) (mSet i m) := by
  refine sd_of (ps_set hN hi hx he hs hf) fun D σ H ρ S E r er p => ?_
  refine ⟨ρ, S, E, r, er, (SPost.bind (R := DV X.K) er p).imp fun x H1 ⟨ρ1, S1, d, r1, e1, d1, p1⟩ => ?_⟩
  exact p1 ρ1 H1 _ r1 Ext.refl ((er.mono e1).set hw i d1)
/-! name op= value -/
def mAug (i : Nat) (g : Sto → D → D → Option D) (a : ME) : MS := fun E S => match E[i]? with
  | some (some x) => (a E S).toS E fun y S1 => (match g S1 x y with
    | some d => .nx (E.set i (some d)) S1
    | none => .bad)
  | _ => .bad
theorem sd_aug {i : Nat} {x : Str} {e : Expr} {m : ME} {op : Operator} {ti : TIp} {pos' : Pos} {g : Sto → D → D → Option D} (hN : X.N.Nodup) (hi : X.N[i]? = some x) (hx : Loc X.env.scope x) (he : ED X W e m) (ho : PIp X op ti) (hr : ∀ x y H Q, rP X.K g x y H Q → ti x y H Q)
    (hf : X.fn x = true ∨ X.env.scope.names.lookup x = some .local := by first | exact .inl rfl | exact .inr rfl | assumption) (hw : W.fix = none := by rfl) : SD X W (.AugAssign (.Name x pos') op e pos) (mAug i g m) := by
  refine sd_of (ps_aug hN hi hx he ho hf) fun D σ H ρ S E r er p => ?_
  unfold mAug at p
  cases q : E[i]? with
  | none => rw [q] at p; exact p.elim
  | some o =>
    cases o with
    | none => rw [q] at p; exact p.elim
    | some d0 =>
      rw [q] at p
      obtain ⟨v, h1, h2⟩ := er.2.2.2 i d0 q
      refine ⟨v, h1, ρ, S, E, r, er, (SPost.bind (R := DV X.K) er p).imp fun y H1 ⟨ρ1, S1, dy, r1, e1, d1, p1⟩ => ?_⟩
      cases hg : g S1 d0 dy with
      | none => rw [hg] at p1; exact p1.elim
      | some d =>
        rw [hg] at p1
        refine hr _ _ _ _ ⟨ρ1, S1, d0, dy, d, r1, DV.mono e1 _ _ h2, d1, hg, fun ρ' H' v' r' e' dv' => ?_⟩
        exact p1 ρ' H' _ r' e' (((er.mono e1).mono e').set hw i dv')
/-! ### while -/
def whileN (c : MT) (b : MS) : Nat → Evn → Sto → Option SO
  | 0, _, _ => none
  | n + 1, E, S => match c E S with
    | .ok true S1 => (match b E S1 with
      | .nx E2 S2 => whileN c b n E2 S2
      | .ct E2 S2 => whileN c b n E2 S2
      | .bk E2 S2 => some (.nx E2 S2)
      | r => some r)
    | .ok false S1 => some (.nx E S1)
    | .ex e S1 => some (.ex e E S1)
    | .bad => some .bad
theorem whileN_mono {c : MT} {b : MS} : ∀ (n : Nat) (E : Evn) (S : Sto) (r : SO), whileN c b n E S = some r → whileN c b (n + 1) E S = some r
  | 0, E, S, r, h => by cases h
  | n + 1, E, S, r, h => by
    unfold whileN at h ⊢
    cases q : c E S with
    | ok x S1 =>
      cases x with
      | false => rw [q] at h; exact h
      | true =>
        rw [q] at h
        simp only at h ⊢
        cases q2 : b E S1 with
        | nx E2 S2 => rw [q2] at h; exact whileN_mono n E2 S2 r h
        | ct E2 S2 => rw [q2] at h; exact whileN_mono n E2 S2 r h
        | bk E2 S2 => rw [q2] at h; exact h
        | rt d S2 => rw [q2] at h; exact h
        | ex e E2 S2 => rw [q2] at h; exact h
        | bad => rw [q2] at h; exact h
    | ex e S1 => rw [q] at h; exact h
    | bad => rw [q] at h; exact h
theorem whileN_le {c : MT} {b : MS} {n m : Nat} {E : Evn} {S : Sto} {r : SO} (h : whileN c b n E S = some r) (hm : n ≤ m) : whileN c b m E S = some r := by
  induction hm with
  | refl => exact h
  | step _ ih => exact whileN_mono _ _ _ _ ih
open Classical in
noncomputable def mWhile (c : MT) (b : MS) : MS := fun E S => if h : ∃ r n, whileN c b n E S = some r then Classical.choose h else .bad
theorem mWhile_of {c : MT} {b : MS} {n : Nat} {E : Evn} {S : Sto} {r : SO} (h : whileN c b n E S = some r) : mWhile c b E S = r := by
  have hx : ∃ r n, whileN c b n E S = some r := ⟨r, n, h⟩
  unfold mWhile
  rw [dif_pos hx]
  obtain ⟨m, hm⟩ := Classical.choose_spec hx
  have h1 := whileN_le h (Nat.le_max_left n m)
  have h2 := whileN_le hm (Nat.le_max_right n m)
  rw [h1] at h2
  exact (Option.some.inj h2).symm
theorem mWhile_some {c : MT} {b : MS} {E : Evn} {S : Sto} (h : mWhile c b E S ≠ .bad) : ∃ n, whileN c b n E S = some (mWhile c b E S) := by
  unfold mWhile at h ⊢
  by_cases hx : ∃ r n, whileN c b n E S = some r
  · rw [dif_pos hx]; exact Classical.choose_spec hx
  · rw [dif_neg hx] at h; exact absurd rfl h
/-- one turn -/
theorem mWhile_step {c : MT} {b : MS} {E E2 : Evn} {S S1 S2 : Sto} (h : c E S = .ok true S1) (hb : b E S1 = .nx E2 S2) : mWhile c b E S = mWhile c b E2 S2 := by
  by_cases hx : ∃ r n, whileN c b n E2 S2 = some r
  · obtain ⟨r, n, hn⟩ := hx
    rw [mWhile_of hn]
    exact mWhile_of (n := n + 1) (by unfold whileN; rw [h]; simp only; rw [hb]; exact hn)
  · have hy : ¬ ∃ r n, whileN c b n E S = some r := fun ⟨r, n, hn⟩ => by
      cases n with
      | zero => cases hn
      | succ n =>
        unfold whileN at hn
        rw [h] at hn
        simp only at hn
        rw [hb] at hn
        exact hx ⟨r, n, hn⟩
    unfold mWhile
    rw [dif_neg hx, dif_neg hy]
theorem mWhile_stepC {c : MT} {b : MS} {E E2 : Evn} {S S1 S2 : Sto} (h : c E S = .ok true S1) (hb : b E S1 = .ct E2 S2) : mWhile c b E S = mWhile c b E2 S2 := by
  by_cases hx : ∃ r n, whileN c b n E2 S2 = some r
  · obtain ⟨r, n, hn⟩ := hx
    rw [mWhile_of hn]
    exact mWhile_of (n := n + 1) (by unfold whileN; rw [h]; simp only; rw [hb]; exact hn)
  · have hy : ¬ ∃ r n, whileN c b n E S = some r := fun ⟨r, n, hn⟩ => by
      cases n with
      | zero => cases hn
      | succ n =>
        unfold whileN at hn
        rw [h] at hn
        simp only at hn
        rw [hb] at hn
        exact hx ⟨r, n, hn⟩
    unfold mWhile
    rw [dif_neg hx, dif_neg hy]
theorem mWhile_done {c : MT} {b : MS} {E : Evn} {S S1 : Sto} (h : c E S = .ok false S1) : mWhile c b E S = .nx E S1 := mWhile_of (n := 1) (by unfold whileN; rw [h])
theorem mWhile_ret {c : MT} {b : MS} {E : Evn} {S S1 S2 : Sto} {d : D} (h : c E S = .ok true S1) (hb : b E S1 = .rt d S2) : mWhile c b E S = .rt d S2 := mWhile_of (n := 1) (by unfold whileN; rw [h]; simp only; rw [hb])
theorem mWhile_brk {c : MT} {b : MS} {E E2 : Evn} {S S1 S2 : Sto} (h : c E S = .ok true S1) (hb : b E S1 = .bk E2 S2) : mWhile c b E S = .nx E2 S2 := mWhile_of (n := 1) (by unfold whileN; rw [h]; simp only; rw [hb])
theorem mWhile_exc {c : MT} {b : MS} {E E2 : Evn} {S S1 S2 : Sto} {e : Exn} (h : c E S = .ok true S1) (hb : b E S1 = .ex e E2 S2) : mWhile c b E S = .ex e E2 S2 := mWhile_of (n := 1) (by unfold whileN; rw [h]; simp only; rw [hb])
theorem sd_while {c : Expr} {body : List Stmt} {mc : MT} {mb : MS} (hp : PassesOwn (model X.prog X.w) X.A X.env X.xe) (hc : TD X W c mc) (hb : BD X W body mb) : SD X W (.While c body [] pos) (mWhile mc mb) := by
  refine sd_of (ps_while hp hc hb) fun D σ H ρ S E r er p => ?_
  have hne : mWhile mc mb E S ≠ .bad := fun z => by rw [z] at p; exact p
  obtain ⟨n, hn⟩ := mWhile_some hne
  generalize mWhile mc mb E S = res at p hn hne
  refine ⟨fun m σ1 H1 => ∃ ρ1 S1 E1, Rel X.K ρ1 S1 H1 ∧ Ext X.K ρ H ρ1 H1 ∧ ER X.K W ρ1 H1 E1 σ1 ∧ whileN mc mb m E1 S1 = some res, ⟨n, ρ, S, E, r, Ext.refl, er, hn⟩, ?_⟩
  rintro m σ1 H1 ⟨ρ1, S1, E1, r1, e1, er1, hm⟩
  cases m with
  | zero => cases hm
  | succ m =>
    refine ⟨ρ1, S1, E1, r1, er1, ?_⟩
    unfold whileN at hm
    cases q : mc E1 S1 with
    | bad =>
      rw [q] at hm
      exact absurd (Option.some.inj hm).symm hne
    | ex e S2 =>
      rw [q] at hm
      cases Option.some.inj hm
      exact fun ρ' H' c dx r' e' x => p ρ' H' σ1 c dx r' (e1.trans e') (er1.mono e') x
    | ok x S2 =>
      rw [q] at hm
      intro ρ2 H2 v r2 e2 hv
      subst hv
      cases x with
      | false =>
        rw [if_neg (by simp)]
        cases Option.some.inj hm
        exact p ρ2 H2 σ1 r2 (e1.trans e2) (er1.mono e2)
      | true =>
        rw [if_pos rfl]
        simp only at hm
        refine ⟨fun σ' H' => ∃ ρ1 S1 E1, Rel X.K ρ1 S1 H' ∧ Ext X.K ρ H ρ1 H' ∧ ER X.K W ρ1 H' E1 σ' ∧ whileN mc mb m E1 S1 = some res, fun σ' H' h => ⟨m, Nat.lt_succ_self m, h⟩, ρ2, S2, E1, r2, er1.mono e2, ?_⟩
        cases q2 : mb E1 S2 with
        | nx E3 S3 => rw [q2] at hm; exact fun ρ' H' σ' r' e' er' => ⟨ρ', S3, E3, r', (e1.trans e2).trans e', er', hm⟩
        | ct E3 S3 => rw [q2] at hm; exact fun ρ' H' σ' r' e' er' => ⟨ρ', S3, E3, r', (e1.trans e2).trans e', er', hm⟩
        | bk E3 S3 =>
          rw [q2] at hm
          cases Option.some.inj hm
          exact fun ρ' H' σ' r' e' er' => p ρ' H' σ' r' ((e1.trans e2).trans e') er'
        | rt d S3 =>
          rw [q2] at hm
          cases Option.some.inj hm
          exact fun ρ' H' v r' e' dv => p ρ' H' v r' ((e1.trans e2).trans e') dv
        | ex e E3 S3 =>
          rw [q2] at hm
          cases Option.some.inj hm
          exact fun ρ' H' σ' c dx r' e' er' x => p ρ' H' σ' c dx r' ((e1.trans e2).trans e') er' x
        | bad =>
          rw [q2] at hm
          exact absurd (Option.some.inj hm).symm hne
/-! ### for -/
/-- what a loop walks: its items; the list that must stand as it stood, where it is one that may change -/
structure ItD where
  items : List D
  chk : Option (Nat × List D)
open Classical in
noncomputable def chkOk (c : Option (Nat × List D)) (S : Sto) : Prop := match c with
  | none => True
  | some (n, xs) => S[n]? = some (.lst xs)
abbrev MI := Evn → Sto → Out ItD
open Classical in
noncomputable def forD (c : Option (Nat × List D)) (g : MG) (b : MS) : List D → Evn → Sto → SO
  | [], E, S => if chkOk c S then .nx E S else .bad
  | x :: r, E, S => if chkOk c S then (g x E S).toS E fun E1 S1 => (match b E1 S1 with
      | .nx E2 S2 => forD c g b r E2 S2
      | .ct E2 S2 => forD c g b r E2 S2
      | .bk E2 S2 => .nx E2 S2
      | o => o) else .bad
noncomputable def mFor (it : MI) (g : MG) (b : MS) : MS := fun E S => (it E S).toS E fun i S1 => forD i.chk g b i.items E S1
def Walks (K : PySem.W.Frag) (ρ0 : List Addr) (H0 : Hp) (i : ItD) (J : L2.It) : Prop := ∀ ρ S H, Rel K ρ S H → Ext K ρ0 H0 ρ H → chkOk i.chk S →
  (∀ (n : Nat) (d : D), i.items[n]? = some d → J.go n H ∧ ∀ x H', J.yld n H x H' → Rel K ρ S H' ∧ Ext K ρ H ρ H' ∧ DV K ρ H' d x) ∧ J.stop i.items.length H
theorem Walks.mono {K : PySem.W.Frag} {ρ0 ρ1 : List Addr} {H0 H1 : Hp} {i : ItD} {J : L2.It} (h : Walks K ρ0 H0 i J) (e : Ext K ρ0 H0 ρ1 H1) : Walks K ρ1 H1 i J := fun ρ S H r x c => h ρ S H r (e.trans x) c
def tI (K : PySem.W.Frag) (W : WW K) (m : MI) : TI := fun σ H R => ∃ ρ S E, Rel K ρ S H ∧ ER K W ρ H E σ ∧ Post K (Walks K) ρ H R (fun c dx H' => W.w c dx σ H') (m E S)
def ID (X : Cx) (W : WW X.K) (tg it : Expr) (m : MI) : Prop := PI X tg it (tI X.K W m)
theorem drop_cons_of {α : Type} {l : List α} {i : Nat} {x : α} (h : l[i]? = some x) : l.drop i = x :: l.drop (i + 1) := by
  have hi := (List.getElem?_eq_some_iff.mp h).1
  rw [List.drop_eq_getElem_cons hi]
  congr 1
  exact (List.getElem?_eq_some_iff.mp h).2
theorem sd_for {tg it : Expr} {body : List Stmt} {mi : MI} {g : MG} {mb : MS} (hp : PassesOwn (model X.prog X.w) X.A X.env X.xe) (hc : X.calm = true) (hi : ID X W tg it mi) (hg : GD X W tg g) (hb : BD X W body mb)
    (hs : ∀ x, foldedSetIterable it X.env x = pure x := by intro _; rfl) : SD X W (.For tg it body [] pos) (mFor mi g mb) := by
  refine sd_of (ps_for hp hc hi hg hb hs) fun D σ H ρ S E r er p => ?_
  refine ⟨ρ, S, E, r, er, (SPost.bind (R := Walks X.K) er p).imp fun J H1 ⟨ρ1, S1, i, r1, e1, w1, p1⟩ => ?_⟩
  refine ⟨fun n m σ2 H2 => m = i.items.length - n ∧ n ≤ i.items.length ∧ ∃ ρ2 S2 E2, Rel X.K ρ2 S2 H2 ∧ Ext X.K ρ1 H1 ρ2 H2 ∧ ER X.K W ρ2 H2 E2 σ2 ∧ SPost X.K W ρ2 H2 D (forD i.chk g mb (i.items.drop n) E2 S2),
    ⟨_, rfl, Nat.zero_le _, ρ1, S1, E, r1, Ext.refl, er.mono e1, by simpa using p1⟩, ?_⟩
  rintro n m σ2 H2 ⟨rfl, hn, ρ2, S2, E2, r2, e2, er2, p2⟩
  have hck : chkOk i.chk S2 := Classical.byContradiction fun z => by
    cases q : i.items.drop n with
    | nil => rw [q, forD, if_neg z] at p2; exact p2
    | cons x rr => rw [q, forD, if_neg z] at p2; exact p2
  obtain ⟨w2, w3⟩ := w1 ρ2 S2 H2 r2 e2 hck
  by_cases hlt : n < i.items.length
  · right
    have hd : i.items[n]? = some i.items[n] := List.getElem?_eq_getElem hlt
    obtain ⟨go, yl⟩ := w2 n _ hd
    refine ⟨go, fun σ' H' => n + 1 ≤ i.items.length ∧ ∃ ρ3 S3 E3, Rel X.K ρ3 S3 H' ∧ Ext X.K ρ1 H1 ρ3 H' ∧ ER X.K W ρ3 H' E3 σ' ∧ SPost X.K W ρ3 H' D (forD i.chk g mb (i.items.drop (n + 1)) E3 S3), fun σ' H' ⟨h1, h2⟩ => ⟨i.items.length - (n + 1), by omega, rfl, h1, h2⟩, fun x H3 hy => ?_⟩
    obtain ⟨r3, e3, d3⟩ := yl x H3 hy
    rw [drop_cons_of hd, forD, if_pos hck] at p2
    refine ⟨ρ2, S2, E2, _, r3, er2.mono e3, d3, (SPost.bind (R := ER X.K W) (er2.mono e3) (p2.start e3)).imp fun σ4 H4 ⟨ρ4, S4, E4, r4, e4, er4, p4⟩ => ?_⟩
    refine ⟨ρ4, S4, E4, r4, er4, ?_⟩
    have ee := (e2.trans e3).trans e4
    cases q : mb E4 S4 with
    | nx E5 S5 => rw [q] at p4; exact fun ρ' H' σ' r' e' er' => ⟨hlt, ρ', S5, E5, r', ee.trans e', er', p4.start e'⟩
    | ct E5 S5 => rw [q] at p4; exact fun ρ' H' σ' r' e' er' => ⟨hlt, ρ', S5, E5, r', ee.trans e', er', p4.start e'⟩
    | bk E5 S5 => rw [q] at p4; exact p4
    | rt d S5 => rw [q] at p4; exact p4
    | ex e E5 S5 => rw [q] at p4; exact p4
    | bad => rw [q] at p4; exact p4
  · left
    have hn2 : n = i.items.length := by omega
    subst hn2
    rw [List.drop_length, forD, if_pos hck] at p2
    exact ⟨w3, p2 ρ2 H2 σ2 r2 Ext.refl er2⟩
/-! what may be walked -/
def rngD (lo : Int) (n : Nat) : List D := (List.range n).map fun (i : Nat) => D.int (lo + (i : Int))
theorem rngD_get {lo : Int} {n i : Nat} {d : D} (h : (rngD lo n)[i]? = some d) : i < n ∧ d = .int (lo + (i : Int)) := by
  unfold rngD at h
  rw [List.getElem?_map] at h
  by_cases hi : i < n
  · rw [List.getElem?_eq_getElem (by simpa using hi)] at h
    simp at h
    exact ⟨hi, h.symm⟩
  · rw [List.getElem?_eq_none (by simpa using hi)] at h
    cases h
theorem walks_range {K : PySem.W.Frag} {ρ : List Addr} {H : Hp} {lo : Int} {n : Nat} : Walks K ρ H ⟨rngD lo n, none⟩ (Itr lo n) := by
  intro ρ1 S H1 r e c
  refine ⟨fun i d hd => ?_, by simp [rngD, Itr]⟩
  obtain ⟨h1, rfl⟩ := rngD_get hd
  refine ⟨h1, fun x H' hy => ?_⟩
  obtain ⟨rfl, rfl⟩ := hy
  exact ⟨r, Ext.refl, by simp [DV]⟩
def small62 (j : Int) : Prop := -(2 ^ 62) ≤ j ∧ j < 2 ^ 62
def int1 : List D → Option Int
  | [.int j] => some j
  | _ => none
def int2 : List D → Option (Int × Int)
  | [.int i, .int j] => some (i, j)
  | _ => none
theorem int1_some {ds : List D} {j : Int} (h : int1 ds = some j) : ds = [.int j] := by
  unfold int1 at h
  split at h
  · cases h; rfl
  · cases h
theorem int2_some {ds : List D} {i j : Int} (h : int2 ds = some (i, j)) : ds = [.int i, .int j] := by
  unfold int2 at h
  split at h
  · cases h; rfl
  · cases h
open Classical in
noncomputable def iRange1 (a : MA) : MI := fun E S => (a E S).bind fun ds S1 => match int1 ds with
  | some j => if small62 j then .ok ⟨rngD 0 j.toNat, none⟩ S1 else .bad
  | none => .bad
open Classical in
noncomputable def iRange2 (a : MA) : MI := fun E S => (a E S).bind fun ds S1 => match int2 ds with
  | some (i, j) => if small62 i ∧ small62 j then .ok ⟨rngD i (j - i).toNat, none⟩ S1 else .bad
  | none => .bad
theorem PI.impI {tg e : Expr} {t : TI} {m : MI} (h : PI X tg e t) (i : ∀ σ H R ρ S E, Rel X.K ρ S H → ER X.K W ρ H E σ → Post X.K (Walks X.K) ρ H R (fun c dx H' => W.w c dx σ H') (m E S) → t σ H R) : ID X W tg e m :=
  PI.imp h fun σ H R ⟨ρ, S, E, r, er, p⟩ => i σ H R ρ S E r er p
theorem dvs_int1 {K : PySem.W.Frag} {ρ : List Addr} {H : Hp} {j : Int} {vs : List V} (h : DVs K ρ H [.int j] vs) : vs = [.int j] := by
  simp only [DVs, DV] at h
  obtain ⟨v, r, rfl, rfl, rfl⟩ := h
  rfl
theorem dvs_int2 {K : PySem.W.Frag} {ρ : List Addr} {H : Hp} {i j : Int} {vs : List V} (h : DVs K ρ H [.int i, .int j] vs) : vs = [.int i, .int j] := by
  simp only [DVs, DV] at h
  obtain ⟨v, r, rfl, rfl, w, q, rfl, rfl, rfl⟩ := h
  rfl
theorem id_range1 {tg a : Expr} {ma : MA} {p : Pos} (hg : Gl X "range") (hm : X.mg "range" = none) (ha : AD X W [a] ma) (hs : starEach [a] X.env = [(false, eval a X.env)] := by rfl) : ID X W tg (.Call (.Name "range" p) [a] [] pos) (iRange1 ma) := by
  refine PI.impI (pi_range1 hg hm ha hs) fun σ H R ρ S E r er p => ?_
  refine ⟨ρ, S, E, r, er, (Post.bind (R := DVs X.K) p).imp fun vs H1 ⟨ρ1, S1, ds, r1, e1, d1, p1⟩ => ?_⟩
  cases q : int1 ds with
  | none => rw [q] at p1; exact p1.elim
  | some j =>
    rw [q] at p1
    have := int1_some q
    subst this
    simp only at p1
    by_cases hj : small62 j
    · rw [if_pos hj] at p1
      exact ⟨j, dvs_int1 d1, hj.1, hj.2, p1 ρ1 H1 _ r1 Ext.refl walks_range⟩
    · rw [if_neg hj] at p1; exact p1.elim
theorem id_range2 {tg a b : Expr} {ma : MA} {p : Pos} (hg : Gl X "range") (hm : X.mg "range" = none) (ha : AD X W [a, b] ma) (hs : starEach [a, b] X.env = [(false, eval a X.env), (false, eval b X.env)] := by rfl) (hs2 : starEach [b] X.env = [(false, eval b X.env)] := by rfl) : ID X W tg (.Call (.Name "range" p) [a, b] [] pos) (iRange2 ma) := by
  refine PI.impI (pi_range2 hg hm ha hs hs2) fun σ H R ρ S E r er p => ?_
  refine ⟨ρ, S, E, r, er, (Post.bind (R := DVs X.K) p).imp fun vs H1 ⟨ρ1, S1, ds, r1, e1, d1, p1⟩ => ?_⟩
  cases q : int2 ds with
  | none => rw [q] at p1; exact p1.elim
  | some ij =>
    obtain ⟨i, j⟩ := ij
    rw [q] at p1
    have := int2_some q
    subst this
    simp only at p1
    by_cases hj : small62 i ∧ small62 j
    · rw [if_pos hj] at p1
      exact ⟨i, j, dvs_int2 d1, ⟨hj.1.1, hj.1.2, hj.2.1, hj.2.2⟩, p1 ρ1 H1 _ r1 Ext.refl walks_range⟩
    · rw [if_neg hj] at p1; exact p1.elim
/-- the items of a value: a tuple, a list -/
def iSeq (a : ME) : MI := fun E S => (a E S).bind fun d S1 => match d with
  | .tup xs => .ok ⟨xs, none⟩ S1
  | .lst xs => .ok ⟨xs, none⟩ S1
  | .fz xs => .ok ⟨xs, none⟩ S1
  | .loc n => (match S1[n]? with
    | some (.lst xs) => .ok ⟨xs, some (n, xs)⟩ S1
    | _ => .bad)
  | _ => .bad
theorem walks_tup {ρ : List Addr} {H : Hp} {xs : List D} {vs : List V} {a : Addr} (h1 : SqT X.K H a vs) (h2 : DVs X.K ρ H xs vs) : Walks X.K ρ H ⟨xs, none⟩ (Itt X.K a) := by
  intro ρ1 S H1 r e c
  have s1 := e.tup _ _ h1
  have d1 := DVs.mono e _ _ h2
  refine ⟨fun i d hd => ?_, ⟨vs, s1, by rw [d1.length]; exact Nat.le_refl _⟩⟩
  obtain ⟨v, hv, dv⟩ := d1.get hd
  refine ⟨⟨vs, v, s1, hv⟩, fun x H' hy => ?_⟩
  obtain ⟨rfl, hy⟩ := hy
  have := hy vs s1
  rw [hv] at this
  cases this
  exact ⟨r, Ext.refl, dv⟩
theorem walks_lst {ρ : List Addr} {H : Hp} {xs : List D} {vs : List V} {a : Addr} (h1 : LstP ρ H a vs) (h2 : DVs X.K ρ H xs vs) : Walks X.K ρ H ⟨xs, none⟩ (Itl X.K a) := by
  intro ρ1 S H1 r e c
  have s1 : SqL X.K H1 a vs := (h1.mono e).seq
  have d1 := DVs.mono e _ _ h2
  refine ⟨fun i d hd => ?_, ⟨vs, s1, by rw [d1.length]; exact Nat.le_refl _⟩⟩
  obtain ⟨v, hv, dv⟩ := d1.get hd
  refine ⟨⟨vs, v, s1, hv⟩, fun x H' hy => ?_⟩
  obtain ⟨rfl, hy⟩ := hy
  have := hy vs s1
  rw [hv] at this
  cases this
  exact ⟨r, Ext.refl, dv⟩
theorem walks_fz {ρ : List Addr} {H : Hp} {xs : List D} {vs : List V} {a : Addr} (h1 : FzP X.K H a vs) (h2 : DVs X.K ρ H xs vs) : Walks X.K ρ H ⟨xs, none⟩ (Itl X.K a) := by
  intro ρ1 S H1 r e c
  have s1 := (h1.mono e).seq
  have d1 := DVs.mono e _ _ h2
  refine ⟨fun i d hd => ?_, ⟨vs, s1, by rw [d1.length]; exact Nat.le_refl _⟩⟩
  obtain ⟨v, hv, dv⟩ := d1.get hd
  refine ⟨⟨vs, v, s1, hv⟩, fun x H' hy => ?_⟩
  obtain ⟨rfl, hy⟩ := hy
  have := hy vs s1
  rw [hv] at this
  cases this
  exact ⟨r, Ext.refl, dv⟩
theorem Rel.lst {K : PySem.W.Frag} {ρ : List Addr} {S : Sto} {H : Hp} (r : Rel K ρ S H) {n : Nat} {xs : List D} {a : Addr} (h : S[n]? = some (.lst xs)) (ha : ρ[n]? = some a) : ∃ vs, H a = some (.lst vs) ∧ DVs K ρ H xs vs := r.at_ n _ a h ha
theorem walks_loc {ρ : List Addr} {H : Hp} {xs : List D} {n : Nat} {a : Addr} (ha : ρ[n]? = some a) : Walks X.K ρ H ⟨xs, some (n, xs)⟩ (Itl X.K a) := by
  intro ρ1 S H1 r e c
  obtain ⟨t, rfl⟩ := e.pre
  have ha1 : (ρ ++ t)[n]? = some a := by rw [List.getElem?_append_left (List.getElem?_eq_some_iff.mp ha).1]; exact ha
  obtain ⟨vs, h1, d1⟩ := r.lst c ha1
  refine ⟨fun i d hd => ?_, ⟨vs, SqL.of h1, by rw [d1.length]; exact Nat.le_refl _⟩⟩
  obtain ⟨v, hv, dv⟩ := d1.get hd
  refine ⟨⟨vs, v, SqL.of h1, hv⟩, fun x H' hy => ?_⟩
  obtain ⟨rfl, hy⟩ := hy
  have := hy vs (SqL.of h1)
  rw [hv] at this
  cases this
  exact ⟨r, Ext.refl, dv⟩
theorem PI.or {tg e : Expr} {t u : TI} (h : PI X tg e t) (k : PI X tg e u) : PI X tg e (fun σ H R => t σ H R ∨ u σ H R) :=
  ⟨fun pins s σ H R I q => q.elim (h.run pins s σ H R I) (k.run pins s σ H R I)⟩
theorem id_seq {tg e : Expr} {m : ME} (h : ED X W e m) : ID X W tg e (iSeq m) := by
  refine PI.impI (PI.or (pi_tup h) (pi_list h)) fun σ H R ρ S E r er p => ?_
  unfold iSeq at p
  cases q : m E S with
  | bad => rw [q] at p; exact p.elim
  | ex e S1 => rw [q] at p; exact .inl ⟨ρ, S, E, r, er, by rw [q]; exact p⟩
  | ok d S1 =>
    rw [q, bind_ok] at p
    cases d with
    | tup xs =>
      refine .inl ⟨ρ, S, E, r, er, ?_⟩
      rw [q]
      intro ρ1 H1 v r1 e1 dv
      simp only [DV] at dv
      obtain ⟨a, vs, rfl, h1, h2⟩ := dv
      exact ⟨a, rfl, ⟨vs, h1⟩, p ρ1 H1 _ r1 e1 (walks_tup h1 h2)⟩
    | lst xs =>
      refine .inr ⟨ρ, S, E, r, er, ?_⟩
      rw [q]
      intro ρ1 H1 v r1 e1 dv
      simp only [DV] at dv
      obtain ⟨a, vs, rfl, h1, h2⟩ := dv
      exact ⟨a, rfl, ⟨vs, h1.seq⟩, p ρ1 H1 _ r1 e1 (walks_lst h1 h2)⟩
    | fz xs =>
      refine .inr ⟨ρ, S, E, r, er, ?_⟩
      rw [q]
      intro ρ1 H1 v r1 e1 dv
      simp only [DV] at dv
      obtain ⟨a, vs, rfl, h1, h2⟩ := dv
      exact ⟨a, rfl, ⟨vs, h1.seq⟩, p ρ1 H1 _ r1 e1 (walks_fz h1 h2)⟩
    | loc n =>
      refine .inr ⟨ρ, S, E, r, er, ?_⟩
      rw [q]
      intro ρ1 H1 v r1 e1 dv
      simp only [DV] at dv
      obtain ⟨a, rfl, h1⟩ := dv
      simp only at p
      cases hS : S1[n]? with
      | none => rw [hS] at p; exact p.elim
      | some o =>
        cases o with
        | lst xs =>
          rw [hS] at p
          obtain ⟨vs, h2, d2⟩ := r1.lst hS h1
          exact ⟨a, rfl, ⟨vs, SqL.of h2⟩, p ρ1 H1 _ r1 e1 (walks_loc h1)⟩
        | _ => rw [hS] at p; exact p.elim
    | _ => exact p.elim
/-! ### a def's body -/
def runB (N : Nat) (b : MS) : MF := fun ds S => match b (ds.map some ++ List.replicate (N - ds.length) none) S with
  | .nx _ S' => .ok .non S'
  | .rt d S' => .ok d S'
  | .ex e _ S' => .ex e S'
  | _ => .bad
theorem er_start {K : PySem.W.Frag} {W : WX} {ρ : List Addr} {H : Hp} {ds : List D} {vs : List V} {N : List Str} (h : DVs K ρ H ds vs) : ER K (WW.of W) ρ H (ds.map some ++ List.replicate (N.length - ds.length) none) (L2.start N vs) := by
  unfold L2.start
  refine ⟨trivial, fun i a z => (by cases z), by simp [h.length], fun i d e => ?_⟩
  by_cases hi : i < ds.length
  · rw [List.getElem?_append_left (by simpa using hi), List.getElem?_map] at e
    cases q : ds[i]? with
    | none => rw [q] at e; cases e
    | some d' =>
      rw [q] at e
      simp only [Option.map_some, Option.some.injEq] at e
      subst e
      obtain ⟨v, h1, h2⟩ := h.get q
      refine ⟨v, ?_, h2⟩
      rw [List.getElem?_append_left (by simpa [← h.length] using hi), List.getElem?_map, h1]
      rfl
  · rw [List.getElem?_append_right (by simpa using hi)] at e
    rw [List.getElem?_replicate] at e
    split at e <;> cases e
theorem spM_len {K : PySem.W.Frag} {n : Nat} {m : MF} (vs : List V) (H : Hp) (Q : VK) (E : XK) (h : spM K n m vs H Q E) : vs.length = n := by
  obtain ⟨ρ, S, ds, r, dv, hl, p⟩ := h
  rw [← dv.length]; exact hl
/-- a def by its body -/
theorem fn_run {P : Program} {w : World} {K : PySem.W.Frag} {mg : Str → Option Value} {base : Heap} {x qual : Str} {params : Arguments} {body : List Stmt} {scope : Scope} {dvs : List V} {kws : List (Str × V)} {f : Addr} {fd : FuncData} {k : Nat} {N ps : List Str} {b : MS} {n : Nat}
    (F : FunD K x qual params body scope dvs kws f fd) (Sc : FnScope N ps scope) (hn : ps.length = n)
    (hb : ∀ (cdv : Value) (A : Around) (outer : List Env) (s : Shared) (H : Hp) (E : XK), Room k (A.deeper (envOfC qual scope s.heap.objs.size f cdv)) → BD (cxOf (L2.CX P w) P w K mg base N qual scope f cdv A outer s H E) (WW.of (K := K) fun c d _ H => E c d H) body b) :
    FnOk P w K mg base (L2.CX P w) (k + 1) f fd ps (spM K n (runB N.length b)) := by
  refine F.ok Sc (fun vs H Q E h => by rw [hn]; exact spM_len vs H Q E h) (fun cdv A outer s H vs Q E hr h => ⟨_, hb cdv A outer s H E hr, ?_⟩)
  obtain ⟨ρ, S, ds, r, dv, hl, p⟩ := h
  refine ⟨ρ, S, _, r, er_start dv, ?_⟩
  unfold runB at p
  cases q : b (ds.map some ++ List.replicate (N.length - ds.length) none) S with
  | nx E' S' => rw [q] at p; exact fun ρ' H' σ' r' e' er' => p ρ' H' .non r' e' (by simp [DV])
  | rt d S' => rw [q] at p; exact p
  | bk E' S' => rw [q] at p; exact p.elim
  | ct E' S' => rw [q] at p; exact p.elim
  | ex e E' S' => rw [q] at p; exact fun ρ' H' σ' c dx r' e' er' x => p ρ' H' c dx r' e' x
  | bad => rw [q] at p; exact p
end
end PD

/-! PyD3: the operators and the built-ins. -/
namespace PD
open PySem PySem.Spec PyProof.Rows L2
section
variable {X : Cx} {W : WW X.K} {pos : Pos}
/-! ### reading values -/
theorem dv_int {K : PySem.W.Frag} {ρ : List Addr} {H : Hp} {i : Int} {v : V} : DV K ρ H (.int i) v ↔ v = .int i := by simp [DV]
theorem dv_bl {K : PySem.W.Frag} {ρ : List Addr} {H : Hp} {i : Bool} {v : V} : DV K ρ H (.bl i) v ↔ v = .bl i := by simp [DV]
theorem dv_str {K : PySem.W.Frag} {ρ : List Addr} {H : Hp} {i : Tx} {v : V} : DV K ρ H (.str i) v ↔ v = sv i := by simp [DV]
theorem dv_non {K : PySem.W.Frag} {ρ : List Addr} {H : Hp} {v : V} : DV K ρ H .non v ↔ v = .non := by simp [DV]
/-- the list at a value, tracked by itself -/
def seqL (S : Sto) : D → Option (List D)
  | .lst xs => some xs
  | .loc n => (match S[n]? with
    | some (.lst xs) => some xs
    | _ => none)
  | _ => none
/-- the same, the locked ones too -/
def seqF (S : Sto) : D → Option (List D)
  | .lst xs => some xs
  | .fz xs => some xs
  | .loc n => (match S[n]? with
    | some (.lst xs) => some xs
    | _ => none)
  | _ => none
theorem seqL_ok {K : PySem.W.Frag} {ρ : List Addr} {S : Sto} {H : Hp} (r : Rel K ρ S H) {d : D} {v : V} {xs : List D} (h : DV K ρ H d v) (q : seqL S d = some xs) : ∃ a vs, v = .ref a ∧ H a = some (.lst vs) ∧ DVs K ρ H xs vs := by
  cases d with
  | lst ys =>
    cases q
    simp only [DV] at h
    obtain ⟨a, vs, rfl, h1, h2⟩ := h
    exact ⟨a, vs, rfl, h1.2, h2⟩
  | loc n =>
    simp only [DV] at h
    obtain ⟨a, rfl, h1⟩ := h
    unfold seqL at q
    simp only at q
    cases e : S[n]? with
    | none => rw [e] at q; cases q
    | some o =>
      cases o with
      | lst ys =>
        rw [e] at q
        cases q
        obtain ⟨vs, h2, d2⟩ := r.lst e h1
        exact ⟨a, vs, rfl, h2, d2⟩
      | _ => rw [e] at q; cases q
  | _ => cases q
theorem seqF_ok {K : PySem.W.Frag} {ρ : List Addr} {S : Sto} {H : Hp} (r : Rel K ρ S H) {d : D} {v : V} {xs : List D} (h : DV K ρ H d v) (q : seqF S d = some xs) : ∃ a vs, v = .ref a ∧ SqL K H a vs ∧ DVs K ρ H xs vs := by
  cases d with
  | fz ys =>
    cases q
    simp only [DV] at h
    obtain ⟨a, vs, rfl, h1, h2⟩ := h
    exact ⟨a, vs, rfl, h1.seq, h2⟩
  | lst ys =>
    cases q
    obtain ⟨a, vs, rfl, h1, h2⟩ := seqL_ok r h (xs := xs) rfl
    exact ⟨a, vs, rfl, SqL.of h1, h2⟩
  | loc n =>
    obtain ⟨a, vs, rfl, h1, h2⟩ := seqL_ok r h (xs := xs) q
    exact ⟨a, vs, rfl, SqL.of h1, h2⟩
  | _ => cases q
theorem tup_ok {K : PySem.W.Frag} {ρ : List Addr} {H : Hp} {v : V} {xs : List D} (h : DV K ρ H (.tup xs) v) : ∃ a vs, v = .ref a ∧ SqT K H a vs ∧ DVs K ρ H xs vs := by
  simp only [DV] at h
  exact h
/-! ### + -/
open Classical in
noncomputable def catL (a b : List D) : Option D := if sizeOk (a.length + b.length) then some (.lst (a ++ b)) else none
open Classical in
noncomputable def gAdd (S : Sto) (x y : D) : Option D := match x, y with
  | .int i, .int j => some (.int (i + j))
  | .str a, .str b => if sizeOk (a.length + b.length) then some (.str (a ++ b)) else none
  | .tup a, .tup b => if sizeOk (a.length + b.length) then some (.tup (a ++ b)) else none
  | x, y => (match seqL S x, seqL S y with
    | some a, some b => catL a b
    | _, _ => none)
theorem sv_len (a : Tx) : (⟨a.toArray⟩ : Str).length = a.length := by simp [Str.length]
theorem sv_cat (a b : Tx) : (⟨a.toArray⟩ : Str) ++ (⟨b.toArray⟩ : Str) = ⟨(a ++ b).toArray⟩ := by
  show (⟨a.toArray ++ b.toArray⟩ : Str) = _
  simp
theorem post_int {K : PySem.W.Frag} {ρ : List Addr} {S : Sto} {H : Hp} {Q : VK} {i : Int} (r : Rel K ρ S H) (q : ∀ ρ' H' v, Rel K ρ' S H' → Ext K ρ H ρ' H' → DV K ρ' H' (.int i) v → Q v H') : Q (.int i) H := q ρ H _ r Ext.refl (by simp [DV])
theorem post_bl {K : PySem.W.Frag} {ρ : List Addr} {S : Sto} {H : Hp} {Q : VK} {i : Bool} (r : Rel K ρ S H) (q : ∀ ρ' H' v, Rel K ρ' S H' → Ext K ρ H ρ' H' → DV K ρ' H' (.bl i) v → Q v H') : Q (.bl i) H := q ρ H _ r Ext.refl (by simp [DV])
theorem post_str {K : PySem.W.Frag} {ρ : List Addr} {S : Sto} {H : Hp} {Q : VK} {i : Tx} (r : Rel K ρ S H) (q : ∀ ρ' H' v, Rel K ρ' S H' → Ext K ρ H ρ' H' → DV K ρ' H' (.str i) v → Q v H') : Q (sv i) H := q ρ H _ r Ext.refl (by simp [DV])
theorem post_lst {K : PySem.W.Frag} {ρ : List Addr} {S : Sto} {H : Hp} {Q : VK} {xs : List D} {vs : List V} {p : Addr} (r : Rel K ρ S H) (hp : H p = none) (h : DVs K ρ H xs vs) (q : ∀ ρ' H' v, Rel K ρ' S H' → Ext K ρ H ρ' H' → DV K ρ' H' (.lst xs) v → Q v H') : Q (.ref p) (upd H p (.lst vs)) :=
  q ρ _ _ (r.new hp) (Ext.new hp) (dv_lst hp (r.notin hp) h)
theorem post_tup {K : PySem.W.Frag} {ρ : List Addr} {S : Sto} {H : Hp} {Q : VK} {xs : List D} {vs : List V} {p : Addr} (r : Rel K ρ S H) (hp : H p = none) (h : DVs K ρ H xs vs) (q : ∀ ρ' H' v, Rel K ρ' S H' → Ext K ρ H ρ' H' → DV K ρ' H' (.tup xs) v → Q v H') : Q (.ref p) (upd H p (.tup vs)) :=
  q ρ _ _ (r.new hp) (Ext.new hp) (dv_tup hp h)
def rAddD (K : PySem.W.Frag) : R2 := fun x y H Q => (rI0 fun i j => .int (i + j)) x y H Q ∨ (∃ i j, x = .str i ∧ y = .str j ∧ i.length + j.length ≤ sizeLine ∧ Q (.str (i ++ j)) H) ∨ rCatA K x y H Q ∨ rCat x y H Q
theorem op_addD : OpR X (binaryOp .Add) (rAddD X.K) := op_add.or (op_add_str.or (op_catA.or op_cat))
theorem add_cat {x y : D} {v u : V} {H : Hp} {Q : VK} {ρ : List Addr} {S : Sto} {d : D} {K : PySem.W.Frag} (r : Rel K ρ S H) (dx : DV K ρ H x v) (dy : DV K ρ H y u)
    (hg : (match seqL S x, seqL S y with
    | some a, some b => catL a b
    | _, _ => none) = some d) (q : ∀ ρ' H' v, Rel K ρ' S H' → Ext K ρ H ρ' H' → DV K ρ' H' d v → Q v H') : rCat v u H Q := by
  cases e1 : seqL S x with
  | none => rw [e1] at hg; cases hg
  | some a =>
    cases e2 : seqL S y with
    | none => rw [e1, e2] at hg; cases hg
    | some b =>
      rw [e1, e2] at hg
      simp only [catL] at hg
      obtain ⟨p, vs, rfl, h1, d1⟩ := seqL_ok r dx e1
      obtain ⟨p2, us, rfl, h2, d2⟩ := seqL_ok r dy e2
      by_cases hl : sizeOk (a.length + b.length)
      · rw [if_pos hl] at hg
        cases hg
        exact ⟨p, p2, vs, us, rfl, rfl, h1, h2, by rw [← d1.length, ← d2.length]; exact hl, fun t ht => post_lst r ht (d1.append d2) q⟩
      · rw [if_neg hl] at hg; cases hg
theorem rp_add : ∀ x y H Q, rP X.K gAdd x y H Q → rAddD X.K x y H Q := by
  rintro v u H Q ⟨ρ, S, x, y, d, r, dx, dy, hg, q⟩
  unfold gAdd at hg
  split at hg
  · rw [dv_int] at dx dy
    subst dx dy
    cases hg
    exact .inl ⟨_, _, rfl, rfl, post_int r q⟩
  · rename_i a b
    rw [dv_str] at dx dy
    subst dx dy
    by_cases hl : sizeOk (a.length + b.length)
    · rw [if_pos hl] at hg
      cases hg
      exact .inr (.inl ⟨_, _, rfl, rfl, by rw [sv_len, sv_len]; exact hl, by rw [sv_cat]; exact post_str r q⟩)
    · rw [if_neg hl] at hg; cases hg
  · rename_i a b
    obtain ⟨p, vs, rfl, h1, d1⟩ := tup_ok dx
    obtain ⟨p2, us, rfl, h2, d2⟩ := tup_ok dy
    by_cases hl : sizeOk (a.length + b.length)
    · rw [if_pos hl] at hg
      cases hg
      refine .inr (.inr (.inl ⟨p, p2, vs, us, rfl, rfl, h1, h2, by rw [← d1.length, ← d2.length]; exact hl, fun e => ?_, fun _ e => ?_, fun _ _ t ht => post_tup r ht (d1.append d2) q⟩))
      · have : a = [] := List.length_eq_zero_iff.mp (by rw [d1.length, e]; rfl)
        subst this
        exact q ρ H _ r Ext.refl dy
      · have : b = [] := List.length_eq_zero_iff.mp (by rw [d2.length, e]; rfl)
        subst this
        rw [List.append_nil] at q
        exact q ρ H _ r Ext.refl dx
    · rw [if_neg hl] at hg; cases hg
  · exact .inr (.inr (.inr (add_cat r dx dy hg q)))
/-! ### the others on whole numbers -/
def gII (f : Int → Int → Option D) (_ : Sto) (x y : D) : Option D := match x, y with
  | .int i, .int j => f i j
  | _, _ => none
theorem gII_some {f : Int → Int → Option D} {S : Sto} {x y d : D} (h : gII f S x y = some d) : ∃ i j, x = .int i ∧ y = .int j ∧ f i j = some d := by
  unfold gII at h
  split at h
  · exact ⟨_, _, rfl, rfl, h⟩
  · cases h
theorem rp_ii {f : Int → Int → Option D} {r : R2} (hr : ∀ (i j : Int) (d : D) (H : Hp) (Q : VK), f i j = some d → (∀ v, (∀ K ρ H, DV K ρ H d v) → Q v H) → r (.int i) (.int j) H Q) : ∀ x y H Q, rP X.K (gII f) x y H Q → r x y H Q := by
  rintro v u H Q ⟨ρ, S, x, y, d, r, dx, dy, hg, q⟩
  obtain ⟨i, j, rfl, rfl, hf⟩ := gII_some hg
  rw [dv_int] at dx dy
  subst dx dy
  exact hr i j d H Q hf fun v hv => q ρ H v r Ext.refl (hv _ _ _)
theorem dvI {i : Int} : ∀ (K : PySem.W.Frag) (ρ : List Addr) (H : Hp), DV K ρ H (.int i) (.int i) := fun _ _ _ => by simp [DV]
theorem dvB {i : Bool} : ∀ (K : PySem.W.Frag) (ρ : List Addr) (H : Hp), DV K ρ H (.bl i) (.bl i) := fun _ _ _ => by simp [DV]
def gMns := gII fun i j => some (.int (i - j))
theorem rp_sub : ∀ x y H Q, rP X.K gMns x y H Q → (rI0 fun i j => .int (i - j)) x y H Q := rp_ii fun i j d H Q h q => by cases h; exact ⟨i, j, rfl, rfl, q _ dvI⟩
def mulOk (i j : Int) : Prop := CMul i j ∨ CMulW i j
open Classical in
noncomputable def gMul := gII fun i j => if mulOk i j then some (.int (i * j)) else none
def rMulD : R2 := fun x y H Q => (rI CMul fun i j => .int (i * j)) x y H Q ∨ (rI CMulW fun i j => .int (i * j)) x y H Q
theorem op_mulD : OpR X (binaryOp .Mult) rMulD := op_mul.or op_mulW
theorem rp_mul : ∀ x y H Q, rP X.K gMul x y H Q → rMulD x y H Q := rp_ii fun i j d H Q h q => by
  by_cases hm : mulOk i j
  · rw [if_pos hm] at h
    cases h
    rcases hm with hm | hm
    · exact .inl ⟨i, j, rfl, rfl, hm, q _ dvI⟩
    · exact .inr ⟨i, j, rfl, rfl, hm, q _ dvI⟩
  · rw [if_neg hm] at h; cases h
def divOk (j : Int) : Prop := 0 < j ∧ j.natAbs.log2 < 9000
open Classical in
noncomputable def gDiv := gII fun i j => if divOk j then some (.int (i / j)) else none
theorem rp_div : ∀ x y H Q, rP X.K gDiv x y H Q → (rI CDivW fun i j => .int (i / j)) x y H Q := rp_ii fun i j d H Q h q => by
  by_cases hm : divOk j
  · rw [if_pos hm] at h; cases h; exact ⟨i, j, rfl, rfl, hm, q _ dvI⟩
  · rw [if_neg hm] at h; cases h
def modOk (j : Int) : Prop := 0 < j
open Classical in
noncomputable def gMod := gII fun i j => if modOk j then some (.int (i % j)) else none
theorem rp_mod : ∀ x y H Q, rP X.K gMod x y H Q → (rI (fun _ j => 0 < j) fun i j => .int (i % j)) x y H Q := rp_ii fun i j d H Q h q => by
  by_cases hm : modOk j
  · rw [if_pos hm] at h; cases h; exact ⟨i, j, rfl, rfl, hm, q _ dvI⟩
  · rw [if_neg hm] at h; cases h
def powOk (i j : Int) : Prop := 0 ≤ j ∧ j ≤ 1000000 ∧ i.natAbs < 2 ^ 64
open Classical in
noncomputable def gPow := gII fun i j => if powOk i j then some (.int (i ^ j.toNat)) else none
theorem rp_pow : ∀ x y H Q, rP X.K gPow x y H Q → (rI CPow fun i j => .int (i ^ j.toNat)) x y H Q := rp_ii fun i j d H Q h q => by
  by_cases hm : powOk i j
  · rw [if_pos hm] at h; cases h; exact ⟨i, j, rfl, rfl, hm, q _ dvI⟩
  · rw [if_neg hm] at h; cases h
/-! order of numbers, of texts -/
def gLt (_ : Sto) (x y : D) : Option D := match x, y with
  | .int i, .int j => some (.bl (decide (i < j)))
  | .str a, .str b => some (.bl (decide (a < b)))
  | _, _ => none
def gGt (S : Sto) (x y : D) : Option D := gLt S y x
def gLe (_ : Sto) (x y : D) : Option D := match x, y with
  | .int i, .int j => some (.bl (decide (i ≤ j)))
  | .str a, .str b => some (.bl (!decide (b < a)))
  | _, _ => none
def gGe (S : Sto) (x y : D) : Option D := gLe S y x
def rLtD : R2 := fun x y H Q => (rI0 fun i j => .bl (decide (i < j))) x y H Q ∨ (∃ i j, x = .str i ∧ y = .str j ∧ Q (.bl (decide (i.cps.toList < j.cps.toList))) H)
def rGtD : R2 := fun x y H Q => (rI0 fun i j => .bl (decide (j < i))) x y H Q ∨ (∃ i j, x = .str i ∧ y = .str j ∧ Q (.bl (decide (j.cps.toList < i.cps.toList))) H)
def rLeD : R2 := fun x y H Q => (rI0 fun i j => .bl (decide (i ≤ j))) x y H Q ∨ (∃ i j, x = .str i ∧ y = .str j ∧ Q (.bl (!decide (j.cps.toList < i.cps.toList))) H)
def rGeD : R2 := fun x y H Q => (rI0 fun i j => .bl (decide (j ≤ i))) x y H Q ∨ (∃ i j, x = .str i ∧ y = .str j ∧ Q (.bl (!decide (i.cps.toList < j.cps.toList))) H)
theorem op_ltD : OpR X (compareOp .Lt) rLtD := op_lt.or op_lt_str
theorem op_gtD : OpR X (compareOp .Gt) rGtD := op_gt.or op_gt_str
theorem op_leD : OpR X (compareOp .LtE) rLeD := op_le.or op_le_str
theorem op_geD : OpR X (compareOp .GtE) rGeD := op_ge.or op_ge_str
theorem rp_lt : ∀ x y H Q, rP X.K gLt x y H Q → rLtD x y H Q := by
  rintro v u H Q ⟨ρ, S, x, y, d, r, dx, dy, hg, q⟩
  unfold gLt at hg
  split at hg
  · rw [dv_int] at dx dy; subst dx dy; cases hg
    exact .inl ⟨_, _, rfl, rfl, post_bl r q⟩
  · rw [dv_str] at dx dy; subst dx dy; cases hg
    exact .inr ⟨_, _, rfl, rfl, post_bl r q⟩
  · cases hg
theorem rp_gt : ∀ x y H Q, rP X.K gGt x y H Q → rGtD x y H Q := by
  rintro v u H Q ⟨ρ, S, x, y, d, r, dx, dy, hg, q⟩
  unfold gGt gLt at hg
  split at hg
  · rw [dv_int] at dx dy; subst dx dy; cases hg
    exact .inl ⟨_, _, rfl, rfl, post_bl r q⟩
  · rw [dv_str] at dx dy; subst dx dy; cases hg
    exact .inr ⟨_, _, rfl, rfl, post_bl r q⟩
  · cases hg
theorem rp_le : ∀ x y H Q, rP X.K gLe x y H Q → rLeD x y H Q := by
  rintro v u H Q ⟨ρ, S, x, y, d, r, dx, dy, hg, q⟩
  unfold gLe at hg
  split at hg
  · rw [dv_int] at dx dy; subst dx dy; cases hg
    exact .inl ⟨_, _, rfl, rfl, post_bl r q⟩
  · rw [dv_str] at dx dy; subst dx dy; cases hg
    exact .inr ⟨_, _, rfl, rfl, post_bl r q⟩
  · cases hg
theorem rp_ge : ∀ x y H Q, rP X.K gGe x y H Q → rGeD x y H Q := by
  rintro v u H Q ⟨ρ, S, x, y, d, r, dx, dy, hg, q⟩
  unfold gGe gLe at hg
  split at hg
  · rw [dv_int] at dx dy; subst dx dy; cases hg
    exact .inl ⟨_, _, rfl, rfl, post_bl r q⟩
  · rw [dv_str] at dx dy; subst dx dy; cases hg
    exact .inr ⟨_, _, rfl, rfl, post_bl r q⟩
  · cases hg
/-! ### == -/
mutual
def toP : D → Option PyData
  | .non => some .none
  | .bl b => some (.bool b)
  | .int i => some (.int i)
  | .str x => some (.str ⟨x.toArray⟩)
  | .tup xs => (toPs xs).map PyData.tuple
  | .lst xs => (toPs xs).map PyData.list
  | .fz xs => (toPs xs).map PyData.list
  | .loc _ => none
  | .ty _ => none
  | .glo _ => none
  | .exo => none
def toPs : List D → Option (List PyData)
  | [] => some []
  | x :: xs => match toP x, toPs xs with
    | some a, some b => some (a :: b)
    | _, _ => none
end
mutual
theorem toP_ok {K : PySem.W.Frag} {ρ : List Addr} {H : Hp} : ∀ (d : D) (v : V) (p : PyData), DV K ρ H d v → toP d = some p → Dp K H v p
  | .non, v, p, h, q => by simp only [DV] at h; simp only [toP] at q; cases q; subst h; exact .non
  | .bl b, v, p, h, q => by simp only [DV] at h; simp only [toP] at q; cases q; subst h; exact .bl b
  | .int i, v, p, h, q => by simp only [DV] at h; simp only [toP] at q; cases q; subst h; exact .int i
  | .str x, v, p, h, q => by simp only [DV] at h; simp only [toP] at q; cases q; subst h; exact .str _
  | .tup xs, v, p, h, q => by
    simp only [DV] at h; simp only [toP] at q
    obtain ⟨a, vs, rfl, h1, h2⟩ := h
    cases e : toPs xs with
    | none => rw [e] at q; cases q
    | some ps => rw [e] at q; cases q; exact .tup h1 (toPs_ok xs vs ps h2 e)
  | .lst xs, v, p, h, q => by
    simp only [DV] at h; simp only [toP] at q
    obtain ⟨a, vs, rfl, h1, h2⟩ := h
    cases e : toPs xs with
    | none => rw [e] at q; cases q
    | some ps => rw [e] at q; cases q; exact .lst h1.seq (toPs_ok xs vs ps h2 e)
  | .fz xs, v, p, h, q => by
    simp only [DV] at h; simp only [toP] at q
    obtain ⟨a, vs, rfl, h1, h2⟩ := h
    cases e : toPs xs with
    | none => rw [e] at q; cases q
    | some ps => rw [e] at q; cases q; exact .lst h1.seq (toPs_ok xs vs ps h2 e)
  | .loc _, _, _, _, q => by simp only [toP] at q; cases q
  | .ty _, _, _, _, q => by simp only [toP] at q; cases q
  | .glo _, _, _, _, q => by simp only [toP] at q; cases q
  | .exo, _, _, _, q => by simp only [toP] at q; cases q
theorem toPs_ok {K : PySem.W.Frag} {ρ : List Addr} {H : Hp} : ∀ (ds : List D) (vs : List V) (ps : List PyData), DVs K ρ H ds vs → toPs ds = some ps → DpAll K H vs ps
  | [], vs, ps, h, q => by simp only [DVs] at h; simp only [toPs] at q; cases q; subst h; exact .nil
  | x :: xs, vs, ps, h, q => by
    simp only [DVs] at h; simp only [toPs] at q
    obtain ⟨v, r, rfl, h1, h2⟩ := h
    cases e : toP x with
    | none => rw [e] at q; cases q
    | some a =>
      cases e2 : toPs xs with
      | none => rw [e, e2] at q; cases q
      | some b => rw [e, e2] at q; cases q; exact .cons (toP_ok x v a h1 e) (toPs_ok xs r b h2 e2)
end
/-- the datum of a value, a list that may change by its items -/
def toPS (S : Sto) (d : D) : Option PyData := match seqF S d with
  | some xs => (toPs xs).map PyData.list
  | none => toP d
theorem toPS_ok {K : PySem.W.Frag} {ρ : List Addr} {S : Sto} {H : Hp} (r : Rel K ρ S H) {d : D} {v : V} {p : PyData} (h : DV K ρ H d v) (q : toPS S d = some p) : Dp K H v p := by
  unfold toPS at q
  cases e : seqF S d with
  | none => rw [e] at q; exact toP_ok d v p h q
  | some xs =>
    rw [e] at q
    obtain ⟨a, vs, rfl, h1, h2⟩ := seqF_ok r h e
    simp only at q
    cases e2 : toPs xs with
    | none => rw [e2] at q; cases q
    | some ps => rw [e2] at q; cases q; exact .lst h1 (toPs_ok xs vs ps h2 e2)
def deepEq (S : Sto) (x y : D) : Option Bool := match toPS S x, toPS S y with
  | some a, some b => if SeqAt.shaped a = true ∧ SeqAt.shaped b = true then some (PyData.eqv a b) else none
  | _, _ => none
def eqB (S : Sto) (x y : D) : Option Bool := match x, y with
  | .int i, .int j => some (decide (i = j))
  | .str a, .str b => some (decide (a = b))
  | .bl a, .bl b => some (decide (a = b))
  | .non, .non => some true
  | .non, .int _ => some false
  | .int _, .non => some false
  | .str _, .non => some false
  | .non, .str _ => some false
  | x, y => deepEq S x y
def gEq (S : Sto) (x y : D) : Option D := (eqB S x y).map D.bl
def gNe (S : Sto) (x y : D) : Option D := (eqB S x y).map fun b => D.bl (!b)
def rEqA (K : PySem.W.Frag) : R2 := fun x y H Q => rEq x y H Q ∨ rEqD K x y H Q
def rNeA (K : PySem.W.Frag) : R2 := fun x y H Q => rNe x y H Q ∨ rNeD K x y H Q
theorem op_eqA (hu : X.A.units + 64 < cLine) : OpR X (compareOp .Eq) (rEqA X.K) := op_eq.or (op_eqD hu)
theorem op_neA (hu : X.A.units + 64 < cLine) : OpR X (compareOp .NotEq) (rNeA X.K) := op_ne.or (op_neD hu)
theorem sv_inj {a b : Tx} : sv a = sv b ↔ a = b := by
  unfold sv
  constructor
  · intro h
    injection h with h
    exact congrArg (fun x : Str => x.cps.toList) h
  · intro h; rw [h]
theorem eqB_ok {K : PySem.W.Frag} {ρ : List Addr} {S : Sto} {H : Hp} {x y : D} {v u : V} {b : Bool} (r : Rel K ρ S H) (dx : DV K ρ H x v) (dy : DV K ρ H y u) (h : eqB S x y = some b) :
    (scal v u = true ∧ decide (v = u) = b) ∨ ∃ d e, Dp K H v d ∧ Dp K H u e ∧ SeqAt.shaped d = true ∧ SeqAt.shaped e = true ∧ PyData.eqv d e = b := by
  unfold eqB at h
  split at h
  · rw [dv_int] at dx dy; subst dx dy; cases h; exact .inl ⟨rfl, by simp⟩
  · rw [dv_str] at dx dy; subst dx dy; cases h; exact .inl ⟨rfl, by simp [sv_inj]⟩
  · rw [dv_bl] at dx dy; subst dx dy; cases h; exact .inl ⟨rfl, by simp⟩
  · rw [dv_non] at dx dy; subst dx dy; cases h; exact .inl ⟨by rw [show scal V.non V.non = true from rfl], by simp⟩
  · rw [dv_non] at dx; rw [dv_int] at dy; subst dx dy; cases h; exact .inl ⟨rfl, by simp⟩
  · rw [dv_int] at dx; rw [dv_non] at dy; subst dx dy; cases h; exact .inl ⟨rfl, by simp⟩
  · rw [dv_str] at dx; rw [dv_non] at dy; subst dx dy; cases h; exact .inl ⟨rfl, by simp [sv]⟩
  · rw [dv_non] at dx; rw [dv_str] at dy; subst dx dy; cases h; exact .inl ⟨rfl, by simp [sv]⟩
  · unfold deepEq at h
    split at h
    · rename_i a b' e1 e2
      by_cases hs : SeqAt.shaped a = true ∧ SeqAt.shaped b' = true
      · rw [if_pos hs] at h
        cases h
        exact .inr ⟨a, b', toPS_ok r dx e1, toPS_ok r dy e2, hs.1, hs.2, rfl⟩
      · rw [if_neg hs] at h; cases h
    · cases h
theorem rp_eq : ∀ x y H Q, rP X.K gEq x y H Q → rEqA X.K x y H Q := by
  rintro v u H Q ⟨ρ, S, x, y, d, r, dx, dy, hg, q⟩
  unfold gEq at hg
  cases e : eqB S x y with
  | none => rw [e] at hg; cases hg
  | some b =>
    rw [e] at hg
    cases hg
    rcases eqB_ok r dx dy e with ⟨h1, rfl⟩ | ⟨a, c, h1, h2, h3, h4, rfl⟩
    · exact .inl ⟨h1, post_bl r q⟩
    · exact .inr ⟨a, c, h1, h2, h3, h4, post_bl r q⟩
theorem rp_ne : ∀ x y H Q, rP X.K gNe x y H Q → rNeA X.K x y H Q := by
  rintro v u H Q ⟨ρ, S, x, y, d, r, dx, dy, hg, q⟩
  unfold gNe at hg
  cases e : eqB S x y with
  | none => rw [e] at hg; cases hg
  | some b =>
    rw [e] at hg
    cases hg
    rcases eqB_ok r dx dy e with ⟨h1, rfl⟩ | ⟨a, c, h1, h2, h3, h4, rfl⟩
    · exact .inl ⟨h1, post_bl r q⟩
    · exact .inr ⟨a, c, h1, h2, h3, h4, post_bl r q⟩
/-! is None -/
def gIsN (_ : Sto) (x y : D) : Option D := match y with
  | .non => some (.bl (match x with | .non => true | _ => false))
  | _ => none
def gNotN (_ : Sto) (x y : D) : Option D := match y with
  | .non => some (.bl (match x with | .non => false | _ => true))
  | _ => none
theorem dv_isnon {K : PySem.W.Frag} {ρ : List Addr} {H : Hp} {x : D} {v : V} (h : DV K ρ H x v) : decide (v = .non) = (match x with | .non => true | _ => false) := by
  cases x with
  | non => rw [dv_non] at h; subst h; rfl
  | bl b => rw [dv_bl] at h; subst h; simp
  | int b => rw [dv_int] at h; subst h; simp
  | str b => rw [dv_str] at h; subst h; simp [sv]
  | tup b => simp only [DV] at h; obtain ⟨a, vs, rfl, _⟩ := h; simp
  | lst b => simp only [DV] at h; obtain ⟨a, vs, rfl, _⟩ := h; simp
  | fz b => simp only [DV] at h; obtain ⟨a, vs, rfl, _⟩ := h; simp
  | loc b => simp only [DV] at h; obtain ⟨a, rfl, _⟩ := h; simp
  | ty b => simp only [DV] at h; subst h; simp
  | glo b => simp only [DV] at h; subst h; simp
  | exo => simp only [DV] at h; obtain ⟨a, rfl⟩ := h; simp
def rIsD : R2 := fun x y H Q => (y = .non ∧ Q (.bl (decide (x = .non))) H)
def rIsND : R2 := fun x y H Q => (y = .non ∧ Q (.bl (!decide (x = .non))) H)
theorem rp_isN : ∀ x y H Q, rP X.K gIsN x y H Q → rIsD x y H Q := by
  rintro v u H Q ⟨ρ, S, x, y, d, r, dx, dy, hg, q⟩
  unfold gIsN at hg
  split at hg
  · rw [dv_non] at dy; subst dy; cases hg
    refine ⟨rfl, ?_⟩
    rw [dv_isnon dx]
    cases x <;> exact post_bl r q
  · cases hg
theorem rp_notN : ∀ x y H Q, rP X.K gNotN x y H Q → rIsND x y H Q := by
  rintro v u H Q ⟨ρ, S, x, y, d, r, dx, dy, hg, q⟩
  unfold gNotN at hg
  split at hg
  · rw [dv_non] at dy; subst dy; cases hg
    refine ⟨rfl, ?_⟩
    rw [dv_isnon dx]
    cases x <;> exact post_bl r q
  · cases hg
/-! ### in -/
/-- in a text: one sign; in a row of plain data -/
def inB (S : Sto) (x y : D) : Option Bool := match x, y with
  | .str [c], .str z => some (decide (c ∈ z))
  | x, y => (match toP x, (match y with | .tup ys => toPs ys | y => (seqF S y).bind toPs) with
    | some a, some bs => if SeqAt.shaped a = true ∧ SeqAt.shaped (.list bs) = true then some (bs.any fun z => PyData.eqv z a) else none
    | _, _ => none)
/-! ### one operand, built-ins -/
def gNeg (_ : Sto) (x : D) : Option D := match x with
  | .int i => some (.int (-i))
  | _ => none
theorem rp_neg : ∀ x H Q, rP1 X.K gNeg x H Q → (rU fun i => .int (-i)) x H Q := by
  rintro v H Q ⟨ρ, S, x, d, r, dx, hg, q⟩
  unfold gNeg at hg
  split at hg
  · rw [dv_int] at dx; subst dx; cases hg
    exact ⟨_, rfl, post_int r q⟩
  · cases hg
open Classical in
noncomputable def gLen (S : Sto) (ds : List D) : Option D := match ds with
  | [.str x] => if sizeOk (x.length) then some (.int x.length) else none
  | [.tup xs] => some (.int xs.length)
  | [d] => (seqF S d).map fun xs => .int xs.length
  | _ => none
theorem dvs1 {K : PySem.W.Frag} {ρ : List Addr} {H : Hp} {d : D} {vs : List V} (h : DVs K ρ H [d] vs) : ∃ v, vs = [v] ∧ DV K ρ H d v := by
  simp only [DVs] at h
  obtain ⟨v, r, rfl, h1, rfl⟩ := h
  exact ⟨v, rfl, h1⟩
theorem dvs2 {K : PySem.W.Frag} {ρ : List Addr} {H : Hp} {d e : D} {vs : List V} (h : DVs K ρ H [d, e] vs) : ∃ v u, vs = [v, u] ∧ DV K ρ H d v ∧ DV K ρ H e u := by
  simp only [DVs] at h
  obtain ⟨v, r, rfl, h1, u, t, rfl, h2, rfl⟩ := h
  exact ⟨v, u, rfl, h1, h2⟩
def rLenD (K : PySem.W.Frag) : List V → Hp → VK → Prop := fun xs H Q => ∃ x n, xs = [x] ∧ LenV K x H n ∧ Q (.int n) H
theorem rp_len : ∀ vs H Q, rPB X.K gLen vs H Q → rLenD X.K vs H Q := by
  rintro vs H Q ⟨ρ, S, ds, d, r, dv, hg, q⟩
  unfold gLen at hg
  split at hg
  · rename_i x
    obtain ⟨v, rfl, h1⟩ := dvs1 dv
    rw [dv_str] at h1; subst h1
    by_cases hl : sizeOk (x.length)
    · rw [if_pos hl] at hg; cases hg
      exact ⟨_, _, rfl, ⟨by rw [sv_len]; exact hl, (sv_len x).symm⟩, post_int r q⟩
    · rw [if_neg hl] at hg; cases hg
  · rename_i xs
    obtain ⟨v, rfl, h1⟩ := dvs1 dv
    obtain ⟨a, us, rfl, h2, h3⟩ := tup_ok h1
    cases hg
    exact ⟨_, _, rfl, .inr ⟨us, h2, h3.length⟩, post_int r q⟩
  · rename_i x _ _
    obtain ⟨v, rfl, h1⟩ := dvs1 dv
    cases e : seqF S x with
    | none => rw [e] at hg; cases hg
    | some xs =>
      rw [e] at hg; cases hg
      obtain ⟨a, us, rfl, h2, h3⟩ := seqF_ok r h1 e
      exact ⟨_, _, rfl, .inl ⟨us, h2, h3.length⟩, post_int r q⟩
  · cases hg
def gAbs (_ : Sto) (ds : List D) : Option D := match ds with
  | [.int i] => some (.int (if i < 0 then -i else i))
  | _ => none
theorem rp_abs : ∀ vs H Q, rPB X.K gAbs vs H Q → (∃ i, vs = [V.int i] ∧ Q (.int (if i < 0 then -i else i)) H) := by
  rintro vs H Q ⟨ρ, S, ds, d, r, dv, hg, q⟩
  unfold gAbs at hg
  split at hg
  · have := dvs_int1 dv; subst this; cases hg
    exact ⟨_, rfl, post_int r q⟩
  · cases hg
def gMax2 (_ : Sto) (ds : List D) : Option D := match ds with
  | [.int i, .int j] => some (.int (if j > i then j else i))
  | _ => none
theorem rp_max2 : ∀ vs H Q, rPB X.K gMax2 vs H Q → (∃ i j, vs = [V.int i, V.int j] ∧ Q (.int (if j > i then j else i)) H) := by
  rintro vs H Q ⟨ρ, S, ds, d, r, dv, hg, q⟩
  unfold gMax2 at hg
  split at hg
  · have := dvs_int2 dv; subst this; cases hg
    exact ⟨_, _, rfl, post_int r q⟩
  · cases hg
def gMin2 (_ : Sto) (ds : List D) : Option D := match ds with
  | [.int i, .int j] => some (.int (if j < i then j else i))
  | _ => none
theorem rp_min2 : ∀ vs H Q, rPB X.K gMin2 vs H Q → (∃ i j, vs = [V.int i, V.int j] ∧ Q (.int (if j < i then j else i)) H) := by
  rintro vs H Q ⟨ρ, S, ds, d, r, dv, hg, q⟩
  unfold gMin2 at hg
  split at hg
  · have := dvs_int2 dv; subst this; cases hg
    exact ⟨_, _, rfl, post_int r q⟩
  · cases hg
/-- int of a number, of a truth -/
def gInt (_ : Sto) (ds : List D) : Option D := match ds with
  | [.int i] => some (.int i)
  | [.bl k] => some (.int (if k then 1 else 0))
  | _ => none
def rIntD : List V → Hp → VK → Prop := fun xs H Q => (∃ i, xs = [.int i] ∧ Q (.int i) H) ∨ ∃ k, xs = [.bl k] ∧ Q (.int (if k then 1 else 0)) H
theorem rp_int : ∀ vs H Q, rPB X.K gInt vs H Q → rIntD vs H Q := by
  rintro vs H Q ⟨ρ, S, ds, d, r, dv, hg, q⟩
  unfold gInt at hg
  split at hg
  · have := dvs_int1 dv; subst this; cases hg
    exact .inl ⟨_, rfl, post_int r q⟩
  · obtain ⟨v, rfl, h1⟩ := dvs1 dv
    rw [dv_bl] at h1; subst h1; cases hg
    exact .inr ⟨_, rfl, post_int r q⟩
  · cases hg
/-! items -/
def atD (xs : List D) (i : Int) : Option D := if 0 ≤ i then xs[i.toNat]? else if -(xs.length : Int) ≤ i then xs[(i + xs.length).toNat]? else none
theorem atD_ok {K : PySem.W.Frag} {ρ : List Addr} {H : Hp} {xs : List D} {vs : List V} {i : Int} {d : D} (h : DVs K ρ H xs vs) (e : atD xs i = some d) : ∃ v, atI vs i = some v ∧ DV K ρ H d v := by
  unfold atD at e
  unfold atI ixN
  have hl := h.length
  by_cases h0 : 0 ≤ i
  · rw [if_pos h0] at e ⊢
    obtain ⟨v, h1, h2⟩ := h.get e
    have hi := (List.getElem?_eq_some_iff.mp h1).1
    rw [if_pos (by omega)]
    exact ⟨v, h1, h2⟩
  · rw [if_neg h0] at e ⊢
    by_cases h1 : -(xs.length : Int) ≤ i
    · rw [if_pos h1] at e
      rw [if_pos (by omega)]
      obtain ⟨v, h1, h2⟩ := h.get e
      rw [hl] at h1
      exact ⟨v, h1, h2⟩
    · rw [if_neg h1] at e; cases e
open Classical in
noncomputable def gIx (S : Sto) (x y : D) : Option D := match x, y with
  | .str z, .int i => if sizeOk (z.length) then (if 0 ≤ i then z[i.toNat]? else if -(z.length : Int) ≤ i then z[(i + z.length).toNat]? else none).map fun c => .str [c] else none
  | .tup xs, .int i => atD xs i
  | x, .int i => (seqF S x).bind fun xs => atD xs i
  | _, _ => none
theorem rp_ix : ∀ x y H Q, rP X.K gIx x y H Q → rIx X.K x y H Q := by
  rintro v u H Q ⟨ρ, S, x, y, d, r, dx, dy, hg, q⟩
  unfold gIx at hg
  split at hg
  · rename_i z i
    rw [dv_str] at dx; rw [dv_int] at dy; subst dx dy
    by_cases hl : sizeOk (z.length)
    · rw [if_pos hl] at hg
      refine .inr (.inr ?_)
      have key : ∃ c, atI z i = some c ∧ d = .str [c] := by
        unfold atI ixN
        by_cases h0 : 0 ≤ i
        · rw [if_pos h0] at hg ⊢
          cases e : z[i.toNat]? with
          | none => rw [e] at hg; cases hg
          | some c =>
            rw [e] at hg; cases hg
            have hi := (List.getElem?_eq_some_iff.mp e).1
            rw [if_pos (by omega)]
            exact ⟨c, e, rfl⟩
        · rw [if_neg h0] at hg ⊢
          by_cases h1 : -(z.length : Int) ≤ i
          · rw [if_pos h1] at hg ⊢
            cases e : z[(i + (z.length : Int)).toNat]? with
            | none => rw [e] at hg; cases hg
            | some c => rw [e] at hg; cases hg; exact ⟨c, e, rfl⟩
          · rw [if_neg h1] at hg; cases hg
      obtain ⟨c, h1, rfl⟩ := key
      exact ⟨_, i, c, rfl, rfl, by rw [sv_len]; exact hl, h1, post_str r q⟩
    · rw [if_neg hl] at hg; cases hg
  · rename_i xs i
    rw [dv_int] at dy; subst dy
    obtain ⟨a, vs, rfl, h1, h2⟩ := tup_ok dx
    obtain ⟨w, h3, h4⟩ := atD_ok h2 hg
    exact .inr (.inl ⟨a, vs, i, w, rfl, rfl, h1, h3, q ρ H w r Ext.refl h4⟩)
  · rename_i i _ _
    rw [dv_int] at dy; subst dy
    cases e : seqF S x with
    | none => rw [e] at hg; cases hg
    | some xs =>
      rw [e] at hg
      obtain ⟨a, vs, rfl, h1, h2⟩ := seqF_ok r dx e
      obtain ⟨w, h3, h4⟩ := atD_ok h2 hg
      exact .inl ⟨a, vs, i, w, rfl, rfl, h1, h3, q ρ H w r Ext.refl h4⟩
  · cases hg
/-! name op= value -/
def ipSub : TIp := ipI fun i j => i - j
theorem rp_isub : ∀ x y H Q, rP X.K gMns x y H Q → (ipI fun i j => i - j) x y H Q := rp_ii fun i j d H Q h q => by cases h; exact ⟨i, j, rfl, rfl, q _ dvI⟩
theorem ipR {op : Operator} {r : R2} (h : OpR X (inplaceOp op) r) : PIp X op r := fun pins s σ H x y v u Q I r1 r2 q => h pins s σ H x y v u Q I r1 r2 q
theorem rp_imul : ∀ x y H Q, rP X.K gMul x y H Q → (rI (fun i j => mulOk i j) fun i j => .int (i * j)) x y H Q := rp_ii fun i j d H Q h q => by
  by_cases hm : mulOk i j
  · rw [if_pos hm] at h
    cases h
    exact ⟨i, j, rfl, rfl, hm, q _ dvI⟩
  · rw [if_neg hm] at h; cases h
theorem iop_mulD : OpR X (inplaceOp .Mult) (rI (fun i j => mulOk i j) fun i j => .int (i * j)) := opI fun _ _ _ _ _ _ _ hc q => imul_int q (hc.elim CMul.ok CMulW.ok)
/-! isinstance against a built-in type -/
def tyName : D → Option String
  | .non => some "NoneType"
  | .bl _ => some "bool"
  | .int _ => some "int"
  | .str _ => some "str"
  | .tup _ => some "tuple"
  | .lst _ => some "list"
  | .fz _ => some "list"
  | _ => none
/-- a small table: which type is a subtype of which -/
def isTy (t : String) : String → Option Bool
  | "int" => some (t == "int" || t == "bool")
  | "bool" => some (t == "bool")
  | "str" => some (t == "str")
  | "tuple" => some (t == "tuple")
  | "list" => some (t == "list")
  | "dict" => some (t == "dict")
  | _ => none
def gIsi (S : Sto) (ds : List D) : Option D := match ds with
  | [x, .ty n] => (match (match x with | .loc k => (match S[k]? with | some (.lst _) => some "list" | some (.dic _) => some "dict" | _ => none) | x => tyName x) with
    | some t => (isTy t n).map D.bl
    | none => none)
  | _ => none
theorem isTy_kit {K : PySem.W.Frag} {t n : String} {b : Bool} (ht : t ∈ ["NoneType", "bool", "int", "str", "tuple", "list", "dict"]) (h : isTy t n = some b) : PySem.W.kitOne K (.type t) (.type n) = some b := by
  refine kit_ty ?_
  unfold isTy at h
  split at h
  all_goals first
    | (cases h
       simp only [List.mem_cons, List.not_mem_nil, or_false] at ht
       rcases ht with rfl | rfl | rfl | rfl | rfl | rfl | rfl <;> decide +kernel)
    | cases h
theorem tyName_ok {K : PySem.W.Frag} {ρ : List Addr} {H : Hp} {x : D} {v : V} {t : String} (h : DV K ρ H x v) (e : tyName x = some t) : TyX K H v (.type t) ∧ t ∈ ["NoneType", "bool", "int", "str", "tuple", "list", "dict"] := by
  cases x with
  | non => cases e; rw [dv_non] at h; subst h; exact ⟨.base .non, by simp⟩
  | bl b => cases e; rw [dv_bl] at h; subst h; exact ⟨.base (.bl b), by simp⟩
  | int b => cases e; rw [dv_int] at h; subst h; exact ⟨.base (.int b), by simp⟩
  | str b => cases e; rw [dv_str] at h; subst h; exact ⟨.base (.str _), by simp⟩
  | tup b =>
    cases e
    obtain ⟨a, vs, rfl, h1, h2⟩ := tup_ok h
    refine ⟨?_, by simp⟩
    rcases h1 with (h1 | ⟨o, h1⟩) | ⟨o, its, n, h1, h3, _⟩
    · exact .base (.tup h1)
    · exact .fTuple h1
    · exact .kTuple h1 h3
  | lst b =>
    cases e
    simp only [DV] at h
    obtain ⟨a, vs, rfl, h1, h2⟩ := h
    exact ⟨.base (.lst h1.2), by simp⟩
  | fz b =>
    cases e
    simp only [DV] at h
    obtain ⟨a, vs, rfl, h1, h2⟩ := h
    refine ⟨?_, by simp⟩
    rcases h1 with ⟨o, h1⟩ | ⟨o, its, n, h1, h3, _⟩
    · exact .base (.frz h1)
    · exact .kList h1 h3
  | _ => cases e
theorem rp_isi : ∀ vs H Q, rPB X.K gIsi vs H Q → rIsi X.K vs H Q := by
  rintro vs H Q ⟨ρ, S, ds, d, r, dv, hg, q⟩
  unfold gIsi at hg
  split at hg
  · rename_i x n
    obtain ⟨v, u, rfl, h1, h2⟩ := dvs2 dv
    have e2 : u = .ty n := by simpa [DV] using h2
    subst e2
    split at hg
    · rename_i t ht
      cases e : isTy t n with
      | none => rw [e] at hg; cases hg
      | some b =>
        rw [e] at hg; cases hg
        have key : TyX X.K H v (.type t) ∧ t ∈ ["NoneType", "bool", "int", "str", "tuple", "list", "dict"] := by
          split at ht
          · rename_i k
            simp only [DV] at h1
            obtain ⟨a, rfl, ha⟩ := h1
            split at ht
            · rename_i xs hx
              cases ht
              obtain ⟨us, h3, _⟩ := r.at_ _ _ _ hx ha
              exact ⟨.base (.lst h3), by simp⟩
            · rename_i xs hx
              cases ht
              obtain ⟨us, h3, _⟩ := r.at_ _ _ _ hx ha
              exact ⟨.base (.dK h3), by simp⟩
            · cases ht
          · exact tyName_ok h1 ht
        exact ⟨v, .ty n, .type t, .type n, b, rfl, .ty n, key.1, isTy_kit key.2 e, post_bl r q⟩
    · cases hg
  · cases hg
end
end PD

/-! PyD4: from one level of calls to the next; the end. -/
namespace PD
open PySem PySem.Spec PyProof.Rows L2
section
variable {P : Program} {w : World} {K : PySem.W.Frag} {mg : Str → Option Value} {base : Heap} {x : Str} {params : Arguments} {body : List Stmt} {scope : Scope}
/-- a def of the top, found by its name; its parameters ps -/
structure FD (K : PySem.W.Frag) (mg : Str → Option Value) (x : Str) (params : Arguments) (body : List Stmt) (scope : Scope) (ps : List Str) : Prop where
  ex : ∃ f fd, FunD K x x params body scope [] [] f fd ∧ mg x = some (.ref f) ∧ Binds K fd ps []
theorem callF_zero {ps : List Str} {n : Nat} (F : FD K mg x params body scope ps) : CallF P w K mg base 0 x n (fun _ _ => .bad) := by
  obtain ⟨f, fd, F, hm, b⟩ := F.ex
  have no : ∀ vs H Q E, ¬ spM K n (fun _ _ => .bad) vs H Q E := fun vs H Q E h => by
    obtain ⟨ρ, S, ds, r, dv, hl, p⟩ := h
    exact p
  exact ⟨f, fd, ps, ⟨fun vs H Q E h => absurd h (no vs H Q E), fun A outer s H args us vs Q E _ _ _ _ h => absurd h (no vs H Q E)⟩, hm, F.kp, b⟩
theorem callF_succ {k n : Nat} {N ps : List Str} {b : MS} (F : FD K mg x params body scope ps) (Sc : FnScope N ps scope) (hn : ps.length = n)
    (hb : ∀ (f : Addr) (cdv : Value) (A : Around) (outer : List Env) (s : Shared) (H : Hp) (E : XK), Room k (A.deeper (envOfC x scope s.heap.objs.size f cdv)) → BD (cxOf (L2.CX P w) P w K mg base N x scope f cdv A outer s H E) (WW.of (K := K) fun c d _ H => E c d H) body b) :
    CallF P w K mg base (k + 1) x n (runB N.length b) := by
  obtain ⟨f, fd, F, hm, bd⟩ := F.ex
  exact ⟨f, fd, ps, fn_run F Sc hn (hb f), hm, F.kp, bd⟩
/-- the script as a value -/
theorem dv_script {H : Hp} {a : Addr} {ns : List Int} (ho : Only H) (hs : SqL K H a (ns.map V.int)) : DVs K [] H [.fz (ns.map D.int)] [.ref a] := by
  have di : ∀ ms : List Int, DVs K [] H (ms.map D.int) (ms.map V.int) := fun ms => by
    induction ms with
    | nil => simp [DVs]
    | cons m r ih => simp only [List.map_cons, DVs]; exact ⟨_, _, rfl, by simp [DV], ih⟩
  refine DVs.one ?_
  simp only [DV]
  refine ⟨a, _, rfl, ?_, di ns⟩
  rcases FzP.of hs with h | h | h
  · exact .inl h
  · exact .inr h
  · rcases ho a with q | ⟨o, xs, q⟩
    · rw [h] at q; cases q
    · rw [h] at q; cases q
theorem rel_nil {H : Hp} : Rel K [] [] H := ⟨rfl, List.nodup_nil, fun n o a h => by simp at h⟩
/-- the law's promise from its meaning -/
theorem law_sp {m : MF} {H : Hp} {a : Addr} {ns : List Int} {E : XK} (ho : Only H) (hs : SqL K H a (ns.map V.int)) (h : ∃ S', m [.fz (ns.map D.int)] [] = .ok (.bl true) S') : spM K 1 m [.ref a] H (fun v _ => v = .bl true) E := by
  obtain ⟨S', h⟩ := h
  refine ⟨[], [], _, rel_nil, dv_script ho hs, rfl, ?_⟩
  rw [h]
  intro ρ' H' v r e d
  simpa [DV] using d
theorem cx_end {P : Program} {w : World} (H : Hp) (s : Shared) (e : Value) (s' : Shared) (h : L2.CX P w [] H s (fun _ _ _ => False) e s') : False := by
  obtain ⟨_, _, _, _, _, _, _, _, _, _, _, _, z⟩ := h
  exact z
end
/-- a law by its meaning m: F tells the written part and what stands there -/
theorem walk_W {l : PySem.W.OpenLaw} {n k : Nat} {q : Program} {loose : List Str} {XP : (Str → Option Value) → Heap → Prop} {YP : World → Heap → Prop} {d : DefRec} {x : Str} {m : MF}
    (hn : l.most = some n) (hn2 : n ≤ sizeLine) (hdf : d.params.defaults = []) (hr : Room k callerA)
    (F : ∀ (w : World) (mg : Str → Option Value) (fa : Addr) (h : Heap), YP w h → h.Ns mainGlobals mg → mg d.name = some (.ref fa) →
      ∃ (K : PySem.W.Frag) (fd : FuncData), K.In h ∧ (∀ (s : Shared) (u : Value), BindsTo s fd ⟨[u], []⟩ [(x, u)]) ∧
        ∀ base : Heap, K.In base → base.Ns mainGlobals mg → FnOk l.prog w K mg base (L2.CX l.prog w) k fa fd [x] (spM K 1 m))
    (hm : ∀ ns : List Int, ns.length ≤ n → ∃ S', m [.fz (ns.map D.int)] [] = .ok (.bl true) S') :
    PySem.W.WalkO q loose XP YP l.row.toRowW d [] (fun f vs => PySem.call f vs) := by
  refine Att.attach_call hn hdf fun w s₀ s₁ mg mb fa o pm cd doc a vs ns G Y ho hd hcd hmg hobj hints hlen hg => ?_
  obtain ⟨K, fd, KX, hb, hF⟩ := F w mg fa _ Y G.T.g hmg
  exact law_call KX G.T.g G.T.b G.T.builtins G.T.nolimit hg hobj hints (Nat.le_trans hlen hn2) hr hF hb (fun H hO hS => law_sp hO hS (hm ns hlen)) fun H e s' => cx_end H s₁ e s'
/-- the law's own def, as the row calls it -/
theorem law_fn {P : Program} {w : World} {K : PySem.W.Frag} {mg : Str → Option Value} {base : Heap} {k : Nat} {params : Arguments} {body : List Stmt} {scope : Scope} {f fa : Addr} {fd : FuncData} {N : List Str} {b : MS}
    (F : FunD K "law" "law" params body scope [] [] f fd) (hm : mg "law" = some (.ref f)) (hfa : mg "law" = some (.ref fa)) (Sc : FnScope N ["script"] scope)
    (hb : ∀ (f : Addr) (cdv : Value) (A : Around) (outer : List Env) (s : Shared) (H : Hp) (E : XK), Room k (A.deeper (envOfC "law" scope s.heap.objs.size f cdv)) → BD (cxOf (L2.CX P w) P w K mg base N "law" scope f cdv A outer s H E) (WW.of (K := K) fun c d _ H => E c d H) body b) :
    FnOk P w K mg base (L2.CX P w) (k + 1) fa fd ["script"] (spM K 1 (runB N.length b)) := by
  have e := hm.symm.trans hfa
  cases e
  exact fn_run F Sc rfl (hb f)
end PD

/-! PyD5: to reckon with the meanings. -/
namespace PD
open PySem PySem.Spec PyProof.Rows L2
/-- one turn of a loop -/
def turn (g : MG) (b : MS) (x : D) : MS := fun E S => (g x E S).toS E fun E1 S1 => b E1 S1
theorem chk_none {S : Sto} : chkOk none S := trivial
theorem forD_nil {g : MG} {b : MS} {E : Evn} {S : Sto} : forD none g b [] E S = .nx E S := by rw [forD, if_pos chk_none]
theorem forD_cons {g : MG} {b : MS} {x : D} {l : List D} {E : Evn} {S : Sto} : forD none g b (x :: l) E S = (match turn g b x E S with
    | .nx E2 S2 => forD none g b l E2 S2
    | .ct E2 S2 => forD none g b l E2 S2
    | .bk E2 S2 => .nx E2 S2
    | o => o) := by
  rw [forD, if_pos chk_none]
  unfold turn
  cases g x E S <;> rfl
/-- a loop whose turns all go on -/
theorem forD_all {g : MG} {b : MS} (P : Nat → Evn → Sto → Prop) : ∀ (l : List D) (E : Evn) (S : Sto) (n : Nat), P n E S →
    (∀ i x E S, l[i]? = some x → P (n + i) E S → ∃ E2 S2, (turn g b x E S = .nx E2 S2 ∨ turn g b x E S = .ct E2 S2) ∧ P (n + i + 1) E2 S2) →
    ∃ E2 S2, forD none g b l E S = .nx E2 S2 ∧ P (n + l.length) E2 S2
  | [], E, S, n, h0, hs => ⟨E, S, forD_nil, h0⟩
  | x :: l, E, S, n, h0, hs => by
    obtain ⟨E2, S2, h1, h2⟩ := hs 0 x E S rfl h0
    obtain ⟨E3, S3, h3, h4⟩ := forD_all P l E2 S2 (n + 1) h2 (fun i y E S e p => by
      have := hs (i + 1) y E S (by simpa using e) (by rw [show n + (i + 1) = n + 1 + i by omega]; exact p)
      rw [show n + (i + 1) + 1 = n + 1 + i + 1 by omega] at this
      exact this)
    refine ⟨E3, S3, ?_, by rw [List.length_cons, show n + (l.length + 1) = n + 1 + l.length by omega]; exact h4⟩
    rw [forD_cons]
    rcases h1 with h1 | h1 <;> rw [h1] <;> exact h3
/-- the same from the start -/
theorem forD_inv {g : MG} {b : MS} {l : List D} {E : Evn} {S : Sto} (P : Nat → Evn → Sto → Prop) (h0 : P 0 E S)
    (hs : ∀ i x E S, l[i]? = some x → P i E S → ∃ E2 S2, (turn g b x E S = .nx E2 S2 ∨ turn g b x E S = .ct E2 S2) ∧ P (i + 1) E2 S2) :
    ∃ E2 S2, forD none g b l E S = .nx E2 S2 ∧ P l.length E2 S2 := by
  have := forD_all P l E S 0 h0 (fun i x E S e p => by
    rw [Nat.zero_add] at p ⊢
    exact hs i x E S e p)
  rwa [Nat.zero_add] at this
/-- a range's turns -/
theorem rng_get {lo : Int} {n i : Nat} {x : D} (h : (rngD lo n)[i]? = some x) : i < n ∧ x = .int (lo + (i : Int)) := rngD_get h
theorem rng_len {lo : Int} {n : Nat} : (rngD lo n).length = n := by simp [rngD]
theorem forR_inv {g : MG} {b : MS} {lo : Int} {n : Nat} {E : Evn} {S : Sto} (P : Nat → Evn → Sto → Prop) (h0 : P 0 E S)
    (hs : ∀ i E S, i < n → P i E S → ∃ E2 S2, (turn g b (.int (lo + (i : Int))) E S = .nx E2 S2 ∨ turn g b (.int (lo + (i : Int))) E S = .ct E2 S2) ∧ P (i + 1) E2 S2) :
    ∃ E2 S2, forD none g b (rngD lo n) E S = .nx E2 S2 ∧ P n E2 S2 := by
  have := forD_inv (g := g) (b := b) (l := rngD lo n) (E := E) (S := S) P h0 (fun i x E S e p => by
    obtain ⟨h1, rfl⟩ := rng_get e
    exact hs i E S h1 p)
  rwa [rng_len] at this
theorem mulOk_small {i j : Int} (h : j.natAbs < 2 ^ 64) : mulOk i j := .inl (.inr ⟨by omega, by omega⟩)
theorem mulOk_smallL {i j : Int} (h : i.natAbs < 2 ^ 64) : mulOk i j := .inl (.inl ⟨by omega, by omega⟩)
theorem mulOk_wide {i j : Int} {a b : Nat} (ha : i.natAbs < 2 ^ a) (hb : j.natAbs < 2 ^ b) (h0 : 0 < a) (h1 : 0 < b) (h : a + b ≤ 1000000) : mulOk i j := .inr (wide_mul ha hb h0 h1 h)
end PD
namespace PD
open PySem PySem.Spec PyProof.Rows L2
section
variable {E : Evn} {S : Sto}
theorem a_seq {a b : MS} : mSeq a b E S = (match a E S with
  | .nx E' S' => b E' S'
  | r => r) := rfl
theorem a_skip : mSkip E S = .nx E S := rfl
theorem a_break : mBreak E S = .bk E S := rfl
theorem a_cont : mCont E S = .ct E S := rfl
theorem a_if {c : MT} {a b : MS} : mIf c a b E S = (c E S).toS E fun x S1 => if x = true then a E S1 else b E S1 := rfl
theorem a_ret {a : ME} : mRet a E S = (a E S).toS E fun d S1 => .rt d S1 := rfl
theorem a_retN : mRetN E S = .rt .non S := rfl
theorem a_drop {a : ME} : mDrop a E S = (a E S).toS E fun _ S1 => .nx E S1 := rfl
theorem a_set {i : Nat} {a : ME} : mSet i a E S = (a E S).toS E fun d S1 => .nx (E.set i (some d)) S1 := rfl
theorem a_asg {a : ME} {g : MG} : mAsg a g E S = (a E S).toS E fun d S1 => (g d E S1).toS E fun E' S2 => .nx E' S2 := rfl
theorem a_aug {i : Nat} {g : Sto → D → D → Option D} {a : ME} : mAug i g a E S = (match E[i]? with
  | some (some x) => (a E S).toS E fun y S1 => (match g S1 x y with
    | some d => .nx (E.set i (some d)) S1
    | none => .bad)
  | _ => .bad) := rfl
theorem a_for {it : MI} {g : MG} {b : MS} : mFor it g b E S = (it E S).toS E fun i S1 => forD i.chk g b i.items E S1 := rfl
theorem a_var {i : Nat} : mVar i E S = (match E[i]? with
  | some (some d) => .ok d S
  | _ => .bad) := rfl
theorem a_c {d : D} : mC d E S = .ok d S := rfl
theorem a_bin {g : Sto → D → D → Option D} {a b : ME} : mBin g a b E S = (a E S).bind fun x S1 => (b E S1).bind fun y S2 => (match g S2 x y with
  | some d => .ok d S2
  | none => .bad) := rfl
theorem a_un {g : Sto → D → Option D} {a : ME} : mUn g a E S = (a E S).bind fun x S1 => (match g S1 x with
  | some d => .ok d S1
  | none => .bad) := rfl
theorem a_b {g : Sto → List D → Option D} {a : MA} : mB g a E S = (a E S).bind fun xs S1 => (match g S1 xs with
  | some d => .ok d S1
  | none => .bad) := rfl
theorem a_nil : mNil E S = .ok [] S := rfl
theorem a_cons {a : ME} {r : MA} : mCons a r E S = (a E S).bind fun x S1 => (r E S1).bind fun xs S2 => .ok (x :: xs) S2 := rfl
open Classical in
theorem a_tup {a : MA} : mTup a E S = (a E S).bind fun xs S1 => if sizeOk xs.length then .ok (.tup xs) S1 else .bad := rfl
open Classical in
theorem a_lst {a : MA} : mLst a E S = (a E S).bind fun xs S1 => if sizeOk xs.length then .ok (.lst xs) S1 else .bad := rfl
open Classical in
theorem a_loc {a : MA} : mLoc a E S = (a E S).bind fun xs S1 => if sizeOk xs.length then .ok (.loc S1.length) (S1 ++ [.lst xs]) else .bad := rfl
theorem a_call {f : MF} {a : MA} : mCall f a E S = (a E S).bind fun ds S1 => f ds S1 := rfl
theorem a_and {a b : MT} : mAnd a b E S = (a E S).bind fun x S1 => if x = true then b E S1 else .ok false S1 := rfl
theorem a_or {a b : MT} : mOr a b E S = (a E S).bind fun x S1 => if x = true then .ok true S1 else b E S1 := rfl
theorem a_not {a : MT} : mNot a E S = (a E S).bind fun x S1 => .ok (!x) S1 := rfl
theorem a_andV {a b : ME} : mAndV a b E S = (a E S).bind fun x S1 => (match x with
  | .bl true => b E S1
  | .bl false => .ok (.bl false) S1
  | _ => .bad) := rfl
theorem a_orV {a b : ME} : mOrV a b E S = (a E S).bind fun x S1 => (match x with
  | .bl true => .ok (.bl true) S1
  | .bl false => b E S1
  | _ => .bad) := rfl
theorem a_notV {a : ME} : mNotV a E S = (a E S).bind fun x S1 => (match x with
  | .bl b => .ok (.bl (!b)) S1
  | _ => .bad) := rfl
theorem a_ifE {c : MT} {a b : ME} : mIfE c a b E S = (c E S).bind fun x S1 => if x = true then a E S1 else b E S1 := rfl
theorem a_asB {m : ME} : asB m E S = (m E S).bind fun d S1 => (match d with
  | .bl b => .ok b S1
  | _ => .bad) := rfl
theorem a_sl {g : Sto → D → Option Int → Option Int → Option D} {a : ME} {lo hi : MO} : mSl g a lo hi E S = (a E S).bind fun x S1 => (lo E S1).bind fun l S2 => (hi E S2).bind fun u S3 => (match g S3 x l u with
  | some d => .ok d S3
  | none => .bad) := rfl
theorem a_nopart : mNoPart E S = .ok none S := rfl
theorem a_part {a : ME} : mPart a E S = (a E S).bind fun d S1 => (match d with
  | .int i => .ok (some i) S1
  | _ => .bad) := rfl
theorem a_gN {i : Nat} {d : D} : gN i d E S = .ok (E.set i (some d)) S := rfl
theorem a_gT {n : Nat} {g : MGs} {xs : List D} : gT n g (.tup xs) E S = if xs.length = n then g xs E S else .bad := rfl
theorem a_gsNil : gsNil [] E S = .ok E S := rfl
theorem a_gsCons {g : MG} {r : MGs} {d : D} {ds : List D} : gsCons g r (d :: ds) E S = (g d E S).bind fun E' S' => (r ds E' S').noex := rfl
open Classical in
theorem a_range1 {a : MA} : iRange1 a E S = (a E S).bind fun ds S1 => (match int1 ds with
  | some j => if small62 j then .ok ⟨rngD 0 j.toNat, none⟩ S1 else .bad
  | none => .bad) := rfl
open Classical in
theorem a_range2 {a : MA} : iRange2 a E S = (a E S).bind fun ds S1 => (match int2 ds with
  | some (i, j) => if small62 i ∧ small62 j then .ok ⟨rngD i (j - i).toNat, none⟩ S1 else .bad
  | none => .bad) := rfl
theorem a_iseq {a : ME} : iSeq a E S = (a E S).bind fun d S1 => (match d with
  | .tup xs => .ok ⟨xs, none⟩ S1
  | .lst xs => .ok ⟨xs, none⟩ S1
  | .fz xs => .ok ⟨xs, none⟩ S1
  | .loc n => (match S1[n]? with
    | some (.lst xs) => .ok ⟨xs, some (n, xs)⟩ S1
    | _ => .bad)
  | _ => .bad) := rfl
theorem a_int1 {i : Int} : int1 [.int i] = some i := rfl
theorem a_int2 {i j : Int} : int2 [.int i, .int j] = some (i, j) := rfl
theorem a_turn {g : MG} {b : MS} {x : D} : turn g b x E S = (g x E S).toS E fun E1 S1 => b E1 S1 := rfl
theorem a_run {N : Nat} {b : MS} {ds : List D} : runB N b ds S = (match b (ds.map some ++ List.replicate (N - ds.length) none) S with
  | .nx _ S' => .ok .non S'
  | .rt d S' => .ok d S'
  | .ex e _ S' => .ex e S'
  | _ => .bad) := rfl
variable {i j : Int} {x y : Tx} {a b : Bool} {xs ys : List D}
theorem g_add : gAdd S (.int i) (.int j) = some (.int (i + j)) := rfl
open Classical in
theorem g_addS : gAdd S (.str x) (.str y) = if sizeOk (x.length + y.length) then some (.str (x ++ y)) else none := rfl
open Classical in
theorem g_addT : gAdd S (.tup xs) (.tup ys) = if sizeOk (xs.length + ys.length) then some (.tup (xs ++ ys)) else none := rfl
open Classical in
theorem g_addL : gAdd S (.lst xs) (.lst ys) = if sizeOk (xs.length + ys.length) then some (.lst (xs ++ ys)) else none := rfl
theorem g_sub : gMns S (.int i) (.int j) = some (.int (i - j)) := rfl
open Classical in
theorem g_mul : gMul S (.int i) (.int j) = if mulOk i j then some (.int (i * j)) else none := rfl
open Classical in
theorem g_div : gDiv S (.int i) (.int j) = if divOk j then some (.int (i / j)) else none := rfl
open Classical in
theorem g_mod : gMod S (.int i) (.int j) = if modOk j then some (.int (i % j)) else none := rfl
open Classical in
theorem g_pow : gPow S (.int i) (.int j) = if powOk i j then some (.int (i ^ j.toNat)) else none := rfl
theorem g_lt : gLt S (.int i) (.int j) = some (.bl (decide (i < j))) := rfl
theorem g_gt : gGt S (.int i) (.int j) = some (.bl (decide (j < i))) := rfl
theorem g_le : gLe S (.int i) (.int j) = some (.bl (decide (i ≤ j))) := rfl
theorem g_ge : gGe S (.int i) (.int j) = some (.bl (decide (j ≤ i))) := rfl
theorem g_ltS : gLt S (.str x) (.str y) = some (.bl (decide (x < y))) := rfl
theorem g_gtS : gGt S (.str x) (.str y) = some (.bl (decide (y < x))) := rfl
theorem g_leS : gLe S (.str x) (.str y) = some (.bl (!decide (y < x))) := rfl
theorem g_geS : gGe S (.str x) (.str y) = some (.bl (!decide (x < y))) := rfl
theorem g_eq : gEq S (.int i) (.int j) = some (.bl (decide (i = j))) := rfl
theorem g_ne : gNe S (.int i) (.int j) = some (.bl (!decide (i = j))) := rfl
theorem g_eqS : gEq S (.str x) (.str y) = some (.bl (decide (x = y))) := rfl
theorem g_neS : gNe S (.str x) (.str y) = some (.bl (!decide (x = y))) := rfl
theorem g_eqB : gEq S (.bl a) (.bl b) = some (.bl (decide (a = b))) := rfl
theorem g_neB : gNe S (.bl a) (.bl b) = some (.bl (!decide (a = b))) := rfl
theorem g_neg : gNeg S (.int i) = some (.int (-i)) := rfl
/-- the size of a number, as the built-in says it -/
def ab (i : Int) : Int := if i < 0 then -i else i
theorem g_abs : gAbs S [.int i] = some (.int (ab i)) := rfl
theorem g_max : gMax2 S [.int i, .int j] = some (.int (if j > i then j else i)) := rfl
theorem g_min : gMin2 S [.int i, .int j] = some (.int (if j < i then j else i)) := rfl
theorem g_int : gInt S [.int i] = some (.int i) := rfl
theorem g_intB : gInt S [.bl a] = some (.int (if a then 1 else 0)) := rfl
theorem g_ixT : gIx S (.tup xs) (.int i) = atD xs i := rfl
theorem g_ixL : gIx S (.lst xs) (.int i) = atD xs i := rfl
theorem g_ixF : gIx S (.fz xs) (.int i) = atD xs i := rfl
theorem g_lenT : gLen S [.tup xs] = some (.int xs.length) := rfl
theorem g_lenL : gLen S [.lst xs] = some (.int xs.length) := rfl
theorem g_lenF : gLen S [.fz xs] = some (.int xs.length) := rfl
open Classical in
theorem g_lenS : gLen S [.str x] = if sizeOk x.length then some (.int x.length) else none := rfl
theorem at_nat {n : Nat} : atD xs (n : Int) = xs[n]? := by unfold atD; rw [if_pos (Int.natCast_nonneg n), Int.toNat_natCast]
theorem at_0 : atD xs 0 = xs[0]? := rfl
theorem at_1 : atD xs 1 = xs[1]? := rfl
theorem at_2 : atD xs 2 = xs[2]? := rfl
theorem at_3 : atD xs 3 = xs[3]? := rfl
theorem at_4 : atD xs 4 = xs[4]? := rfl
theorem sizeOk_of {n : Nat} (h : n ≤ 16777216) : sizeOk n := by unfold sizeOk; rw [sizeLine_eq]; exact h
end
end PD
namespace PD
open PySem PySem.Spec PyProof.Rows L2
theorem so0 : sizeOk 0 := sizeOk_of (by decide)
theorem so1 : sizeOk 1 := sizeOk_of (by decide)
theorem so2 : sizeOk 2 := sizeOk_of (by decide)
theorem so3 : sizeOk 3 := sizeOk_of (by decide)
theorem so4 : sizeOk 4 := sizeOk_of (by decide)
theorem so5 : sizeOk 5 := sizeOk_of (by decide)
theorem so6 : sizeOk 6 := sizeOk_of (by decide)
theorem so7 : sizeOk 7 := sizeOk_of (by decide)
theorem so8 : sizeOk 8 := sizeOk_of (by decide)
theorem so9 : sizeOk 9 := sizeOk_of (by decide)
theorem so10 : sizeOk 10 := sizeOk_of (by decide)
theorem mo10 (i : Int) : mulOk i 10 := mulOk_small (by decide)
theorem divOk_of {j : Int} (h : 0 < j) (h2 : j < 18446744073709551616) : divOk j := by
  refine ⟨h, Nat.lt_of_lt_of_le (PySem.Flt.log2_lt_of (k := 64) (by decide) ?_) (by decide)⟩
  omega
theorem do10 : divOk 10 := divOk_of (by decide) (by decide)
theorem modOk_of {j : Int} (h : 0 < j) : modOk j := h
end PD
namespace PD
open PySem PySem.Spec PyProof.Rows L2
section
variable {S : Sto} {i : Int} {x : Tx} {a : Bool} {xs : List D}
theorem isi_non_int : gIsi S [.non, .ty "int"] = some (.bl false) := by simp [gIsi, tyName, isTy]
theorem isi_non_bool : gIsi S [.non, .ty "bool"] = some (.bl false) := by simp [gIsi, tyName, isTy]
theorem isi_non_str : gIsi S [.non, .ty "str"] = some (.bl false) := by simp [gIsi, tyName, isTy]
theorem isi_non_tuple : gIsi S [.non, .ty "tuple"] = some (.bl false) := by simp [gIsi, tyName, isTy]
theorem isi_non_list : gIsi S [.non, .ty "list"] = some (.bl false) := by simp [gIsi, tyName, isTy]
theorem isi_non_dict : gIsi S [.non, .ty "dict"] = some (.bl false) := by simp [gIsi, tyName, isTy]
theorem isi_bl_int : gIsi S [.bl a, .ty "int"] = some (.bl true) := by simp [gIsi, tyName, isTy]
theorem isi_bl_bool : gIsi S [.bl a, .ty "bool"] = some (.bl true) := by simp [gIsi, tyName, isTy]
theorem isi_bl_str : gIsi S [.bl a, .ty "str"] = some (.bl false) := by simp [gIsi, tyName, isTy]
theorem isi_bl_tuple : gIsi S [.bl a, .ty "tuple"] = some (.bl false) := by simp [gIsi, tyName, isTy]
theorem isi_bl_list : gIsi S [.bl a, .ty "list"] = some (.bl false) := by simp [gIsi, tyName, isTy]
theorem isi_bl_dict : gIsi S [.bl a, .ty "dict"] = some (.bl false) := by simp [gIsi, tyName, isTy]
theorem isi_int_int : gIsi S [.int i, .ty "int"] = some (.bl true) := by simp [gIsi, tyName, isTy]
theorem isi_int_bool : gIsi S [.int i, .ty "bool"] = some (.bl false) := by simp [gIsi, tyName, isTy]
theorem isi_int_str : gIsi S [.int i, .ty "str"] = some (.bl false) := by simp [gIsi, tyName, isTy]
theorem isi_int_tuple : gIsi S [.int i, .ty "tuple"] = some (.bl false) := by simp [gIsi, tyName, isTy]
theorem isi_int_list : gIsi S [.int i, .ty "list"] = some (.bl false) := by simp [gIsi, tyName, isTy]
theorem isi_int_dict : gIsi S [.int i, .ty "dict"] = some (.bl false) := by simp [gIsi, tyName, isTy]
theorem isi_str_int : gIsi S [.str x, .ty "int"] = some (.bl false) := by simp [gIsi, tyName, isTy]
theorem isi_str_bool : gIsi S [.str x, .ty "bool"] = some (.bl false) := by simp [gIsi, tyName, isTy]
theorem isi_str_str : gIsi S [.str x, .ty "str"] = some (.bl true) := by simp [gIsi, tyName, isTy]
theorem isi_str_tuple : gIsi S [.str x, .ty "tuple"] = some (.bl false) := by simp [gIsi, tyName, isTy]
theorem isi_str_list : gIsi S [.str x, .ty "list"] = some (.bl false) := by simp [gIsi, tyName, isTy]
theorem isi_str_dict : gIsi S [.str x, .ty "dict"] = some (.bl false) := by simp [gIsi, tyName, isTy]
theorem isi_tup_int : gIsi S [.tup xs, .ty "int"] = some (.bl false) := by simp [gIsi, tyName, isTy]
theorem isi_tup_bool : gIsi S [.tup xs, .ty "bool"] = some (.bl false) := by simp [gIsi, tyName, isTy]
theorem isi_tup_str : gIsi S [.tup xs, .ty "str"] = some (.bl false) := by simp [gIsi, tyName, isTy]
theorem isi_tup_tuple : gIsi S [.tup xs, .ty "tuple"] = some (.bl true) := by simp [gIsi, tyName, isTy]
theorem isi_tup_list : gIsi S [.tup xs, .ty "list"] = some (.bl false) := by simp [gIsi, tyName, isTy]
theorem isi_tup_dict : gIsi S [.tup xs, .ty "dict"] = some (.bl false) := by simp [gIsi, tyName, isTy]
theorem isi_lst_int : gIsi S [.lst xs, .ty "int"] = some (.bl false) := by simp [gIsi, tyName, isTy]
theorem isi_lst_bool : gIsi S [.lst xs, .ty "bool"] = some (.bl false) := by simp [gIsi, tyName, isTy]
theorem isi_lst_str : gIsi S [.lst xs, .ty "str"] = some (.bl false) := by simp [gIsi, tyName, isTy]
theorem isi_lst_tuple : gIsi S [.lst xs, .ty "tuple"] = some (.bl false) := by simp [gIsi, tyName, isTy]
theorem isi_lst_list : gIsi S [.lst xs, .ty "list"] = some (.bl true) := by simp [gIsi, tyName, isTy]
theorem isi_lst_dict : gIsi S [.lst xs, .ty "dict"] = some (.bl false) := by simp [gIsi, tyName, isTy]
theorem isi_fz_int : gIsi S [.fz xs, .ty "int"] = some (.bl false) := by simp [gIsi, tyName, isTy]
theorem isi_fz_bool : gIsi S [.fz xs, .ty "bool"] = some (.bl false) := by simp [gIsi, tyName, isTy]
theorem isi_fz_str : gIsi S [.fz xs, .ty "str"] = some (.bl false) := by simp [gIsi, tyName, isTy]
theorem isi_fz_tuple : gIsi S [.fz xs, .ty "tuple"] = some (.bl false) := by simp [gIsi, tyName, isTy]
theorem isi_fz_list : gIsi S [.fz xs, .ty "list"] = some (.bl true) := by simp [gIsi, tyName, isTy]
theorem isi_fz_dict : gIsi S [.fz xs, .ty "dict"] = some (.bl false) := by simp [gIsi, tyName, isTy]
end
end PD

/-! PyD6: errors. -/
namespace PD
open PySem PySem.Spec PyProof.Rows L2
def mRaise (e : Exn) : MS := fun E S => .ex e E S
/-- an own class of errors without an __init__ of its own -/
structure ExK (K : PySem.W.Frag) (mg : Str → Option Value) (x : String) : Prop where
  g : mg (x : Str) = some (.ref (He.ga K x))
  q : PySem.W.excIn K (He.ga K x) He.veBase "ValueError.__new__" = true
  k : PySem.W.keepIn K (.ref (He.ga K x)) = true
  b : PySem.W.subIn K (.ref (He.ga K x)) (.type "BaseException") = some true
  t : PySem.W.typeIn K (.ref (He.ga K x)) = some (.type "type")
section
variable {X : Cx} {W : WW X.K} {pos : Pos}
theorem pmk_own0 {C : Addr} {bmB : List Value} {B newId initId : String} {x : Str} {p pos : Pos} (F : ExcBaseFacts B newId initId bmB) (q : PySem.W.excIn X.K C bmB newId = true) (gC : X.mg x = some (.ref C)) (kC : PySem.W.keepIn X.K (.ref C) = true) (r : Raises X (.ref C)) (hg : Gl X x)
    (hdb : (x == ("__debug__" : Str)) = false := by decide) : PMk X (.Call (.Name x p) [] [] pos) (fun _ H Q => Q (.ref C) none H) := by
  intro pins s σ H Q I h
  refine wpAny_Call_Name_kw (ld_glob I hg gC ?_ hdb)
  refine PySem.W.callWith_K0 I.kIn kC ?_
  show wpAny _ _ (call (.ref C) []) _ _ _
  obtain ⟨bm, N, nm, qn, bs, hdct, sn, sub, ab, col, dd, k0, k1, k2, k3, k5, mN, hC, hN, hni, T⟩ := exc_obj I.kIn q
  refine wpAny_call_exc_subT F T hC hN hni (fun h' e hm => ?_) (by show 0 ≤ sizeLine; exact Nat.zero_le _)
  exact mk_of I hm r h (I.hok.gone hm.new)
theorem sd_raise0 {x : String} {p p2 : Pos} (c : ExK X.K X.mg x) (hc : X.calm = true) (tk : Takes X W.w) (hg : Gl X (x : Str)) (hdb : ((x : Str) == ("__debug__" : Str)) = false := by decide) :
    SD X W (.Raise (some (.Call (.Name (x : Str) p) [] [] p2)) none pos) (mRaise ⟨.own x, none⟩) := by
  refine sd_of (ps_raise hc tk (pmk_own0 PySem.F.excBase_ValueError c.q c.g c.k (raises_own c.b c.t) hg hdb)) fun D σ H ρ S E r er p => ?_
  exact p ρ H σ _ none r Ext.refl er ⟨rfl, rfl⟩
/-! try: .. except C as n: .. -/
/-- does the clause take it: a table by the classes' names -/
def takesE (tbl : List (String × Bool)) (e : Exn) : Option Bool := match e.cls with
  | .own x => tbl.lookup x
  | .bi _ => none
def mTryAs (body : MS) (tbl : List (String × Bool)) (i : Nat) (suite : Exn → MS) : MS := fun E S => match body E S with
  | .ex e E' S' => (match takesE tbl e with
    | some true => if i < E'.length then (match suite e (E'.set i (some .exo)) S' with
      | .nx E2 S2 => .nx (E2.set i none) S2
      | .bk E2 S2 => .bk (E2.set i none) S2
      | .ct E2 S2 => .ct (E2.set i none) S2
      | .rt d S2 => .rt d S2
      | _ => .bad) else .bad
    | some false => .ex e E' S'
    | none => .bad)
  | r => r
def mTryOnly (body : MS) (tbl : List (String × Bool)) (suite : Exn → MS) : MS := fun E S => match body E S with
  | .ex e E' S' => (match takesE tbl e with
    | some true => (match suite e E' S' with
      | .ex _ _ _ => .bad
      | r => r)
    | some false => .ex e E' S'
    | none => .bad)
  | r => r
/-- what the table's words say of the written part -/
def TblOk (K : PySem.W.Frag) (c : Value) (tbl : List (String × Bool)) : Prop := ∀ p ∈ tbl, PySem.W.exmOne K (.ref (He.ga K p.1)) c = some p.2
theorem lookup_mem' : ∀ {tbl : List (String × Bool)} {x : String} {b : Bool}, tbl.lookup x = some b → (x, b) ∈ tbl
  | [], _, _, h => by cases h
  | (y, c) :: t, x, b, h => by
    rw [List.lookup_cons] at h
    by_cases q : (x == y) = true
    · rw [q] at h
      cases h
      rw [beq_iff_eq.mp q]
      exact List.mem_cons_self
    · have q2 : (x == y) = false := by simpa using q
      rw [q2] at h
      exact List.mem_cons_of_mem _ (lookup_mem' h)
/-- what holds in the suite -/
def WS (X : Cx) (W : WW X.K) (e : Exn) (c : Value) (d : Option Addr) (f : Option (Nat × Addr)) : WW X.K := ⟨fun _ _ _ _ => False, fun ρ H => XR X.K ρ H e c d ∧ W.g ρ H, fun _ _ _ _ x h => ⟨h.1.mono x, W.gm _ _ _ _ x h.2⟩, f⟩
theorem sd_try_as {x : String} {n : Str} {i : Nat} {body suite : List Stmt} {b0 : Stmt} {np pos' : Pos} {mb : MS} {ms : Exn → MS} {tbl : List (String × Bool)} {c : Value} (hs : X.stack = X.env :: X.outer) (hf : X.env.frame = some X.env.locals) (hN : X.N.Nodup) (hi : X.N[i]? = some n) (hln : X.env.kindOf n = some .local)
    (hw : W.fix = none) (hc : Names X (x : Str) c) (ht : TblOk X.K c tbl) (tk : Takes X W.w)
    (hb : ∀ (w : WX) (pn : List (Addr × Obj)) (xe : Value → Shared → Prop), Takes (X.tr pn xe) w → PassesOwn (model X.prog X.w) X.A X.env xe → BD (X.tr pn xe) (⟨w, W.g, W.gm, W.fix⟩ : WW X.K) body mb)
    (hsu : ∀ (a : Addr) (oe : Obj) (e : Exn) (d : Option Addr) (pn : List (Addr × Obj)), Zc (e.cls.val X.K) d oe → (∃ vs, oe.data = .fields vs) → BD (X.suite a ((a, oe) :: pn)) (WS X W e (e.cls.val X.K) d (some (i, a)) : WW X.K) (b0 :: suite) (ms e)) :
    SD X W (.Try body [.ExceptHandler (some (.Name (x : Str) np)) (some n) (b0 :: suite) pos'] [] [] pos) (mTryAs mb tbl i ms) := by
  refine sd_of (ps_try_as (tb := fun w => tS X.K (⟨w, W.g, W.gm, W.fix⟩ : WW X.K) mb) (ts := fun a cls d D σ H => ∃ ρ S E e, Rel X.K ρ S H ∧ ER X.K W ρ H E σ ∧ XR X.K ρ H e cls d ∧ σ[i]? = some (some (.ref a)) ∧ SPost X.K (WS X W e cls d (some (i, a))) ρ H D (ms e E S)) hs hf hN hi hln hc tk (fun w pn xe h1 h2 => hb w pn xe h1 h2) ?_) ?_
  · intro a oe cls d pn hz hv
    refine ⟨fun pins s σ H D I q => ?_⟩
    obtain ⟨ρ, S, E, e, r, er, xr, sa, p⟩ := q
    have hcls := xr.1
    subst hcls
    exact (hsu a oe e d pn hz hv).run pins s σ H D I ⟨ρ, S, E, r, er.wish ⟨xr, er.1⟩ (fun j b z => by cases z; exact sa), p⟩
  · intro D σ H ρ S E r er p
    refine ⟨ρ, S, E, r, er.wish er.1 er.2.1, ?_⟩
    unfold mTryAs at p
    cases q : mb E S with
    | nx E' S' => rw [q] at p; exact fun ρ' H' σ' r' e' er' => p ρ' H' σ' r' e' (er'.wish er'.1 er'.2.1)
    | rt d S' => rw [q] at p; exact p
    | bk E' S' => rw [q] at p; exact fun ρ' H' σ' r' e' er' => p ρ' H' σ' r' e' (er'.wish er'.1 er'.2.1)
    | ct E' S' => rw [q] at p; exact fun ρ' H' σ' r' e' er' => p ρ' H' σ' r' e' (er'.wish er'.1 er'.2.1)
    | bad => rw [q] at p; exact p
    | ex e E' S' =>
      rw [q] at p
      intro ρ' H' σ' cv dx r' e' er' xr
      have hcls := xr.1
      simp only at p
      cases ht2 : takesE tbl e with
      | none => rw [ht2] at p; exact p.elim
      | some b =>
        rw [ht2] at p
        have hm : PySem.W.exmOne X.K cv c = some b := by
          unfold takesE at ht2
          rw [hcls]
          cases q2 : e.cls with
          | own y => rw [q2] at ht2; exact ht (y, b) (lookup_mem' ht2)
          | bi y => rw [q2] at ht2; cases ht2
        refine ⟨b, hm, fun hb1 a ha => ?_, fun hb1 => ?_⟩
        · subst hb1
          simp only at p
          by_cases hil : i < E'.length
          case neg => rw [if_neg hil] at p; exact p.elim
          rw [if_pos hil] at p
          have er3 := (er'.wish (W' := W) er'.1 er'.2.1).set hw i (show DV X.K ρ' H' .exo (.ref a) by simp [DV])
          refine ⟨ρ', S', E'.set i (some .exo), e, r', er3, xr, ?_, ?_⟩
          · have hlt : i < σ'.length := by rw [← er'.2.2.1]; exact hil
            rw [List.getElem?_set_self hlt]
          cases q3 : ms e (E'.set i (some .exo)) S' with
          | nx E2 S2 => rw [q3] at p; exact fun ρ2 H2 σ2 r2 e2 er2 => p ρ2 H2 _ r2 (e'.trans e2) ((er2.wish (W' := W) er2.1.2 (fun j b z => by rw [hw] at z; cases z)).unset hw i)
          | bk E2 S2 => rw [q3] at p; exact fun ρ2 H2 σ2 r2 e2 er2 => p ρ2 H2 _ r2 (e'.trans e2) ((er2.wish (W' := W) er2.1.2 (fun j b z => by rw [hw] at z; cases z)).unset hw i)
          | ct E2 S2 => rw [q3] at p; exact fun ρ2 H2 σ2 r2 e2 er2 => p ρ2 H2 _ r2 (e'.trans e2) ((er2.wish (W' := W) er2.1.2 (fun j b z => by rw [hw] at z; cases z)).unset hw i)
          | rt d2 S2 => rw [q3] at p; exact fun ρ2 H2 v r2 e2 dv => p ρ2 H2 v r2 (e'.trans e2) dv
          | ex e2 E2 S2 => rw [q3] at p; exact p.elim
          | bad => rw [q3] at p; exact p.elim
        · subst hb1
          exact p ρ' H' σ' cv dx r' e' (er'.wish er'.1 er'.2.1) xr
theorem sd_try_only {x : String} {body suite : List Stmt} {b0 : Stmt} {np pos' : Pos} {mb : MS} {ms : Exn → MS} {tbl : List (String × Bool)} {c : Value} (hs : X.stack = X.env :: X.outer) (hf : X.env.frame = some X.env.locals)
    (hc : Names X (x : Str) c) (ht : TblOk X.K c tbl) (tk : Takes X W.w)
    (hb : ∀ (w : WX) (pn : List (Addr × Obj)) (xe : Value → Shared → Prop), Takes (X.tr pn xe) w → PassesOwn (model X.prog X.w) X.A X.env xe → BD (X.tr pn xe) (⟨w, W.g, W.gm, W.fix⟩ : WW X.K) body mb)
    (hsu : ∀ (a : Addr) (oe : Obj) (e : Exn) (d : Option Addr) (pn : List (Addr × Obj)), Zc (e.cls.val X.K) d oe → (∃ vs, oe.data = .fields vs) → BD (X.suite a ((a, oe) :: pn)) (WS X W e (e.cls.val X.K) d W.fix : WW X.K) (b0 :: suite) (ms e)) :
    SD X W (.Try body [.ExceptHandler (some (.Name (x : Str) np)) none (b0 :: suite) pos'] [] [] pos) (mTryOnly mb tbl ms) := by
  refine sd_of (ps_try_only (tb := fun w => tS X.K (⟨w, W.g, W.gm, W.fix⟩ : WW X.K) mb) (ts := fun a cls d D σ H => ∃ ρ S E e, Rel X.K ρ S H ∧ ER X.K W ρ H E σ ∧ XR X.K ρ H e cls d ∧ SPost X.K (WS X W e cls d W.fix) ρ H D (ms e E S)) hs hf hc tk (fun w pn xe h1 h2 => hb w pn xe h1 h2) ?_) ?_
  · intro a oe cls d pn hz hv
    refine ⟨fun pins s σ H D I q => ?_⟩
    obtain ⟨ρ, S, E, e, r, er, xr, p⟩ := q
    have hcls := xr.1
    subst hcls
    exact (hsu a oe e d pn hz hv).run pins s σ H D I ⟨ρ, S, E, r, er.wish ⟨xr, er.1⟩ er.2.1, p⟩
  · intro D σ H ρ S E r er p
    refine ⟨ρ, S, E, r, er.wish er.1 er.2.1, ?_⟩
    unfold mTryOnly at p
    cases q : mb E S with
    | nx E' S' => rw [q] at p; exact fun ρ' H' σ' r' e' er' => p ρ' H' σ' r' e' (er'.wish er'.1 er'.2.1)
    | rt d S' => rw [q] at p; exact p
    | bk E' S' => rw [q] at p; exact fun ρ' H' σ' r' e' er' => p ρ' H' σ' r' e' (er'.wish er'.1 er'.2.1)
    | ct E' S' => rw [q] at p; exact fun ρ' H' σ' r' e' er' => p ρ' H' σ' r' e' (er'.wish er'.1 er'.2.1)
    | bad => rw [q] at p; exact p
    | ex e E' S' =>
      rw [q] at p
      intro ρ' H' σ' cv dx r' e' er' xr
      have hcls := xr.1
      simp only at p
      cases ht2 : takesE tbl e with
      | none => rw [ht2] at p; exact p.elim
      | some b =>
        rw [ht2] at p
        have hm : PySem.W.exmOne X.K cv c = some b := by
          unfold takesE at ht2
          rw [hcls]
          cases q2 : e.cls with
          | own y => rw [q2] at ht2; exact ht (y, b) (lookup_mem' ht2)
          | bi y => rw [q2] at ht2; cases ht2
        refine ⟨b, hm, fun hb1 a ha => ?_, fun hb1 => ?_⟩
        · subst hb1
          simp only at p
          refine ⟨ρ', S', E', e, r', er'.wish (W' := W) er'.1 er'.2.1, xr, ?_⟩
          cases q3 : ms e E' S' with
          | nx E2 S2 => rw [q3] at p; exact fun ρ2 H2 σ2 r2 e2 er2 => p ρ2 H2 _ r2 (e'.trans e2) (er2.wish er2.1.2 er2.2.1)
          | bk E2 S2 => rw [q3] at p; exact fun ρ2 H2 σ2 r2 e2 er2 => p ρ2 H2 _ r2 (e'.trans e2) (er2.wish er2.1.2 er2.2.1)
          | ct E2 S2 => rw [q3] at p; exact fun ρ2 H2 σ2 r2 e2 er2 => p ρ2 H2 _ r2 (e'.trans e2) (er2.wish er2.1.2 er2.2.1)
          | rt d2 S2 => rw [q3] at p; exact fun ρ2 H2 v r2 e2 dv => p ρ2 H2 v r2 (e'.trans e2) dv
          | ex e2 E2 S2 => rw [q3] at p; exact p.elim
          | bad => rw [q3] at p; exact p.elim
        · subst hb1
          exact p ρ' H' σ' cv dx r' e' (er'.wish er'.1 er'.2.1) xr
end
end PD
namespace PD
open PySem PySem.Spec PyProof.Rows L2
/-- isinstance of the caught error, by a table of the classes' names -/
def mExIs (e : Exn) (tbl : List (String × Bool)) : ME := fun _ S => match e.fs with
  | some _ => .bad
  | none => (match takesE tbl e with
    | some b => .ok (.bl b) S
    | none => .bad)
structure IsOk (K : PySem.W.Frag) (c : String) (tbl : List (String × Bool)) : Prop where
  all : ∀ p ∈ tbl, ExcC K (He.ga K p.1) ∧ PySem.W.kitOne K (.ref (He.ga K p.1)) (.ref (He.ga K c)) = some p.2
theorem takesE_some {tbl : List (String × Bool)} {e : Exn} {b : Bool} (h : takesE tbl e = some b) : ∃ y, e.cls = .own y ∧ (y, b) ∈ tbl := by
  unfold takesE at h
  cases q : e.cls with
  | own y => rw [q] at h; exact ⟨y, rfl, lookup_mem' h⟩
  | bi y => rw [q] at h; cases h
section
variable {X : Cx} {W : WW X.K} {pos : Pos}
theorem ed_exis {e : Exn} {d : Option Addr} {a : Addr} {oe : Obj} {pn : List (Addr × Obj)} {i : Nat} {c : String} {tbl : List (String × Bool)} {en ec : Expr} {p : Pos} (hz : Zc (e.cls.val X.K) d oe) (hv : ∃ vs, oe.data = .fields vs) (ht : IsOk X.K c tbl)
    (hg : Gl X "isinstance") (hm : X.mg "isinstance" = none) (hn : PE (X.suite a ((a, oe) :: pn)) en (tVar i)) (hc : PE (X.suite a ((a, oe) :: pn)) ec (tC (.ref (He.ga X.K c))))
    (hs1 : starEach (en :: [ec]) X.env = (false, eval en X.env) :: starEach [ec] X.env := by rfl) (hs2 : starEach (ec :: []) X.env = (false, eval ec X.env) :: starEach [] X.env := by rfl) (hpl : (backTo pos (starEach [ec] X.env)).any (·.1) = false := by rfl) :
    ED (X.suite a ((a, oe) :: pn)) (WS X W e (e.cls.val X.K) d (some (i, a)) : WW X.K) (.Call (.Name "isinstance" p) [en, ec] [] pos) (mExIs e tbl) := by
  refine ⟨fun pins s σ H Q I h => ?_⟩
  obtain ⟨ρ, S, E, r, er, q⟩ := h
  unfold mExIs at q
  cases q1 : e.fs with
  | some fs => rw [q1] at q; exact q.elim
  | none =>
    rw [q1] at q
    cases q2 : takesE tbl e with
    | none => rw [q2] at q; exact q.elim
    | some b =>
      rw [q2] at q
      obtain ⟨y, hy, hmem⟩ := takesE_some q2
      obtain ⟨hC, hk⟩ := ht.all _ hmem
      have hd : d = none := by
        have h1 := er.1.1.2
        rw [q1] at h1
        exact h1
      subst hd
      rw [hy] at hz
      have C : CallR (X.suite a ((a, oe) :: pn)) (.builtin "isinstance") (rIsE X.K (He.ga X.K y) a) := call_isE hC hz hv
      refine PE.run (pe_callB (X := X.suite a ((a, oe) :: pn)) C hg hm boot_isinstance (pa_cons (X := X.suite a ((a, oe) :: pn)) hn (pa_cons (X := X.suite a ((a, oe) :: pn)) hc pa_nil hs2) hs1) (he := hs1) (hpl := hpl)) pins s σ H Q I ?_
      refine ⟨.ref a, er.2.1 i a rfl, ?_⟩
      exact ⟨.ref (He.ga X.K c), .ref (He.ga X.K c), b, rfl, fun u hu => hu, hk, q ρ H _ r Ext.refl (by simp [DV])⟩
end
/-! ### more facts of the written part: a row of truths -/
def obsB (n : Nat) (fa : List He.Fa) (fn : List He.DefD) (ex : PySem.W.Frag → Bool) (g : Addr → Option Obj) : He.AlD × Bool := (He.obsDG n fa fn g, ex (He.frG g (He.asD g n)))
def hookB (n : Nat) (fa : List He.Fa) (fn : List He.DefD) (ex : PySem.W.Frag → Bool) : PySem.W.Hook where
  α := He.AlD × Bool
  obs := fun s => obsB n fa fn ex s.heap.get?
  val := fun _ => (He.valD fn, true)
  says := fun _ h => ∃ K : PySem.W.Frag, K.In h ∧ He.SaysD fa fn K ∧ ex K = true
  of := fun _ _ e => ⟨_, He.frG_in, congrArg (fun z : He.AlD × Bool => z.1) e, congrArg (fun z : He.AlD × Bool => z.2) e⟩
  keeps := fun _ _ _ ⟨K, hK, c⟩ k => ⟨K, PySem.W.Frag.In.keeps hK k, c⟩
theorem obsB_eq {n : Nat} {fa : List He.Fa} {fn : List He.DefD} {ex : PySem.W.Frag → Bool} {g : Addr → Option Obj} {s : Shared} (h : ∀ a, g a = s.heap.get? a) : obsB n fa fn ex g = (hookB n fa fn ex).obs s := by
  have e : g = s.heap.get? := funext h
  rw [e] <;> rfl
def excCB (K : PySem.W.Frag) (x : String) : Bool :=
  decide (PySem.W.findIn K (.ref (He.ga K x)) "__getattribute__" = some (some (.builtin "BaseException.__getattribute__"))) && (decide (PySem.W.findIn K (.ref (He.ga K x)) "__getattr__" = some none) &&
  (decide (PySem.W.subIn K (.ref (He.ga K x)) (.type "BaseException") = some true) && (PySem.W.hasDictIn K (He.ga K x) && (decide (PySem.W.findIn K (.ref (He.ga K x)) "__class__" = some (some (.builtin "object.__class__"))) &&
  (decide (PySem.W.specialIn K (.builtin "object.__class__") "__get__" = some (some (.builtin "getset_descriptor.__get__"))) && (decide (PySem.W.takesIn K (.builtin "object.__class__") = some true) && decide (PySem.W.mroIn K (He.ga K x) (.type "object") = some true)))))))
theorem excCB_ok {K : PySem.W.Frag} {x : String} (h : excCB K x = true) : ExcC K (He.ga K x) := by
  unfold excCB at h
  simp only [Bool.and_eq_true, decide_eq_true_eq] at h
  obtain ⟨h1, h2, h3, h4, h5, h6, h7, h8⟩ := h
  exact ⟨h1, h2, h3, h4, h5, h6, h7, h8⟩
def kitCB (K : PySem.W.Frag) (x c : String) (b : Bool) : Bool := decide (PySem.W.kitOne K (.ref (He.ga K x)) (.ref (He.ga K c)) = some b)
theorem kitCB_ok {K : PySem.W.Frag} {x c : String} {b : Bool} (h : kitCB K x c b = true) : PySem.W.kitOne K (.ref (He.ga K x)) (.ref (He.ga K c)) = some b := of_decide_eq_true h
end PD
namespace PD
open PySem PySem.Spec PyProof.Rows L2
/-! name += value: numbers, texts -/
open Classical in
noncomputable def gAddA (_ : Sto) (x y : D) : Option D := match x, y with
  | .int i, .int j => some (.int (i + j))
  | .str a, .str b => if sizeOk (a.length + b.length) then some (.str (a ++ b)) else none
  | _, _ => none
theorem g_addA {S : Sto} {i j : Int} : gAddA S (.int i) (.int j) = some (.int (i + j)) := rfl
open Classical in
theorem g_addAS {S : Sto} {x y : Tx} : gAddA S (.str x) (.str y) = if sizeOk (x.length + y.length) then some (.str (x ++ y)) else none := rfl
def rAddA : R2 := fun x y H Q => (rI0 fun i j => .int (i + j)) x y H Q ∨ (∃ i j, x = .str i ∧ y = .str j ∧ i.length + j.length ≤ sizeLine ∧ Q (.str (i ++ j)) H)
section
variable {X : Cx}
theorem iop_addD : OpR X (inplaceOp .Add) rAddA := iop_add.or iop_add_str
theorem rp_iadd : ∀ x y H Q, rP X.K gAddA x y H Q → rAddA x y H Q := by
  rintro v u H Q ⟨ρ, S, x, y, d, r, dx, dy, hg, q⟩
  unfold gAddA at hg
  split at hg
  · rw [dv_int] at dx dy
    subst dx dy
    cases hg
    exact .inl ⟨_, _, rfl, rfl, post_int r q⟩
  · rename_i a b
    rw [dv_str] at dx dy
    subst dx dy
    by_cases hl : sizeOk (a.length + b.length)
    · rw [if_pos hl] at hg
      cases hg
      exact .inr ⟨_, _, rfl, rfl, by rw [sv_len, sv_len]; exact hl, by rw [sv_cat]; exact post_str r q⟩
    · rw [if_neg hl] at hg; cases hg
  · cases hg
end
end PD

namespace PD
open PySem PySem.Spec PyProof PyProof.Rows L2
/-! ### == on data -/
mutual
def okd : D → Nat → Bool
  | .non, _ => true
  | .bl _, _ => true
  | .int _, _ => true
  | .str c, _ => c.all (· < 0x110000)
  | .tup xs, n => decide (0 < n) && okds xs (n - 1)
  | .lst xs, n => decide (0 < n) && okds xs (n - 1)
  | .fz xs, n => decide (0 < n) && okds xs (n - 1)
  | .loc _, _ => false
  | .ty _, _ => false
  | .glo _, _ => false
  | .exo, _ => false
def okds : List D → Nat → Bool
  | [], _ => true
  | x :: xs, n => okd x n && okds xs n
end
mutual
def teq : D → D → Bool
  | .non, y => match y with | .non => true | _ => false
  | .bl a, y => match y with | .bl b => a == b | .int j => (if a then 1 else 0) == j | _ => false
  | .int i, y => match y with | .bl b => i == (if b then 1 else 0) | .int j => decide (i = j) | _ => false
  | .str a, y => match y with | .str b => decide (a = b) | _ => false
  | .tup xs, y => match y with | .tup ys => teqs xs ys | _ => false
  | .lst xs, y => match y with | .lst ys => teqs xs ys | .fz ys => teqs xs ys | _ => false
  | .fz xs, y => match y with | .lst ys => teqs xs ys | .fz ys => teqs xs ys | _ => false
  | .loc _, _ => false
  | .ty _, _ => false
  | .glo _, _ => false
  | .exo, _ => false
def teqs : List D → List D → Bool
  | [], ys => match ys with | [] => true | _ :: _ => false
  | x :: xs, ys => match ys with | [] => false | y :: ys => teq x y && teqs xs ys
end
mutual
theorem okd_toP : ∀ (d : D) (n : Nat), okd d n = true → ∃ p, toP d = some p ∧ p.canLay0 = true ∧ p.depth ≤ n
  | .non, n, h => ⟨_, rfl, by simp [PyData.canLay0], by simp [PyData.depth]⟩
  | .bl b, n, h => ⟨_, rfl, by simp [PyData.canLay0], by simp [PyData.depth]⟩
  | .int i, n, h => ⟨_, rfl, by simp [PyData.canLay0], by simp [PyData.depth]⟩
  | .str c, n, h => by
    simp only [okd] at h
    exact ⟨_, rfl, by simpa [PyData.canLay0, PyData.strOk] using h, by simp [PyData.depth]⟩
  | .tup xs, n, h => by
    simp only [okd, Bool.and_eq_true, decide_eq_true_eq] at h
    obtain ⟨p, e, a, b⟩ := okds_toP xs (n - 1) h.2
    refine ⟨.tuple p, by simp only [toP, e, Option.map_some], by simpa [PyData.canLay0] using a, by simp [PyData.depth]; omega⟩
  | .lst xs, n, h => by
    simp only [okd, Bool.and_eq_true, decide_eq_true_eq] at h
    obtain ⟨p, e, a, b⟩ := okds_toP xs (n - 1) h.2
    refine ⟨.list p, by simp only [toP, e, Option.map_some], by simpa [PyData.canLay0] using a, by simp [PyData.depth]; omega⟩
  | .fz xs, n, h => by
    simp only [okd, Bool.and_eq_true, decide_eq_true_eq] at h
    obtain ⟨p, e, a, b⟩ := okds_toP xs (n - 1) h.2
    refine ⟨.list p, by simp only [toP, e, Option.map_some], by simpa [PyData.canLay0] using a, by simp [PyData.depth]; omega⟩
  | .loc _, n, h => by simp [okd] at h
  | .ty _, n, h => by simp [okd] at h
  | .glo _, n, h => by simp [okd] at h
  | .exo, n, h => by simp [okd] at h
theorem okds_toP : ∀ (ds : List D) (n : Nat), okds ds n = true → ∃ p, toPs ds = some p ∧ PyData.canLayAll0 p = true ∧ PyData.depthAll p ≤ n
  | [], n, h => ⟨[], rfl, by simp [PyData.canLayAll0], by simp [PyData.depthAll]⟩
  | x :: xs, n, h => by
    simp only [okds, Bool.and_eq_true] at h
    obtain ⟨p, e, a, b⟩ := okd_toP x n h.1
    obtain ⟨q, e2, a2, b2⟩ := okds_toP xs n h.2
    exact ⟨p :: q, by simp only [toPs, e, e2], by simp [PyData.canLayAll0, a, a2], by simp [PyData.depthAll]; omega⟩
end
theorem tx_str {a b : Tx} : ((⟨a.toArray⟩ : Str) == ⟨b.toArray⟩) = decide (a = b) := by
  rw [Bool.eq_iff_iff]
  simp only [beq_iff_eq, decide_eq_true_eq]
  constructor
  · intro h; have := congrArg (fun x : Str => x.cps.toList) h; simpa using this
  · intro h; rw [h]
mutual
theorem eqv_teq : ∀ (x y : D) (p q : PyData), toP x = some p → toP y = some q → PyData.eqv p q = teq x y
  | .non, y, p, q, h, g => by
    simp only [toP] at h; cases h
    cases y <;> simp only [toP, Option.map_eq_some_iff, reduceCtorEq] at g
    all_goals first | (obtain ⟨r, _, rfl⟩ := g; simp [PyData.eqv, teq]; done) | (cases g; simp [PyData.eqv, teq]; done)
  | .bl b, y, p, q, h, g => by
    simp only [toP] at h; cases h
    cases y <;> simp only [toP, Option.map_eq_some_iff, reduceCtorEq] at g
    all_goals first | (obtain ⟨r, _, rfl⟩ := g; simp [PyData.eqv, teq]; done) | (cases g; simp [PyData.eqv, teq]; done)
  | .int i, y, p, q, h, g => by
    simp only [toP] at h; cases h
    cases y <;> simp only [toP, Option.map_eq_some_iff, reduceCtorEq] at g
    all_goals first | (obtain ⟨r, _, rfl⟩ := g; simp [PyData.eqv, teq]; done) | (cases g; simp [PyData.eqv, teq]; done) | (cases g; simp only [PyData.eqv, teq]; rw [Bool.eq_iff_iff]; simp; done)
  | .str c, y, p, q, h, g => by
    simp only [toP] at h; cases h
    cases y <;> simp only [toP, Option.map_eq_some_iff, reduceCtorEq] at g
    all_goals first | (obtain ⟨r, _, rfl⟩ := g; simp [PyData.eqv, teq]; done) | (cases g; simp only [PyData.eqv, teq]; exact tx_str) | (cases g; simp [PyData.eqv, teq]; done)
  | .tup xs, y, p, q, h, g => by
    simp only [toP, Option.map_eq_some_iff] at h
    obtain ⟨ps, h1, rfl⟩ := h
    cases y <;> simp only [toP, Option.map_eq_some_iff, reduceCtorEq] at g
    all_goals first | (obtain ⟨r, g1, rfl⟩ := g; simp only [PyData.eqv, teq]; exact eqv_teqs _ _ _ _ h1 g1) | (obtain ⟨r, g1, rfl⟩ := g; simp only [PyData.eqv, teq]; done) | (cases g; simp [PyData.eqv, teq]; done)
  | .lst xs, y, p, q, h, g => by
    simp only [toP, Option.map_eq_some_iff] at h
    obtain ⟨ps, h1, rfl⟩ := h
    cases y <;> simp only [toP, Option.map_eq_some_iff, reduceCtorEq] at g
    all_goals first | (obtain ⟨r, g1, rfl⟩ := g; simp only [PyData.eqv, teq]; exact eqv_teqs _ _ _ _ h1 g1) | (obtain ⟨r, g1, rfl⟩ := g; simp only [PyData.eqv, teq]; done) | (cases g; simp [PyData.eqv, teq]; done)
  | .fz xs, y, p, q, h, g => by
    simp only [toP, Option.map_eq_some_iff] at h
    obtain ⟨ps, h1, rfl⟩ := h
    cases y <;> simp only [toP, Option.map_eq_some_iff, reduceCtorEq] at g
    all_goals first | (obtain ⟨r, g1, rfl⟩ := g; simp only [PyData.eqv, teq]; exact eqv_teqs _ _ _ _ h1 g1) | (obtain ⟨r, g1, rfl⟩ := g; simp only [PyData.eqv, teq]; done) | (cases g; simp [PyData.eqv, teq]; done)
  | .loc _, y, p, q, h, g => by simp [toP] at h
  | .ty _, y, p, q, h, g => by simp [toP] at h
  | .glo _, y, p, q, h, g => by simp [toP] at h
  | .exo, y, p, q, h, g => by simp [toP] at h
theorem eqv_teqs : ∀ (xs ys : List D) (p q : List PyData), toPs xs = some p → toPs ys = some q → PyData.eqvAll p q = teqs xs ys
  | [], ys, p, q, h, g => by
    simp only [toPs] at h; cases h
    cases ys with
    | nil => simp only [toPs] at g; cases g; simp [PyData.eqvAll, teqs]
    | cons y ys =>
      simp only [toPs] at g
      split at g
      · cases g; simp [PyData.eqvAll, teqs]
      · cases g
  | x :: xs, ys, p, q, h, g => by
    simp only [toPs] at h
    split at h
    · rename_i a b e1 e2
      cases h
      cases ys with
      | nil => simp only [toPs] at g; cases g; simp [PyData.eqvAll, teqs]
      | cons y ys =>
        simp only [toPs] at g
        split at g
        · rename_i c d e3 e4
          cases g
          simp only [PyData.eqvAll, teqs]
          rw [eqv_teq x y a c e1 e3, eqv_teqs xs ys b d e2 e4]
        · cases g
    · cases h
end
/-- a value with the items of a list that may change read off -/
def flat (S : Sto) (d : D) : D := match d with
  | .loc n => match seqF S (.loc n) with
    | some xs => .lst xs
    | none => .loc n
  | d => d
theorem toPS_flat (S : Sto) (d : D) : okd (flat S d) 64 = true → toPS S d = toP (flat S d) := by
  intro h
  unfold toPS
  cases d
  case loc n =>
    simp only [flat] at *
    cases e : seqF S (.loc n) with
    | none => (try rw [e] at h) <;> simp [okd] at h
    | some xs => simp only [e]; simp only [toP]
  all_goals simp only [seqF, flat, toP]
theorem deepEq_teq {S : Sto} {x y : D} (hx : okd (flat S x) 64 = true) (hy : okd (flat S y) 64 = true) : deepEq S x y = some (teq (flat S x) (flat S y)) := by
  obtain ⟨p, e1, a1, b1⟩ := okd_toP _ _ hx
  obtain ⟨q, e2, a2, b2⟩ := okd_toP _ _ hy
  unfold deepEq
  rw [toPS_flat S x hx, toPS_flat S y hy, e1, e2]
  simp only
  rw [if_pos ⟨by simp [SeqAt.shaped, a1, b1], by simp [SeqAt.shaped, a2, b2]⟩, eqv_teq _ _ _ _ e1 e2]
theorem eqB_teq {S : Sto} {x y : D} (hx : okd (flat S x) 64 = true) (hy : okd (flat S y) 64 = true) : eqB S x y = some (teq (flat S x) (flat S y)) := by
  unfold eqB
  split
  all_goals first | (simp [flat, teq]; done) | exact deepEq_teq hx hy
theorem gEq_teq {S : Sto} {x y : D} (hx : okd (flat S x) 64 = true) (hy : okd (flat S y) 64 = true) : gEq S x y = some (.bl (teq (flat S x) (flat S y))) := by
  unfold gEq; rw [eqB_teq hx hy]; rfl
theorem gNe_teq {S : Sto} {x y : D} (hx : okd (flat S x) 64 = true) (hy : okd (flat S y) 64 = true) : gNe S x y = some (.bl (!teq (flat S x) (flat S y))) := by
  unfold gNe; rw [eqB_teq hx hy]; rfl
mutual
theorem teq_self : ∀ (d : D) (n : Nat), okd d n = true → teq d d = true
  | .non, _, _ => by simp [teq]
  | .bl _, _, _ => by simp [teq]
  | .int _, _, _ => by simp [teq]
  | .str _, _, _ => by simp [teq]
  | .tup xs, n, h => by simp only [okd, Bool.and_eq_true] at h; simp only [teq]; exact teqs_self xs _ h.2
  | .lst xs, n, h => by simp only [okd, Bool.and_eq_true] at h; simp only [teq]; exact teqs_self xs _ h.2
  | .fz xs, n, h => by simp only [okd, Bool.and_eq_true] at h; simp only [teq]; exact teqs_self xs _ h.2
  | .loc _, _, h => by simp [okd] at h
  | .ty _, _, h => by simp [okd] at h
  | .glo _, _, h => by simp [okd] at h
  | .exo, _, h => by simp [okd] at h
theorem teqs_self : ∀ (ds : List D) (n : Nat), okds ds n = true → teqs ds ds = true
  | [], _, _ => by simp [teqs]
  | x :: xs, n, h => by
    simp only [okds, Bool.and_eq_true] at h
    simp only [teqs, teq_self x n h.1, teqs_self xs n h.2, Bool.and_self]
end
end PD

/-! PyD8: texts, methods, lists that change. -/
namespace PD
open PySem PySem.Spec PyProof PyProof.Rows L2
section
variable {X : Cx} {W : WW X.K} {pos : Pos}
/-! ### slices -/
def cutL {α : Type} (xs : List α) (lo hi : Option Int) : List α := (xs.drop (HT.sIx xs.length 0 lo)).take (HT.sIx xs.length xs.length hi - HT.sIx xs.length 0 lo)
open Classical in
noncomputable def gSl (S : Sto) (x : D) (lo hi : Option Int) : Option D := match x with
  | .str z => if sizeOk z.length then some (.str (cutL z lo hi)) else none
  | .tup xs => some (.tup (cutL xs lo hi))
  | x => (seqF S x).map fun xs => .lst (cutL xs lo hi)
def rSlAny (K : PySem.W.Frag) : V → Option Int → Option Int → Hp → VK → Prop := fun x lo hi H Q => rSlS x lo hi H Q ∨ rSlA K x lo hi H Q ∨ rSlL K x lo hi H Q
theorem sl_any : SlR X (rSlAny X.K) := sl_str.or (sl_tupA.or sl_list)
theorem cutS_D (z : Tx) (lo hi : Option Int) : cutS ⟨z.toArray⟩ lo hi = ⟨(cutL z lo hi).toArray⟩ := by
  unfold cutS cutL
  rw [sv_len]
theorem dvs_cut {K : PySem.W.Frag} {ρ : List Addr} {H : Hp} {ds : List D} {vs : List V} {lo hi : Option Int} (h : DVs K ρ H ds vs) : DVs K ρ H (cutL ds lo hi) (cutV vs lo hi) := by
  unfold cutL cutV
  rw [← h.length]
  exact DVs.take _ (DVs.drop _ h)
theorem cut_whole {α : Type} {xs : List α} {lo hi : Option Int} (h : HT.sIx xs.length 0 lo = 0 ∧ HT.sIx xs.length xs.length hi = xs.length) : cutL xs lo hi = xs := by
  unfold cutL
  rw [h.1, h.2]
  simp
theorem rp_sl : ∀ x l u H Q, rPS X.K gSl x l u H Q → rSlAny X.K x l u H Q := by
  rintro v lo hi H Q ⟨ρ, S, x, d, r, dx, hg, q⟩
  unfold gSl at hg
  split at hg
  · rename_i z
    rw [dv_str] at dx; subst dx
    by_cases hl : sizeOk z.length
    · rw [if_pos hl] at hg; cases hg
      exact .inl ⟨_, rfl, by rw [sv_len]; exact hl, by rw [cutS_D]; exact post_str r q⟩
    · rw [if_neg hl] at hg; cases hg
  · rename_i xs
    cases hg
    obtain ⟨a, vs, rfl, h1, h2⟩ := tup_ok dx
    refine .inr (.inl ⟨a, vs, rfl, h1, fun w => ?_, fun _ p hp => post_tup r hp (dvs_cut h2) q⟩)
    rw [cut_whole (by rw [h2.length]; exact w)] at q
    exact q ρ H _ r Ext.refl dx
  · cases e : seqF S x with
    | none => rw [e] at hg; cases hg
    | some xs =>
      rw [e] at hg; cases hg
      obtain ⟨a, vs, rfl, h1, h2⟩ := seqF_ok r dx e
      exact .inr (.inr ⟨a, vs, rfl, h1, fun p hp => post_lst r hp (dvs_cut h2) q⟩)
/-- xs[::-1] -/
def gRev (S : Sto) (x : D) : Option D := (seqF S x).map fun xs => .lst xs.reverse
theorem ed_rev {e : Expr} {m : ME} {k : Nat} {p1 p2 p3 : Pos} (h : ED X W e m) : ED X W (.Subscript e (.Slice none none (some (.UnaryOp .USub (.Constant (.int 1) k p1) p2)) p3) pos) (mUn gRev m) := by
  refine ed_of (pe_revL h) fun σ H Q ρ S E r er p => ?_
  refine ⟨ρ, S, E, r, er, (Post.bind (R := DV X.K) p).imp fun x H1 ⟨ρ1, S1, d, r1, e1, d1, p1⟩ => ?_⟩
  obtain ⟨u, hu, q⟩ := post_opt p1
  unfold gRev at hu
  cases e2 : seqF S1 d with
  | none => rw [e2] at hu; cases hu
  | some xs =>
    rw [e2] at hu; cases hu
    obtain ⟨a, vs, rfl, h1, h2⟩ := seqF_ok r1 d1 e2
    exact ⟨a, vs, rfl, h1, fun p hp => post_lst r1 hp h2.reverse q⟩
/-! ### methods of texts -/
noncomputable def mSM (g : Sto → Tx → List D → Option D) (o : ME) (a : MA) : ME := fun E S => (o E S).bind fun x S1 => match x with
  | .str z => (a E S1).bind fun xs S2 => match g S2 z xs with
    | some d => .ok d S2
    | none => .bad
  | _ => .bad
def rPM (K : PySem.W.Frag) (g : Sto → Tx → List D → Option D) : V → List V → Hp → VK → Prop := fun x vs H Q => ∃ ρ S z ds d, x = sv z ∧ Rel K ρ S H ∧ DVs K ρ H ds vs ∧ g S z ds = some d ∧ ∀ ρ' H' v, Rel K ρ' S H' → Ext K ρ H ρ' H' → DV K ρ' H' d v → Q v H'
variable {id : String} {name : Str} {o e : Expr} {es : List Expr} {mo : ME} {ma : MA} {apos : Pos} {r : V → List V → Hp → VK → Prop} {g : Sto → Tx → List D → Option D}
theorem ed_sm0 (slot : Slot "str" name id) (ty : typeOf (.builtin id) = pure (.type "method_descriptor")) (hm : MtR X id r) (hr : ∀ x vs H Q, rPM X.K g x vs H Q → r x vs H Q) (ho : ED X W o mo)
    (hbase : attributeBase o name X.env (eval o X.env) = eval o X.env := by rfl) (hline : (apos.endLine == pos.line) = true := by rfl) : ED X W (.Call (.Attribute o name apos) [] [] pos) (mSM g mo mNil) := by
  refine ed_of (pe_bm0 F.plainAttrs_str slot ty hm ho hbase hline) fun σ H Q ρ S E r0 er p => ?_
  refine ⟨ρ, S, E, r0, er, (Post.bind (R := DV X.K) p).imp fun x H1 ⟨ρ1, S1, d, r1, e1, d1, p1⟩ => ?_⟩
  cases d with
  | str z =>
    rw [dv_str] at d1; subst d1
    refine ⟨rfl, ?_⟩
    obtain ⟨u, hu, q⟩ := post_opt p1
    exact hr _ _ _ _ ⟨ρ1, S1, z, [], u, rfl, r1, by simp [DVs], hu, q⟩
  | _ => exact p1.elim
theorem ed_sm (slot : Slot "str" name id) (ty : typeOf (.builtin id) = pure (.type "method_descriptor")) (hm : MtR X id r) (hr : ∀ x vs H Q, rPM X.K g x vs H Q → r x vs H Q) (ho : ED X W o mo) (ha : AD X W (e :: es) ma)
    (hbase : attributeBase o name X.env (eval o X.env) = eval o X.env := by rfl)
    (hfew : ((backTo pos (starEach (e :: es) X.env)).all (fun x => !x.1) && (backToKw pos (keywordEach [] X.env)).all (fun x => x.1.isSome)
      && decide ((e :: es).length + ([] : List Keyword).length + (if ([] : List Keyword).isEmpty then 0 else 1) < 30)) = true := by rfl)
    (hline : (apos.endLine == pos.line) = true := by rfl) (hs : starEach (e :: es) X.env = (false, eval e X.env) :: starEach es X.env := by rfl) (hplain : (backTo pos (starEach es X.env)).any (·.1) = false := by rfl) :
    ED X W (.Call (.Attribute o name apos) (e :: es) [] pos) (mSM g mo ma) := by
  refine ed_of (pe_bm F.plainAttrs_str slot ty hm ho ha hbase hfew hline hs hplain) fun σ H Q ρ S E r0 er p => ?_
  refine ⟨ρ, S, E, r0, er, (Post.bind (R := DV X.K) p).imp fun x H1 ⟨ρ1, S1, d, r1, e1, d1, p1⟩ => ?_⟩
  cases d with
  | str z =>
    rw [dv_str] at d1; subst d1
    refine ⟨rfl, ρ1, S1, E, r1, er.mono e1, (Post.bind (R := DVs X.K) p1).imp fun vs H2 ⟨ρ2, S2, ds, r2, e2, d2, p2⟩ => ?_⟩
    obtain ⟨u, hu, q⟩ := post_opt p2
    exact hr _ _ _ _ ⟨ρ2, S2, z, ds, u, rfl, r2, d2, hu, q⟩
  | _ => exact p1.elim
/-! texts as codes -/
def gStarts (_ : Sto) (z : Tx) (ds : List D) : Option D := match ds with
  | [.str p] => some (.bl (decide (z.take p.length = p)))
  | _ => none
theorem take_beq {z p : Tx} : (z.take p.length == p) = decide (z.take p.length = p) := by
  rw [Bool.eq_iff_iff]; simp
theorem starts_D (z p : Tx) : Txt.startswith ⟨z.toArray⟩ ⟨p.toArray⟩ = decide (z.take p.length = p) := by
  unfold Txt.startswith
  rw [StrLaws.subAt_eq, sv_len, sv_len]
  show (decide (0 + p.length ≤ z.length) && ((z.drop 0).take p.length == p)) = _
  rw [List.drop_zero, take_beq]
  by_cases h : z.take p.length = p
  · have hl := congrArg List.length h
    rw [List.length_take] at hl
    simp [h]
    omega
  · simp [h]
theorem rp_starts : ∀ x vs H Q, rPM X.K gStarts x vs H Q → (∃ a b, x = .str a ∧ vs = [.str b] ∧ Q (.bl (Txt.startswith a b)) H) := by
  rintro v vs H Q ⟨ρ, S, z, ds, d, rfl, r, dv, hg, q⟩
  unfold gStarts at hg
  split at hg
  · rename_i p
    cases hg
    obtain ⟨u, rfl, h1⟩ := dvs1 dv
    rw [dv_str] at h1; subst h1
    exact ⟨_, _, rfl, rfl, by rw [starts_D]; exact post_bl r q⟩
  · cases hg
def gEnds (_ : Sto) (z : Tx) (ds : List D) : Option D := match ds with
  | [.str p] => some (.bl (decide (p.length ≤ z.length ∧ z.drop (z.length - p.length) = p)))
  | _ => none
theorem ends_D (z p : Tx) : Txt.endswith ⟨z.toArray⟩ ⟨p.toArray⟩ = decide (p.length ≤ z.length ∧ z.drop (z.length - p.length) = p) := by
  unfold Txt.endswith
  rw [StrLaws.subAt_eq, sv_len, sv_len]
  show (decide (0 + p.length ≤ z.length) && ((z.drop (z.length - p.length)).take p.length == p)) = _
  by_cases h : p.length ≤ z.length
  · have e : (z.drop (z.length - p.length)).take p.length = z.drop (z.length - p.length) := List.take_of_length_le (by rw [List.length_drop]; omega)
    rw [e, Bool.eq_iff_iff]
    simp [h]
  · simp [h]
theorem rp_ends : ∀ x vs H Q, rPM X.K gEnds x vs H Q → (∃ a b, x = .str a ∧ vs = [.str b] ∧ Q (.bl (Txt.endswith a b)) H) := by
  rintro v vs H Q ⟨ρ, S, z, ds, d, rfl, r, dv, hg, q⟩
  unfold gEnds at hg
  split at hg
  · rename_i p
    cases hg
    obtain ⟨u, rfl, h1⟩ := dvs1 dv
    rw [dv_str] at h1; subst h1
    exact ⟨_, _, rfl, rfl, by rw [ends_D]; exact post_bl r q⟩
  · cases hg
/-- strings of a row -/
def strL : List D → Option (List Tx)
  | [] => some []
  | .str x :: r => (strL r).map (x :: ·)
  | _ => none
theorem strs_ok {K : PySem.W.Frag} {ρ : List Addr} {H : Hp} : ∀ {ds : List D} {vs : List V} {xs : List Tx}, DVs K ρ H ds vs → strL ds = some xs → vs = (xs.map SX.S).map V.str
  | [], vs, xs, h, e => by simp only [DVs] at h; simp only [strL] at e; cases e; subst h; rfl
  | d :: ds, vs, xs, h, e => by
    simp only [DVs] at h
    obtain ⟨v, rr, rfl, h1, h2⟩ := h
    cases d with
    | str x =>
      simp only [strL, Option.map_eq_some_iff] at e
      obtain ⟨ys, e1, rfl⟩ := e
      rw [dv_str] at h1; subst h1
      rw [strs_ok h2 e1]
      rfl
    | _ => simp only [strL] at e; cases e
@[simp] theorem strs_map (l : List Tx) : strL (l.map D.str) = some l := by
  induction l with
  | nil => rfl
  | cons x l ih => simp only [List.map_cons, strL, ih, Option.map_some]
theorem dvs_strs {K : PySem.W.Frag} {ρ : List Addr} {H : Hp} : ∀ (l : List Tx), DVs K ρ H (l.map D.str) ((l.map SX.S).map V.str)
  | [] => by simp [DVs]
  | x :: l => by
    simp only [List.map_cons, DVs]
    exact ⟨_, _, rfl, dv_str.mpr rfl, dvs_strs l⟩
open Classical in
/-- split by a text of signs below 256 -/
noncomputable def gSplit (_ : Sto) (z : Tx) (ds : List D) : Option D := match ds with
  | [.str p] => if p ≠ [] ∧ p.all (· < 256) = true ∧ sizeOk (z.length + 2) then some (.lst ((TL.spl p 0 [] z).map D.str)) else none
  | _ => none
theorem rp_split : ∀ x vs H Q, rPM X.K gSplit x vs H Q → (∃ a b, x = .str a ∧ vs = [.str b] ∧ (b.length == 0) = false ∧ a.length + 2 ≤ sizeLine ∧ rNewStrs (Txt.split a b) H Q) := by
  rintro v vs H Q ⟨ρ, S, z, ds, d, rfl, r, dv, hg, q⟩
  unfold gSplit at hg
  split at hg
  · rename_i p
    by_cases hl : p ≠ [] ∧ p.all (· < 256) = true ∧ sizeOk (z.length + 2)
    · rw [if_pos hl] at hg; cases hg
      obtain ⟨u, rfl, h1⟩ := dvs1 dv
      rw [dv_str] at h1; subst h1
      refine ⟨_, _, rfl, rfl, ?_, by rw [sv_len]; exact hl.2.2, ?_⟩
      · rw [sv_len]
        cases p with
        | nil => exact absurd rfl hl.1
        | cons a b => rfl
      · rw [SX.split_S hl.1 hl.2.1]
        intro t ht
        exact post_lst r ht (dvs_strs _) q
    · rw [if_neg hl] at hg; cases hg
  · cases hg
/-- join -/
def joinOk (z : Tx) (ys : List Tx) : Prop := (ys.map (·.length)).sum + ys.length * z.length ≤ 16777216
def rowF (S : Sto) : D → Option (List D)
  | .tup xs => some xs
  | d => seqF S d
open Classical in
noncomputable def gJoin (S : Sto) (z : Tx) (ds : List D) : Option D := match ds with
  | [d] => (match (rowF S d).bind strL with
    | some ys => if joinOk z ys then some (.str (TL.joinL z ys)) else none
    | none => none)
  | _ => none
theorem rowF_ok {K : PySem.W.Frag} {ρ : List Addr} {S : Sto} {H : Hp} (r : Rel K ρ S H) {d : D} {v : V} {xs : List D} (h : DV K ρ H d v) (q : rowF S d = some xs) : ∃ a vs, v = .ref a ∧ (SqL K H a vs ∨ SqT K H a vs) ∧ DVs K ρ H xs vs := by
  unfold rowF at q
  split at q
  · cases q
    obtain ⟨a, vs, rfl, h1, h2⟩ := tup_ok h
    exact ⟨a, vs, rfl, .inr h1, h2⟩
  · obtain ⟨a, vs, rfl, h1, h2⟩ := seqF_ok r h q
    exact ⟨a, vs, rfl, .inl h1, h2⟩
theorem rp_join : ∀ x vs H Q, rPM X.K gJoin x vs H Q → (∃ a p, ∃ ys : List Str, x = .str a ∧ vs = [.ref p] ∧ (SqL X.K H p (ys.map V.str) ∨ SqT X.K H p (ys.map V.str)) ∧
      (ys.map (·.length)).sum + ys.length * a.length ≤ 16777216 ∧ Q (.str (Txt.join a ys)) H) := by
  rintro v vs H Q ⟨ρ, S, z, ds, d, rfl, r, dv, hg, q⟩
  unfold gJoin at hg
  split at hg
  · rename_i x
    obtain ⟨u, rfl, h1⟩ := dvs1 dv
    cases e : rowF S x with
    | none => rw [e] at hg; cases hg
    | some xs =>
      rw [e] at hg
      cases e2 : strL xs with
      | none => rw [Option.bind_some, e2] at hg; cases hg
      | some ys =>
        rw [Option.bind_some, e2] at hg
        simp only at hg
        by_cases hl : joinOk z ys
        · rw [if_pos hl] at hg; cases hg
          obtain ⟨a, us, rfl, h2, h3⟩ := rowF_ok r h1 e
          have := strs_ok h3 e2
          subst this
          refine ⟨_, a, ys.map SX.S, rfl, rfl, h2, ?_, ?_⟩
          · rw [SX.lens, List.length_map, sv_len]; exact hl
          · have e4 : Txt.join ⟨z.toArray⟩ (ys.map SX.S) = SX.S (TL.joinL z ys) := SX.join_S z ys
            rw [e4]
            exact post_str r q
        · rw [if_neg hl] at hg; cases hg
  · cases hg
/-- zfill -/
def zfillD (z : Tx) (n : Int) : Tx := if n ≤ z.length then z else match z with
  | 43 :: r => 43 :: (List.replicate (n.toNat - z.length) 48 ++ r)
  | 45 :: r => 45 :: (List.replicate (n.toNat - z.length) 48 ++ r)
  | z => List.replicate (n.toNat - z.length) 48 ++ z
def padOk (i : Int) : Prop := PadOk i = true
open Classical in
noncomputable def gZfill (_ : Sto) (z : Tx) (ds : List D) : Option D := match ds with
  | [.int i] => if padOk i then some (.str (zfillD z i)) else none
  | _ => none
theorem tl_padded (x : Str) (k : Nat) : TL.tl (Builtin.Str.padded x k 0 48) = List.replicate k 48 ++ TL.tl x := by
  have := PyProof.Rows.padded_list x k 0 48
  simp only [List.replicate_zero, List.append_nil] at this
  exact this
theorem zfill_D (z : Tx) (n : Int) : Txt.zfill ⟨z.toArray⟩ n = ⟨(zfillD z n).toArray⟩ := by
  refine TL.ext_tl ?_
  unfold Txt.zfill zfillD
  rw [sv_len]
  by_cases h : n ≤ (z.length : Int)
  · rw [if_pos h, if_pos h]
  · rw [if_neg h, if_neg h]
    unfold zfilled
    have key : ∀ c (r : Tx), z = c :: r → TL.tl (Builtin.Str.strSub (⟨z.toArray⟩ : Str) 0 1 ++ Builtin.Str.padded (Builtin.Str.strSub (⟨z.toArray⟩ : Str) 1 (⟨z.toArray⟩ : Str).length) (n.toNat - z.length) 0 48) = c :: (List.replicate (n.toNat - z.length) 48 ++ r) := fun c r e => by
      subst e
      rw [TL.tl_append, tl_padded, TL.tl_strSub, TL.tl_strSub_end]
      rfl
    cases z with
    | nil => rw [show ((⟨([] : Tx).toArray⟩ : Str).cps[0]?) = none from rfl]; exact tl_padded _ _
    | cons c r =>
      rw [show ((⟨(c :: r).toArray⟩ : Str).cps[0]?) = some c by simp]
      by_cases h1 : c = 43
      · subst h1; exact key 43 r rfl
      · by_cases h2 : c = 45
        · subst h2; exact key 45 r rfl
        · have e1 : (match some c with | some 43 => Builtin.Str.strSub (⟨(c :: r).toArray⟩ : Str) 0 1 ++ Builtin.Str.padded (Builtin.Str.strSub (⟨(c :: r).toArray⟩ : Str) 1 (⟨(c :: r).toArray⟩ : Str).length) (n.toNat - (c :: r).length) 0 48 | some 45 => Builtin.Str.strSub (⟨(c :: r).toArray⟩ : Str) 0 1 ++ Builtin.Str.padded (Builtin.Str.strSub (⟨(c :: r).toArray⟩ : Str) 1 (⟨(c :: r).toArray⟩ : Str).length) (n.toNat - (c :: r).length) 0 48 | _ => Builtin.Str.padded (⟨(c :: r).toArray⟩ : Str) (n.toNat - (c :: r).length) 0 48) = Builtin.Str.padded (⟨(c :: r).toArray⟩ : Str) (n.toNat - (c :: r).length) 0 48 := by
            split
            · rename_i q; cases q; exact absurd rfl h1
            · rename_i q; cases q; exact absurd rfl h2
            · rfl
          refine (congrArg TL.tl e1).trans ?_
          rw [tl_padded]
          split
          · rename_i q; cases q; exact absurd rfl h1
          · rename_i q; cases q; exact absurd rfl h2
          · rfl
theorem rp_zfill : ∀ x vs H Q, rPM X.K gZfill x vs H Q → (∃ (a : Str) (i : Int), x = .str a ∧ vs = [.int i] ∧ PadOk i = true ∧ Q (.str (Txt.zfill a i)) H) := by
  rintro v vs H Q ⟨ρ, S, z, ds, d, rfl, r, dv, hg, q⟩
  unfold gZfill at hg
  split at hg
  · rename_i i
    by_cases hl : padOk i
    · rw [if_pos hl] at hg; cases hg
      have := dvs_int1 dv
      subst this
      exact ⟨_, i, rfl, rfl, hl, by rw [zfill_D]; exact post_str r q⟩
    · rw [if_neg hl] at hg; cases hg
  · cases hg
end
end PD

/-! PyD9: built-ins on texts, in, lists that change. -/
namespace PD
open PySem PySem.Spec PyProof PyProof.Rows L2
section
variable {X : Cx} {W : WW X.K} {pos : Pos}
/-! ### numbers and texts -/
def numT (i : Int) : Tx := if i < 0 then 45 :: TL.numL i.natAbs else TL.numL i.natAbs
theorem num_D (i : Int) : (Str.ofString (toString i)) = (⟨(numT i).toArray⟩ : Str) := by
  refine TL.ext_tl ?_
  unfold numT
  cases i with
  | ofNat n =>
    rw [if_neg (by simp)]
    exact TL.tl_num n
  | negSucc n =>
    rw [if_pos (Int.negSucc_lt_zero n)]
    have e : toString (Int.negSucc n) = "-" ++ toString (n + 1) := rfl
    have e2 := TL.tl_num (n + 1)
    rw [TL.tl_ofString] at e2
    rw [e, TL.tl_ofString, String.toList_append, List.map_append]
    have e3 : (toString ((n + 1 : Nat) : Int)) = toString (n + 1) := rfl
    rw [e3] at e2
    rw [e2]
    rfl
def strOkI (i : Int) : Prop := i.natAbs.log2 < 1920
open Classical in
noncomputable def gStr (_ : Sto) (ds : List D) : Option D := match ds with
  | [.int i] => if strOkI i then some (.str (numT i)) else none
  | _ => none
theorem rp_str : ∀ vs H Q, rPB X.K gStr vs H Q → (∃ i : Int, vs = [.int i] ∧ i.natAbs.log2 < 1920 ∧ Q (.str (toString i)) H) := by
  rintro vs H Q ⟨ρ, S, ds, d, r, dv, hg, q⟩
  unfold gStr at hg
  split at hg
  · rename_i i
    by_cases hl : strOkI i
    · rw [if_pos hl] at hg; cases hg
      have := dvs_int1 dv
      subst this
      refine ⟨i, rfl, hl, ?_⟩
      have e : ((toString i : String) : Str) = (⟨(numT i).toArray⟩ : Str) := num_D i
      rw [e]
      exact post_str r q
    · rw [if_neg hl] at hg; cases hg
  · cases hg
def digT (z : Tx) : Prop := z.all (fun c => decide (48 ≤ c) && decide (c ≤ 57)) = true ∧ z ≠ [] ∧ z.length ≤ 640
open Classical in
/-- int of a number, of a truth, of a text of figures -/
noncomputable def gIntA (S : Sto) (ds : List D) : Option D := match ds with
  | [.str z] => if digT z then some (.int (NumText.digitsVal z : Nat)) else none
  | ds => gInt S ds
def rIntA : List V → Hp → VK → Prop := fun xs H Q => (∃ a n, xs = [V.str a] ∧ PySem.intText? a = some n ∧ a.length ≤ 640 ∧ Q (.int n) H) ∨ rIntD xs H Q
theorem rp_intA : ∀ vs H Q, rPB X.K gIntA vs H Q → rIntA vs H Q := by
  rintro vs H Q ⟨ρ, S, ds, d, r, dv, hg, q⟩
  unfold gIntA at hg
  split at hg
  · rename_i z
    by_cases hl : digT z
    · rw [if_pos hl] at hg; cases hg
      obtain ⟨u, rfl, h1⟩ := dvs1 dv
      rw [dv_str] at h1; subst h1
      refine .inl ⟨_, _, rfl, SX.int_S hl.1 hl.2.1 (Nat.le_trans hl.2.2 (by decide)), by rw [sv_len]; exact hl.2.2, post_int r q⟩
    · rw [if_neg hl] at hg; cases hg
  · exact .inr (rp_int (X := X) _ _ _ ⟨ρ, S, ds, d, r, dv, hg, q⟩)
def gOrd (_ : Sto) (ds : List D) : Option D := match ds with
  | [.str [c]] => some (.int c)
  | _ => none
theorem rp_ord : ∀ vs H Q, rPB X.K gOrd vs H Q → (∃ x, vs = [V.str x] ∧ x.length = 1 ∧ Q (.int (x.cps.getD 0 0 : Nat)) H) := by
  rintro vs H Q ⟨ρ, S, ds, d, r, dv, hg, q⟩
  unfold gOrd at hg
  split at hg
  · rename_i c
    cases hg
    obtain ⟨u, rfl, h1⟩ := dvs1 dv
    rw [dv_str] at h1; subst h1
    exact ⟨_, rfl, rfl, post_int r q⟩
  · cases hg
def gChr (_ : Sto) (ds : List D) : Option D := match ds with
  | [.int i] => if 0 ≤ i ∧ i ≤ 1114111 then some (.str [i.toNat]) else none
  | _ => none
theorem rp_chr : ∀ vs H Q, rPB X.K gChr vs H Q → (∃ i, vs = [V.int i] ∧ 0 ≤ i ∧ i ≤ 1114111 ∧ Q (.str ⟨#[i.toNat]⟩) H) := by
  rintro vs H Q ⟨ρ, S, ds, d, r, dv, hg, q⟩
  unfold gChr at hg
  split at hg
  · rename_i i
    split at hg
    · rename_i h
      cases hg
      have := dvs_int1 dv
      subst this
      exact ⟨i, rfl, h.1, h.2, post_str (i := [i.toNat]) r q⟩
    · cases hg
  · cases hg
/-! ### in -/
def flD : D → Bool
  | .non => true
  | .bl _ => true
  | .int _ => true
  | .str _ => true
  | _ => false
theorem fl_eq {K : PySem.W.Frag} {ρ : List Addr} {H : Hp} {x y : D} {v u : V} (fx : flD x = true) (fy : flD y = true) (dx : DV K ρ H x v) (dy : DV K ρ H y u) : flatV v = true ∧ eqV v u = teq x y := by
  cases x <;> simp only [flD, Bool.false_eq_true] at fx <;> cases y <;> simp only [flD, Bool.false_eq_true] at fy <;>
    simp only [DV] at dx dy <;> subst dx dy <;> refine ⟨rfl, ?_⟩
  all_goals simp only [teq]
  all_goals first | rfl | skip
  all_goals (show (_ == _) = _; first | exact tx_str | (rw [Bool.eq_iff_iff]; simp))
theorem fl_in {K : PySem.W.Frag} {ρ : List Addr} {H : Hp} {x : D} {v : V} (fx : flD x = true) (dx : DV K ρ H x v) : ∀ {ys : List D} {us : List V}, ys.all flD = true → DVs K ρ H ys us → us.all flatV = true ∧ inV v us = ys.any fun y => teq y x
  | [], us, f, h => by simp only [DVs] at h; subst h; exact ⟨rfl, rfl⟩
  | y :: ys, us, f, h => by
    simp only [DVs] at h
    obtain ⟨u, r, rfl, h1, h2⟩ := h
    simp only [List.all_cons, Bool.and_eq_true] at f
    obtain ⟨a, b⟩ := fl_in fx dx f.2 h2
    obtain ⟨c, e⟩ := fl_eq f.1 fx h1 dx
    refine ⟨by simp [c, a], ?_⟩
    unfold inV at b ⊢
    rw [List.any_cons, List.any_cons, e, b]
def inB2 (S : Sto) (x y : D) : Option Bool := match x, y with
  | .str [c], .str z => some (decide (c ∈ z))
  | x, .tup ys => if flD x = true ∧ ys.all flD = true then some (ys.any fun y => teq y x) else none
  | x, y => (match seqF S y with
    | some ys => if flD x = true ∧ ys.all flD = true then some (ys.any fun y => teq y x) else
        if okd (flat S x) 64 = true ∧ okds ys 63 = true then some (ys.any fun y => teq y (flat S x)) else none
    | none => none)
def gIn (S : Sto) (x y : D) : Option D := (inB2 S x y).map D.bl
def gNotIn (S : Sto) (x y : D) : Option D := (inB2 S x y).map fun b => D.bl (!b)
def InOk (K : PySem.W.Frag) (b : Bool) (v u : V) (H : Hp) : Prop := (∃ c z, v = .str ⟨#[c]⟩ ∧ u = .str z ∧ decide (c ∈ z.cps.toList) = b) ∨
  (∃ p xs, u = .ref p ∧ (SqL K H p xs ∨ SqT K H p xs) ∧ flatV v = true ∧ xs.all flatV = true ∧ inV v xs = b) ∨
  (∃ d ds, Dp K H v d ∧ Dp K H u (.list ds) ∧ SeqAt.shaped d = true ∧ SeqAt.shaped (.list ds) = true ∧ (ds.any fun z => PyData.eqv z d) = b)
theorem any_teq : ∀ (ys : List D) (ps : List PyData) (x : D) (p : PyData), toPs ys = some ps → toP x = some p → (ps.any fun z => PyData.eqv z p) = ys.any fun y => teq y x
  | [], ps, x, p, h, g => by simp only [toPs] at h; cases h; rfl
  | y :: ys, ps, x, p, h, g => by
    simp only [toPs] at h
    split at h
    · rename_i a b e1 e2
      cases h
      rw [List.any_cons, List.any_cons, any_teq ys b x p e2 g, eqv_teq y x a p e1 g]
    · cases h
theorem inB2_ok {K : PySem.W.Frag} {ρ : List Addr} {S : Sto} {H : Hp} {x y : D} {v u : V} {b : Bool} (r : Rel K ρ S H) (dx : DV K ρ H x v) (dy : DV K ρ H y u) (h : inB2 S x y = some b) : InOk K b v u H := by
  unfold inB2 at h
  split at h
  · cases h
    rw [dv_str] at dx dy; subst dx dy
    exact .inl ⟨_, _, rfl, rfl, rfl⟩
  · rename_i ys
    split at h
    · rename_i f
      cases h
      obtain ⟨a, us, rfl, h1, h2⟩ := tup_ok dy
      obtain ⟨c, e⟩ := fl_in f.1 dx f.2 h2
      exact .inr (.inl ⟨a, us, rfl, .inr h1, (fl_eq f.1 f.1 dx dx).1, c, e⟩)
    · cases h
  · split at h
    · rename_i ys e
      obtain ⟨a, us, rfl, h1, h2⟩ := seqF_ok r dy e
      split at h
      · rename_i f
        cases h
        obtain ⟨c, e⟩ := fl_in f.1 dx f.2 h2
        exact .inr (.inl ⟨a, us, rfl, .inl h1, (fl_eq f.1 f.1 dx dx).1, c, e⟩)
      · split at h
        · rename_i f
          cases h
          obtain ⟨p, e1, a1, b1⟩ := okd_toP _ _ f.1
          obtain ⟨ps, e2, a2, b2⟩ := okds_toP _ _ f.2
          refine .inr (.inr ⟨p, ps, toPS_ok r dx (by rw [toPS_flat S _ f.1]; exact e1), .lst h1 (toPs_ok ys us ps h2 e2), by simp [SeqAt.shaped, a1, b1], by simp [SeqAt.shaped, PyData.canLay0, PyData.depth, a2]; omega, any_teq _ _ _ _ e2 e1⟩)
        · cases h
    · cases h
def rInA (K : PySem.W.Frag) : R2 := fun x y H Q => (∃ (c : Nat) (z : Str), x = .str ⟨#[c]⟩ ∧ y = .str z ∧ Q (.bl (decide (c ∈ z.cps.toList))) H) ∨ rIn K false x y H Q ∨ rInD K x y H Q
def rNotInA (K : PySem.W.Frag) : R2 := fun x y H Q => (∃ (c : Nat) (z : Str), x = .str ⟨#[c]⟩ ∧ y = .str z ∧ Q (.bl (!decide (c ∈ z.cps.toList))) H) ∨ rIn K true x y H Q ∨ rNotInD K x y H Q
theorem op_inA (hu : X.A.units + 65 < cLine) : OpR X (compareOp .In) (rInA X.K) := op_in_sign.or (op_in_seq.or (op_inD hu))
theorem op_notInA (hu : X.A.units + 65 < cLine) : OpR X (compareOp .NotIn) (rNotInA X.K) := op_notIn_sign.or (op_notIn_seq.or (op_notInD hu))
theorem rp_in : ∀ x y H Q, rP X.K gIn x y H Q → rInA X.K x y H Q := by
  rintro v u H Q ⟨ρ, S, x, y, d, r, dx, dy, hg, q⟩
  unfold gIn at hg
  simp only [Option.map_eq_some_iff] at hg
  obtain ⟨b, hb, rfl⟩ := hg
  rcases inB2_ok r dx dy hb with ⟨c, z, rfl, rfl, e⟩ | ⟨p, xs, rfl, h1, h2, h3, e⟩ | ⟨d1, ds, h1, h2, h3, h4, e⟩
  · exact .inl ⟨c, z, rfl, rfl, by rw [e]; exact post_bl r q⟩
  · exact .inr (.inl ⟨p, xs, rfl, h1, h2, h3, by rw [if_neg (by decide), e]; exact post_bl r q⟩)
  · exact .inr (.inr ⟨d1, ds, h1, h2, h3, h4, by rw [e]; exact post_bl r q⟩)
theorem rp_notIn : ∀ x y H Q, rP X.K gNotIn x y H Q → rNotInA X.K x y H Q := by
  rintro v u H Q ⟨ρ, S, x, y, d, r, dx, dy, hg, q⟩
  unfold gNotIn at hg
  simp only [Option.map_eq_some_iff] at hg
  obtain ⟨b, hb, rfl⟩ := hg
  rcases inB2_ok r dx dy hb with ⟨c, z, rfl, rfl, e⟩ | ⟨p, xs, rfl, h1, h2, h3, e⟩ | ⟨d1, ds, h1, h2, h3, h4, e⟩
  · exact .inl ⟨c, z, rfl, rfl, by rw [e]; exact post_bl r q⟩
  · exact .inr (.inl ⟨p, xs, rfl, h1, h2, h3, by rw [if_pos rfl, e]; exact post_bl r q⟩)
  · exact .inr (.inr ⟨d1, ds, h1, h2, h3, h4, by rw [e]; exact post_bl r q⟩)
/-! ### walks over anything -/
def iAny (a : ME) : MI := fun E S => (a E S).bind fun d S1 => match d with
  | .str z => .ok ⟨z.map fun c => .str [c], none⟩ S1
  | d => iSeq (mC d) E S1
theorem walks_str {ρ : List Addr} {H : Hp} {z : Tx} : Walks X.K ρ H ⟨z.map fun c => .str [c], none⟩ (Its ⟨z.toArray⟩) := by
  intro ρ1 S H1 r e c
  refine ⟨fun i d hd => ?_, by simp [Its]⟩
  rw [List.getElem?_map, Option.map_eq_some_iff] at hd
  obtain ⟨k, hk, rfl⟩ := hd
  have hi := (List.getElem?_eq_some_iff.mp hk).1
  refine ⟨by simpa [Its] using hi, fun x H' hy => ?_⟩
  obtain ⟨rfl, c, hc, rfl⟩ := hy
  simp only [List.getElem?_toArray, hk, Option.some.injEq] at hc
  subst hc
  exact ⟨r, Ext.refl, by simp [DV, sv]⟩
theorem id_any {tg e : Expr} {m : ME} (h : ED X W e m) : ID X W tg e (iAny m) := by
  refine PI.impI (PI.or (pi_str h) (PI.or (pi_tup h) (pi_list h))) fun σ H R ρ S E r er p => ?_
  unfold iAny at p
  cases q : m E S with
  | bad => rw [q] at p; exact p.elim
  | ex e S1 => rw [q] at p; exact .inl ⟨ρ, S, E, r, er, by rw [q]; exact p⟩
  | ok d S1 =>
    rw [q, bind_ok] at p
    cases d with
    | str z =>
      refine .inl ⟨ρ, S, E, r, er, ?_⟩
      rw [q]
      intro ρ1 H1 v r1 e1 dv
      rw [dv_str] at dv; subst dv
      exact ⟨_, rfl, p ρ1 H1 _ r1 e1 walks_str⟩
    | tup xs =>
      refine .inr (.inl ⟨ρ, S, E, r, er, ?_⟩)
      rw [q]
      intro ρ1 H1 v r1 e1 dv
      simp only [DV] at dv
      obtain ⟨a, vs, rfl, h1, h2⟩ := dv
      exact ⟨a, rfl, ⟨vs, h1⟩, p ρ1 H1 _ r1 e1 (walks_tup h1 h2)⟩
    | lst xs =>
      refine .inr (.inr ⟨ρ, S, E, r, er, ?_⟩)
      rw [q]
      intro ρ1 H1 v r1 e1 dv
      simp only [DV] at dv
      obtain ⟨a, vs, rfl, h1, h2⟩ := dv
      exact ⟨a, rfl, ⟨vs, h1.seq⟩, p ρ1 H1 _ r1 e1 (walks_lst h1 h2)⟩
    | fz xs =>
      refine .inr (.inr ⟨ρ, S, E, r, er, ?_⟩)
      rw [q]
      intro ρ1 H1 v r1 e1 dv
      simp only [DV] at dv
      obtain ⟨a, vs, rfl, h1, h2⟩ := dv
      exact ⟨a, rfl, ⟨vs, h1.seq⟩, p ρ1 H1 _ r1 e1 (walks_fz h1 h2)⟩
    | loc n =>
      simp only [iSeq, mC, bind_ok] at p
      cases e : S1[n]? with
      | none => rw [e] at p; exact p.elim
      | some o =>
        cases o with
        | lst xs =>
          rw [e] at p
          refine .inr (.inr ⟨ρ, S, E, r, er, ?_⟩)
          rw [q]
          intro ρ1 H1 v r1 e1 dv
          simp only [DV] at dv
          obtain ⟨a, rfl, ha⟩ := dv
          obtain ⟨vs, h1, d1⟩ := r1.lst e ha
          exact ⟨a, rfl, ⟨vs, SqL.of h1⟩, p ρ1 H1 _ r1 e1 (walks_loc ha)⟩
        | _ => rw [e] at p; exact p.elim
    | _ => exact p.elim
/-! ### all, any -/
def bools : List D → Option (List Bool)
  | [] => some []
  | .bl x :: r => (bools r).map (x :: ·)
  | _ => none
theorem bools_ok {K : PySem.W.Frag} {ρ : List Addr} {H : Hp} : ∀ {ds : List D} {vs : List V} {xs : List Bool}, DVs K ρ H ds vs → bools ds = some xs → vs = xs.map V.bl
  | [], vs, xs, h, e => by simp only [DVs] at h; simp only [bools] at e; cases e; subst h; rfl
  | d :: ds, vs, xs, h, e => by
    simp only [DVs] at h
    obtain ⟨v, rr, rfl, h1, h2⟩ := h
    cases d with
    | bl x =>
      simp only [bools, Option.map_eq_some_iff] at e
      obtain ⟨ys, e1, rfl⟩ := e
      rw [dv_bl] at h1; subst h1
      rw [bools_ok h2 e1]
      rfl
    | _ => simp only [bools] at e; cases e
@[simp] theorem bools_map (l : List Bool) : bools (l.map D.bl) = some l := by
  induction l with
  | nil => rfl
  | cons x l ih => simp only [List.map_cons, bools, ih, Option.map_some]
def gAll (S : Sto) (ds : List D) : Option D := match ds with
  | [d] => ((seqF S d).bind bools).map fun bs => .bl (bs.all id)
  | _ => none
def gAny (S : Sto) (ds : List D) : Option D := match ds with
  | [d] => ((seqF S d).bind bools).map fun bs => .bl (bs.any id)
  | _ => none
theorem rp_all : ∀ vs H Q, rPB X.K gAll vs H Q → rAll X.K vs H Q := by
  rintro vs H Q ⟨ρ, S, ds, d, r, dv, hg, q⟩
  unfold gAll at hg
  split at hg
  · rename_i x
    simp only [Option.map_eq_some_iff, Option.bind_eq_some_iff] at hg
    obtain ⟨bs, ⟨xs, e1, e2⟩, rfl⟩ := hg
    obtain ⟨u, rfl, h1⟩ := dvs1 dv
    obtain ⟨a, us, rfl, h2, h3⟩ := seqF_ok r h1 e1
    have := bools_ok h3 e2
    subst this
    exact ⟨a, bs, rfl, h2, post_bl r q⟩
  · cases hg
theorem rp_any : ∀ vs H Q, rPB X.K gAny vs H Q → rAny X.K vs H Q := by
  rintro vs H Q ⟨ρ, S, ds, d, r, dv, hg, q⟩
  unfold gAny at hg
  split at hg
  · rename_i x
    simp only [Option.map_eq_some_iff, Option.bind_eq_some_iff] at hg
    obtain ⟨bs, ⟨xs, e1, e2⟩, rfl⟩ := hg
    obtain ⟨u, rfl, h1⟩ := dvs1 dv
    obtain ⟨a, us, rfl, h2, h3⟩ := seqF_ok r h1 e1
    have := bools_ok h3 e2
    subst this
    exact ⟨a, bs, rfl, h2, post_bl r q⟩
  · cases hg
/-! ### texts and lists many times -/
def repOk (n : Nat) (k : Int) : Prop := -(2 ^ 62) ≤ k ∧ k < 2 ^ 62 ∧ n * k.toNat ≤ 16777216
open Classical in
noncomputable def gMulA (S : Sto) (x y : D) : Option D := match x, y with
  | .str z, .int k => if repOk z.length k then some (.str (List.replicate k.toNat z).flatten) else none
  | .int _, _ => gMul S x y
  | x, .int k => (match seqL S x with
    | some xs => if repOk xs.length k then some (.lst (List.replicate k.toNat xs).flatten) else none
    | none => none)
  | _, _ => none
theorem foldl_repN (its : List Nat) : ∀ (k : Nat) (acc : List Nat), List.foldl (fun x1 x2 => x1 ++ x2) acc.toArray (List.replicate k its.toArray) = (acc ++ (List.replicate k its).flatten).toArray
  | 0, acc => by simp
  | k + 1, acc => by
    rw [List.replicate_succ, List.foldl_cons, List.append_toArray, foldl_repN its k (acc ++ its), List.replicate_succ, List.flatten_cons, List.append_assoc]
theorem mul_D {z : Tx} {k : Int} (h : repOk z.length k) : Txt.mul ⟨z.toArray⟩ k = ⟨((List.replicate k.toNat z).flatten).toArray⟩ := by
  unfold Txt.mul
  rw [sv_len]
  by_cases h1 : k < 1
  · rw [if_pos h1]
    have : k.toNat = 0 := by omega
    rw [this]
    rfl
  · rw [if_neg h1]
    by_cases h2 : (k == 1 || z.length == 0) = true
    · rw [if_pos h2]
      simp only [Bool.or_eq_true, beq_iff_eq] at h2
      rcases h2 with h2 | h2
      · subst h2; simp
      · have : z = [] := List.length_eq_zero_iff.mp h2
        subst this
        simp
    · rw [if_neg h2]
      have := foldl_repN z k.toNat []
      rw [List.nil_append] at this
      exact congrArg Str.mk this
theorem mul_ok {z : Tx} {k : Int} (h : repOk z.length k) : MulOk ⟨z.toArray⟩ k := by
  obtain ⟨h0, h1, h2⟩ := h
  refine ⟨?_, fun h3 h4 => ?_, fun _ _ => ?_⟩
  · rw [decide_eq_false (by omega), decide_eq_false (by omega)]; rfl
  · rw [sv_len]
    intro h5
    have hk : 0 < k := by omega
    have e1 : (2 ^ 63 - 1 : Int) < (z.length : Int) * k := by
      have := (Int.ediv_lt_iff_lt_mul hk).mp h5
      exact this
    have e2 : ((z.length * k.toNat : Nat) : Int) = (z.length : Int) * k := by rw [Int.natCast_mul, Int.toNat_of_nonneg (by omega)]
    omega
  · rw [sv_len]
    unfold Builtin.Str.tooLong
    rw [sizeLine_eq]
    exact decide_eq_false (by omega)
def rMulA (X : Cx) : R2 := fun x y H Q => rMulD x y H Q ∨ (∃ (z : Str) (k : Int), x = .str z ∧ y = .int k ∧ MulOk z k ∧ Q (.str (Txt.mul z k)) H) ∨ rRep x y H Q
theorem op_mul_str : OpR X (binaryOp .Mult) (fun x y H Q => ∃ (z : Str) (k : Int), x = .str z ∧ y = .int k ∧ MulOk z k ∧ Q (.str (Txt.mul z k)) H) := by
  intro pins s σ H x y v u Q I rx ry h
  obtain ⟨z, k, rfl, rfl, hk, q⟩ := h
  obtain ⟨t, rfl⟩ := rx
  obtain ⟨t', rfl⟩ := ry
  exact SB.mul hk fun t2 k2 => ⟨.str _, H, I.tok _, ⟨_, rfl⟩, q⟩
theorem op_mulA : OpR X (binaryOp .Mult) (rMulA X) := op_mulD.or (op_mul_str.or op_rep)
theorem dvs_rep {K : PySem.W.Frag} {ρ : List Addr} {H : Hp} {ds : List D} {vs : List V} (h : DVs K ρ H ds vs) : ∀ k : Nat, DVs K ρ H (List.replicate k ds).flatten (List.replicate k vs).flatten
  | 0 => by simp [DVs]
  | k + 1 => by
    simp only [List.replicate_succ, List.flatten_cons]
    exact h.append (dvs_rep h k)
theorem rp_mulA : ∀ x y H Q, rP X.K gMulA x y H Q → rMulA X x y H Q := by
  rintro v u H Q ⟨ρ, S, x, y, d, r, dx, dy, hg, q⟩
  unfold gMulA at hg
  split at hg
  · rename_i z k
    rw [dv_str] at dx; rw [dv_int] at dy; subst dx dy
    by_cases hl : repOk z.length k
    · rw [if_pos hl] at hg; cases hg
      exact .inr (.inl ⟨_, k, rfl, rfl, mul_ok hl, by rw [mul_D hl]; exact post_str r q⟩)
    · rw [if_neg hl] at hg; cases hg
  · exact .inl (rp_mul (X := X) _ _ _ _ ⟨ρ, S, _, _, d, r, dx, dy, hg, q⟩)
  · rename_i k _ _
    rw [dv_int] at dy; subst dy
    cases e : seqL S x with
    | none => rw [e] at hg; cases hg
    | some xs =>
      rw [e] at hg
      simp only at hg
      by_cases hl : repOk xs.length k
      · rw [if_pos hl] at hg; cases hg
        obtain ⟨a, vs, rfl, h1, h2⟩ := seqL_ok r dx e
        obtain ⟨a0, a1, a2⟩ := hl
        exact .inr (.inr ⟨a, k, vs, rfl, rfl, h1, by omega, by omega, by rw [← h2.length, sizeLine_eq]; omega, fun p hp => post_lst r hp (dvs_rep h2 _) q⟩)
      · rw [if_neg hl] at hg; cases hg
  · cases hg
end
end PD

/-! PyE0: lists that change; comprehensions; what a def leaves behind is dropped. -/
namespace PD
open PySem PySem.Spec PyProof PyProof.Rows L2
section
variable {X : Cx} {W : WW X.K} {pos : Pos}
/-! ### a list of the store gets other items -/
theorem Ext.write {K : PySem.W.Frag} {ρ : List Addr} {H : Hp} {a : Addr} {vs us : List V} (ha : a ∈ ρ) (h : H a = some (.lst vs)) : Ext K ρ H ρ (upd H a (.lst us)) := by
  refine ⟨⟨[], by simp⟩, fun b ws hb => ?_, fun b ws hb hw => ⟨hb, ?_⟩, fun b o ws hb => ?_, fun b fs hb => ?_⟩
  · refine hb.imp (fun hb => Rd.upd (fun z => ?_) hb) id
    subst z
    rcases hb with hb | ⟨o, hb⟩ <;> rw [h] at hb <;> cases hb
  · rw [upd_ne (fun z => by subst z; exact hb ha)]; exact hw
  · rw [upd_ne (fun z => by subst z; rw [h] at hb; cases hb)]; exact hb
  · rw [upd_ne (fun z => by subst z; rw [h] at hb; cases hb)]; exact hb
theorem nodup_at {ρ : List Addr} (hn : ρ.Nodup) {i j : Nat} {a : Addr} (hi : ρ[i]? = some a) (hj : ρ[j]? = some a) : i = j := by
  obtain ⟨h1, e1⟩ := List.getElem?_eq_some_iff.mp hi
  obtain ⟨h2, e2⟩ := List.getElem?_eq_some_iff.mp hj
  have hp := List.pairwise_iff_getElem.mp hn
  rcases Nat.lt_trichotomy i j with h | h | h
  · exact absurd (e1.trans e2.symm) (hp i j h1 h2 h)
  · exact h
  · exact absurd (e2.trans e1.symm) (hp j i h2 h1 h)
theorem Rel.write {K : PySem.W.Frag} {ρ : List Addr} {S : Sto} {H : Hp} (r : Rel K ρ S H) {n : Nat} {a : Addr} {xs ys : List D} {vs us : List V} (ha : ρ[n]? = some a) (hs : S[n]? = some (.lst xs)) (h : H a = some (.lst vs)) (d : DVs K ρ H ys us) :
    Rel K ρ (S.set n (.lst ys)) (upd H a (.lst us)) := by
  have e := Ext.write (K := K) (us := us) (List.mem_of_getElem? ha) h
  refine ⟨by simpa using r.len, r.nd, fun m o b h1 h2 => ?_⟩
  by_cases hm : n = m
  · subst hm
    rw [ha] at h2; cases h2
    have hl := (List.getElem?_eq_some_iff.mp hs).1
    rw [List.getElem?_set_self hl] at h1
    cases h1
    exact ⟨us, upd_same, DVs.mono e _ _ d⟩
  · rw [List.getElem?_set_ne hm] at h1
    have hb : b ≠ a := fun z => by subst z; exact hm (nodup_at r.nd ha h2)
    exact (r.at_ m o b h1 h2).mono e fun u hu => by rw [upd_ne hb]; exact hu
abbrev GL := Sto → List D → List D → Option (D × List D)
noncomputable def mLM (g : GL) (o : ME) (a : MA) : ME := fun E S => (o E S).bind fun x S1 => match x with
  | .loc n => (match S1[n]? with
    | some (.lst _) => (a E S1).bind fun xs S2 => (match S2[n]? with
      | some (.lst l) => (match g S2 l xs with
        | some (d, l2) => .ok d (S2.set n (.lst l2))
        | none => .bad)
      | _ => .bad)
    | _ => .bad)
  | _ => .bad
/-- a changing method by plain data -/
def rPL (K : PySem.W.Frag) (g : GL) : V → List V → Hp → VK → Prop := fun x vs H Q => ∃ ρ S n a l us ds d l2, x = .ref a ∧ Rel K ρ S H ∧ ρ[n]? = some a ∧ S[n]? = some (.lst l) ∧ H a = some (.lst us) ∧ DVs K ρ H l us ∧ DVs K ρ H ds vs ∧ g S l ds = some (d, l2) ∧
  ∀ ρ' H' v, Rel K ρ' (S.set n (.lst l2)) H' → Ext K ρ H ρ' H' → DV K ρ' H' d v → Q v H'
variable {id : String} {name : Str} {o e : Expr} {es : List Expr} {mo : ME} {ma : MA} {apos : Pos} {r : V → List V → Hp → VK → Prop} {g : GL}
theorem lm_read {n : Nat} {v : V} {ρ1 : List Addr} {S1 : Sto} {H1 : Hp} (r1 : Rel X.K ρ1 S1 H1) {xs : List D} (hs : S1[n]? = some (.lst xs)) (dv : DV X.K ρ1 H1 (.loc n) v) : ∃ a, v = .ref a ∧ ρ1[n]? = some a ∧ tyV X.K "list" v H1 := by
  simp only [DV] at dv
  obtain ⟨a, rfl, ha⟩ := dv
  obtain ⟨us, h1, d1⟩ := r1.lst hs ha
  exact ⟨a, rfl, ha, .inl ⟨rfl, us, SqL.of h1⟩⟩
theorem ed_lm0 (slot : Slot "list" name id) (ty : typeOf (.builtin id) = pure (.type "method_descriptor")) (hm : MtM X id r) (hr : ∀ x vs H Q, rPL X.K g x vs H Q → r x vs H Q) (ho : ED X W o mo)
    (hbase : attributeBase o name X.env (eval o X.env) = eval o X.env := by rfl) (hline : (apos.endLine == pos.line) = true := by rfl) : ED X W (.Call (.Attribute o name apos) [] [] pos) (mLM g mo mNil) := by
  refine ed_of (pe_bm0 (T := "list") (PySem.F.plainAttrs_list) slot ty hm ho hbase hline) fun σ H Q ρ S E r0 er p => ?_
  refine ⟨ρ, S, E, r0, er, (Post.bind (R := DV X.K) p).imp fun x H1 ⟨ρ1, S1, d, r1, e1, d1, p1⟩ => ?_⟩
  cases d with
  | loc n =>
    cases hs : S1[n]? with
    | none => simp only [hs] at p1; exact p1.elim
    | some ob =>
      cases ob with
      | lst xs =>
        obtain ⟨a, rfl, ha, ty⟩ := lm_read r1 hs d1
        refine ⟨ty, ?_⟩
        simp only [hs, mNil, bind_ok] at p1
        cases hg : g S1 xs [] with
        | none => rw [hg] at p1; exact p1.elim
        | some dl =>
          obtain ⟨d, l2⟩ := dl
          rw [hg] at p1
          obtain ⟨us, h1, d2⟩ := r1.lst hs ha
          exact hr _ _ _ _ ⟨ρ1, S1, n, a, xs, us, [], d, l2, rfl, r1, ha, hs, h1, d2, by simp [DVs], hg, p1⟩
      | _ => simp only [hs] at p1; exact p1.elim
  | _ => exact p1.elim
theorem ed_lm (slot : Slot "list" name id) (ty : typeOf (.builtin id) = pure (.type "method_descriptor")) (hm : MtM X id r) (hr : ∀ x vs H Q, rPL X.K g x vs H Q → r x vs H Q) (ho : ED X W o mo) (ha : AD X W (e :: es) ma)
    (hbase : attributeBase o name X.env (eval o X.env) = eval o X.env := by rfl)
    (hfew : ((backTo pos (starEach (e :: es) X.env)).all (fun x => !x.1) && (backToKw pos (keywordEach [] X.env)).all (fun x => x.1.isSome)
      && decide ((e :: es).length + ([] : List Keyword).length + (if ([] : List Keyword).isEmpty then 0 else 1) < 30)) = true := by rfl)
    (hline : (apos.endLine == pos.line) = true := by rfl) (hs : starEach (e :: es) X.env = (false, eval e X.env) :: starEach es X.env := by rfl) (hplain : (backTo pos (starEach es X.env)).any (·.1) = false := by rfl) :
    ED X W (.Call (.Attribute o name apos) (e :: es) [] pos) (mLM g mo ma) := by
  refine ed_of (pe_bm (T := "list") (PySem.F.plainAttrs_list) slot ty hm ho ha hbase hfew hline hs hplain) fun σ H Q ρ S E r0 er p => ?_
  refine ⟨ρ, S, E, r0, er, (Post.bind (R := DV X.K) p).imp fun x H1 ⟨ρ1, S1, d, r1, e1, d1, p1⟩ => ?_⟩
  cases d with
  | loc n =>
    cases hs : S1[n]? with
    | none => simp only [hs] at p1; exact p1.elim
    | some ob =>
      cases ob with
      | lst xs =>
        obtain ⟨a, rfl, hra, ty⟩ := lm_read r1 hs d1
        simp only [hs] at p1
        refine ⟨ty, ρ1, S1, E, r1, er.mono e1, (Post.bind (R := DVs X.K) p1).imp fun vs H2 ⟨ρ2, S2, ds, r2, e2, d2, p2⟩ => ?_⟩
        have ha2 : ρ2[n]? = some a := by
          obtain ⟨t, rfl⟩ := e2.pre
          rw [List.getElem?_append_left (List.getElem?_eq_some_iff.mp hra).1]; exact hra
        cases hs2 : S2[n]? with
        | none => simp only [hs2] at p2; exact p2.elim
        | some ob =>
          cases ob with
          | lst ys =>
            simp only [hs2] at p2
            cases hg : g S2 ys ds with
            | none => rw [hg] at p2; exact p2.elim
            | some dl =>
              obtain ⟨d, l2⟩ := dl
              rw [hg] at p2
              obtain ⟨us, h1, d3⟩ := r2.lst hs2 ha2
              exact hr _ _ _ _ ⟨ρ2, S2, n, a, ys, us, ds, d, l2, rfl, r2, ha2, hs2, h1, d3, d2, hg, p2⟩
          | _ => simp only [hs2] at p2; exact p2.elim
      | _ => simp only [hs] at p1; exact p1.elim
  | _ => exact p1.elim
/-! the methods -/
open Classical in
noncomputable def gAppend : GL := fun _ l ds => match ds with
  | [d] => if sizeOk (l.length + 1) then some (.non, l ++ [d]) else none
  | _ => none
theorem post_write {K : PySem.W.Frag} {ρ : List Addr} {S : Sto} {H : Hp} {Q : VK} {n : Nat} {a : Addr} {l l2 : List D} {us u2 : List V} {d : D} {v : V} (r : Rel K ρ S H) (ha : ρ[n]? = some a) (hs : S[n]? = some (.lst l)) (h1 : H a = some (.lst us)) (d2 : DVs K ρ H l2 u2) (dv : DV K ρ H d v)
    (q : ∀ ρ' H' v, Rel K ρ' (S.set n (.lst l2)) H' → Ext K ρ H ρ' H' → DV K ρ' H' d v → Q v H') : Q v (upd H a (.lst u2)) :=
  q ρ _ _ (r.write ha hs h1 d2) (Ext.write (List.mem_of_getElem? ha) h1) (DV.mono (Ext.write (List.mem_of_getElem? ha) h1) _ _ dv)
theorem rp_append : ∀ x vs H Q, rPL X.K gAppend x vs H Q → rAppend x vs H Q := by
  rintro x vs H Q ⟨ρ, S, n, a, l, us, ds, d, l2, rfl, r, ha, hs, h1, dl, dv, hg, q⟩
  unfold gAppend at hg
  split at hg
  · rename_i y
    by_cases hl : sizeOk (l.length + 1)
    · rw [if_pos hl] at hg; cases hg
      obtain ⟨w, rfl, h2⟩ := dvs1 dv
      exact ⟨a, us, w, rfl, rfl, h1, by rw [← dl.length]; exact hl, post_write r ha hs h1 (dl.append (DVs.one h2)) (dv_non.mpr rfl) q⟩
    · rw [if_neg hl] at hg; cases hg
  · cases hg
def gPop : GL := fun _ l ds => match ds with
  | [] => l[l.length - 1]?.map fun d => (d, l.dropLast)
  | _ => none
theorem dvs_dropLast {K : PySem.W.Frag} {ρ : List Addr} {H : Hp} {ds : List D} {vs : List V} (h : DVs K ρ H ds vs) : DVs K ρ H ds.dropLast vs.dropLast := by
  rw [List.dropLast_eq_take, List.dropLast_eq_take, h.length]
  exact h.take _
theorem rp_pop : ∀ x vs H Q, rPL X.K gPop x vs H Q → rPop x vs H Q := by
  rintro x vs H Q ⟨ρ, S, n, a, l, us, ds, d, l2, rfl, r, ha, hs, h1, dl, dv, hg, q⟩
  unfold gPop at hg
  split at hg
  · rw [Option.map_eq_some_iff] at hg
    obtain ⟨y, hy, e⟩ := hg
    cases e
    simp only [DVs] at dv
    subst dv
    obtain ⟨w, h2, h3⟩ := dl.get hy
    exact ⟨a, us, w, rfl, rfl, h1, by rw [← dl.length]; exact h2, post_write r ha hs h1 (dvs_dropLast dl) h3 q⟩
  · cases hg
open Classical in
noncomputable def gExtend : GL := fun S l ds => match ds with
  | [d] => (match seqL S d with
    | some ys => if sizeOk (l.length + ys.length) then some (.non, l ++ ys) else none
    | none => none)
  | _ => none
theorem rp_extend : ∀ x vs H Q, rPL X.K gExtend x vs H Q → rExtend x vs H Q := by
  rintro x vs H Q ⟨ρ, S, n, a, l, us, ds, d, l2, rfl, r, ha, hs, h1, dl, dv, hg, q⟩
  unfold gExtend at hg
  split at hg
  · rename_i y
    cases e : seqL S y with
    | none => rw [e] at hg; cases hg
    | some ys =>
      rw [e] at hg
      simp only at hg
      by_cases hl : sizeOk (l.length + ys.length)
      · rw [if_pos hl] at hg; cases hg
        obtain ⟨w, rfl, h2⟩ := dvs1 dv
        obtain ⟨b, ws, rfl, h3, h4⟩ := seqL_ok r h2 e
        exact ⟨a, b, us, ws, rfl, rfl, h1, h3, by rw [← dl.length, ← h4.length]; exact hl, post_write r ha hs h1 (dl.append h4) (dv_non.mpr rfl) q⟩
      · rw [if_neg hl] at hg; cases hg
  · cases hg

/-! ### what a def leaves behind is dropped -/
mutual
def lb (n : Nat) : D → Bool
  | .tup xs => lbs n xs
  | .lst xs => lbs n xs
  | .fz xs => lbs n xs
  | .loc k => decide (k < n)
  | .non => true
  | .bl _ => true
  | .int _ => true
  | .str _ => true
  | .ty _ => true
  | .glo _ => true
  | .exo => true
def lbs (n : Nat) : List D → Bool
  | [] => true
  | x :: xs => lb n x && lbs n xs
end
mutual
theorem DV.lb {K : PySem.W.Frag} {ρ : List Addr} {H : Hp} : ∀ (d : D) (v : V), DV K ρ H d v → lb ρ.length d = true
  | .non, v, h => by simp [PD.lb]
  | .bl _, v, h => by simp [PD.lb]
  | .int _, v, h => by simp [PD.lb]
  | .str _, v, h => by simp [PD.lb]
  | .ty _, v, h => by simp [PD.lb]
  | .glo _, v, h => by simp [PD.lb]
  | .exo, v, h => by simp [PD.lb]
  | .tup xs, v, h => by simp only [DV] at h; obtain ⟨a, vs, rfl, h1, h2⟩ := h; simp only [PD.lb]; exact DVs.lbs xs vs h2
  | .lst xs, v, h => by simp only [DV] at h; obtain ⟨a, vs, rfl, h1, h2⟩ := h; simp only [PD.lb]; exact DVs.lbs xs vs h2
  | .fz xs, v, h => by simp only [DV] at h; obtain ⟨a, vs, rfl, h1, h2⟩ := h; simp only [PD.lb]; exact DVs.lbs xs vs h2
  | .loc n, v, h => by simp only [DV] at h; obtain ⟨a, rfl, h1⟩ := h; simp only [PD.lb, decide_eq_true_eq]; exact (List.getElem?_eq_some_iff.mp h1).1
theorem DVs.lbs {K : PySem.W.Frag} {ρ : List Addr} {H : Hp} : ∀ (ds : List D) (vs : List V), DVs K ρ H ds vs → lbs ρ.length ds = true
  | [], vs, h => by simp [PD.lbs]
  | x :: xs, vs, h => by
    simp only [DVs] at h
    obtain ⟨v, r, rfl, h1, h2⟩ := h
    simp only [PD.lbs, Bool.and_eq_true]
    exact ⟨DV.lb x v h1, DVs.lbs xs r h2⟩
end
mutual
theorem DV.shrink {K : PySem.W.Frag} {ρ t : List Addr} {H : Hp} : ∀ (d : D) (v : V), DV K (ρ ++ t) H d v → lb ρ.length d = true → DV K ρ H d v
  | .non, v, h, _ => by simp only [DV] at h ⊢; exact h
  | .bl _, v, h, _ => by simp only [DV] at h ⊢; exact h
  | .int _, v, h, _ => by simp only [DV] at h ⊢; exact h
  | .str _, v, h, _ => by simp only [DV] at h ⊢; exact h
  | .ty _, v, h, _ => by simp only [DV] at h ⊢; exact h
  | .glo _, v, h, _ => by simp only [DV] at h ⊢; exact h
  | .exo, v, h, _ => by simp only [DV] at h ⊢; exact h
  | .tup xs, v, h, b => by simp only [DV] at h ⊢; simp only [PD.lb] at b; obtain ⟨a, vs, rfl, h1, h2⟩ := h; exact ⟨a, vs, rfl, h1, DVs.shrink xs vs h2 b⟩
  | .lst xs, v, h, b => by
    simp only [DV] at h ⊢; simp only [PD.lb] at b; obtain ⟨a, vs, rfl, h1, h2⟩ := h
    exact ⟨a, vs, rfl, ⟨fun z => h1.1 (List.mem_append_left _ z), h1.2⟩, DVs.shrink xs vs h2 b⟩
  | .fz xs, v, h, b => by simp only [DV] at h ⊢; simp only [PD.lb] at b; obtain ⟨a, vs, rfl, h1, h2⟩ := h; exact ⟨a, vs, rfl, h1, DVs.shrink xs vs h2 b⟩
  | .loc n, v, h, b => by
    simp only [DV] at h ⊢; simp only [PD.lb, decide_eq_true_eq] at b; obtain ⟨a, rfl, h1⟩ := h
    exact ⟨a, rfl, by rw [List.getElem?_append_left b] at h1; exact h1⟩
theorem DVs.shrink {K : PySem.W.Frag} {ρ t : List Addr} {H : Hp} : ∀ (ds : List D) (vs : List V), DVs K (ρ ++ t) H ds vs → lbs ρ.length ds = true → DVs K ρ H ds vs
  | [], vs, h, _ => by simp only [DVs] at h ⊢; exact h
  | x :: xs, vs, h, b => by
    simp only [DVs] at h ⊢
    obtain ⟨v, r, rfl, h1, h2⟩ := h
    simp only [PD.lbs, Bool.and_eq_true] at b
    exact ⟨v, r, rfl, DV.shrink x v h1 b.1, DVs.shrink xs r h2 b.2⟩
end
theorem Ext.shrink {K : PySem.W.Frag} {ρ ρ' : List Addr} {H H' : Hp} (e : Ext K ρ H ρ' H') : Ext K ρ H ρ H' := by
  obtain ⟨t, rfl⟩ := e.pre
  exact ⟨⟨[], by simp⟩, e.tup, fun a vs h g => ⟨h, (e.lst a vs h g).2⟩, e.fz, e.xd⟩
theorem Rel.shrink {K : PySem.W.Frag} {ρ t : List Addr} {S T : Sto} {H H' : Hp} (r0 : Rel K ρ S H) (r : Rel K (ρ ++ t) (S ++ T) H') : Rel K ρ S H' := by
  refine ⟨r0.len, r0.nd, fun n o a h1 h2 => ?_⟩
  have q := r.at_ n o a (by rw [List.getElem?_append_left (List.getElem?_eq_some_iff.mp h1).1]; exact h1) (by rw [List.getElem?_append_left (List.getElem?_eq_some_iff.mp h2).1]; exact h2)
  have q0 := r0.at_ n o a h1 h2
  cases o with
  | lst xs => obtain ⟨vs, a1, a2⟩ := q; obtain ⟨us, b1, b2⟩ := q0; exact ⟨vs, a1, DVs.shrink _ _ a2 (DVs.lbs _ _ b2)⟩
  | dic xs => obtain ⟨vs, a1, a2⟩ := q; obtain ⟨us, b1, b2⟩ := q0; exact ⟨vs, a1, DVs.shrink _ _ a2 (DVs.lbs _ _ b2)⟩
  | set S n => exact q
  | ins c fs => obtain ⟨dx, vs, a1, a2⟩ := q; obtain ⟨dy, us, b1, b2⟩ := q0; exact ⟨dx, vs, a1, DVs.shrink _ _ a2 (DVs.lbs _ _ b2)⟩
def lbE (n : Nat) (e : Exn) : Prop := match e.fs with
  | none => True
  | some fs => lbs n (fs.map (·.2)) = true
open Classical in
noncomputable def trim (S : Sto) : Out D → Out D
  | .ok d S' => if S'.take S.length = S ∧ lb S.length d = true then .ok d S else .ok d S'
  | .ex e S' => if S'.take S.length = S ∧ lbE S.length e then .ex e S else .ex e S'
  | .bad => .bad
theorem Post.trim {K : PySem.W.Frag} {ρ : List Addr} {S : Sto} {H : Hp} {Q : VK} {Z : XQ} {o : Out D} (r : Rel K ρ S H) (h : Post K (DV K) ρ H Q Z (PD.trim S o)) : Post K (DV K) ρ H Q Z o := by
  cases o with
  | bad => exact h
  | ok d S' =>
    simp only [PD.trim] at h
    split at h
    · rename_i c
      intro ρ1 H1 v r1 e1 d1
      obtain ⟨t, rfl⟩ := e1.pre
      have hs : S' = S ++ S'.drop S.length := by
        have := List.take_append_drop S.length S'
        rw [c.1] at this
        exact this.symm
      rw [hs] at r1
      exact h ρ H1 v (r.shrink r1) e1.shrink (DV.shrink _ _ d1 (by rw [r.len]; exact c.2))
    · exact h
  | ex e S' =>
    simp only [PD.trim] at h
    split at h
    · rename_i c
      intro ρ1 H1 cl dx r1 e1 d1
      obtain ⟨t, rfl⟩ := e1.pre
      have hs : S' = S ++ S'.drop S.length := by
        have := List.take_append_drop S.length S'
        rw [c.1] at this
        exact this.symm
      rw [hs] at r1
      refine h ρ H1 cl dx (r.shrink r1) e1.shrink ?_
      obtain ⟨x1, x2⟩ := d1
      refine ⟨x1, ?_⟩
      have c2 := c.2
      unfold lbE at c2
      cases q : e.fs with
      | none => rw [q] at x2; exact x2
      | some fs =>
        rw [q] at x2 c2
        obtain ⟨d, vs, a1, a2, a3⟩ := x2
        exact ⟨d, vs, a1, a2, DVs.shrink _ _ a3 (by rw [r.len]; exact c2)⟩
    · exact h
/-- a def that drops what it has laid for itself -/
noncomputable def runT (n : Nat) (b : MS) : MF := fun ds S => trim S (runB n b ds S)
theorem callF_trim {P : Program} {w : World} {K : PySem.W.Frag} {mg : Str → Option Value} {base : Heap} {k n : Nat} {x : Str} {m : MF} (c : CallF P w K mg base k x n m) : CallF P w K mg base k x n (fun ds S => trim S (m ds S)) := by
  obtain ⟨f, fd, ps, F, h1, h2, h3⟩ := c.ex
  have i : ∀ vs H Q E, spM K n (fun ds S => trim S (m ds S)) vs H Q E → spM K n m vs H Q E := fun vs H Q E ⟨ρ, S, ds, r, dv, hl, p⟩ => ⟨ρ, S, ds, r, dv, hl, Post.trim r p⟩
  exact ⟨f, fd, ps, F.imp i, h1, h2, h3⟩

/-! ### comprehensions -/
def wipeE (E : Evn) : List Nat → Evn
  | [] => E
  | v :: vs => (wipeE E vs).set v none
theorem ER.wipe {K : PySem.W.Frag} {W : WW K} {ρ : List Addr} {H : Hp} {E : Evn} {σ : L2.St} (hw : W.fix = none) (h : ER K W ρ H E σ) : ∀ vs : List Nat, ER K W ρ H (wipeE E vs) (L2.wipe σ vs)
  | [] => h
  | v :: vs => (h.wipe hw vs).unset hw v
/-- the names that a turn stores: one, or those of a tuple -/
def stN (one : Bool) (is : List Nat) (x : D) (E : Evn) : Option Evn := match one, is, x with
  | true, [i], x => some (E.set i (some x))
  | false, [i, j], .tup [a, b] => some ((E.set i (some a)).set j (some b))
  | false, [i, j, k], .tup [a, b, c] => some (((E.set i (some a)).set j (some b)).set k (some c))
  | _, _, _ => none
/-- the same over values -/
def gN1 (K : PySem.W.Frag) (one : Bool) (is : List Nat) : TG := match one, is with
  | true, [i] => gName i
  | false, [i, j] => gTup K 2 (gCons (gName i) (gCons (gName j) gNil))
  | false, [i, j, k] => gTup K 3 (gCons (gName i) (gCons (gName j) (gCons (gName k) gNil)))
  | _, _ => fun _ _ _ _ => False
theorem wipe_set {σ : L2.St} {i : Nat} {v : Option V} : ∀ {vs : List Nat}, i ∈ vs → L2.wipe (σ.set i v) vs = L2.wipe σ vs
  | [], h => by cases h
  | w :: vs, h => by
    unfold L2.wipe
    by_cases hv : i ∈ vs
    · rw [wipe_set hv]
    · have e : i = w := by simpa [hv] using h
      subst e
      have key : ∀ us : List Nat, i ∉ us → L2.wipe (σ.set i v) us = (L2.wipe σ us).set i v := fun us => by
        induction us with
        | nil => intro _; rfl
        | cons u us ih =>
          intro hu
          simp only [List.mem_cons, not_or] at hu
          unfold L2.wipe
          rw [ih hu.2, List.set_comm _ _ hu.1]
      rw [key vs hv, List.set_set]
theorem wipe_wipe {σ : L2.St} {vs : List Nat} : ∀ us : List Nat, (∀ i ∈ us, i ∈ vs) → L2.wipe (L2.wipe σ us) vs = L2.wipe σ vs
  | [], _ => rfl
  | u :: us, h => by
    show L2.wipe ((L2.wipe σ us).set u none) vs = _
    rw [wipe_set (h u (by simp)), wipe_wipe us fun i hi => h i (by simp [hi])]
theorem stN_ok {K : PySem.W.Frag} {W : WW K} {ρ : List Addr} {S : Sto} {H : Hp} {E E2 : Evn} {σ : L2.St} {one : Bool} {is vs : List Nat} {x : D} {v : V} {Q : L2.St → Hp → Prop} (hw : W.fix = none) (er : ER K W ρ H E σ) (dv : DV K ρ H x v) (hv : ∀ i ∈ is, i ∈ vs)
    (h : stN one is x E = some E2) (q : ∀ σ2, ER K W ρ H E2 σ2 → L2.wipe σ2 vs = L2.wipe σ vs → Q σ2 H) : gN1 K one is v σ H Q := by
  unfold stN at h
  split at h
  · cases h
    exact q _ (er.set hw _ dv) (wipe_set (hv _ (by simp)))
  · rename_i i j a b
    cases h
    obtain ⟨p, us, rfl, h1, h2⟩ := tup_ok dv
    obtain ⟨u1, u2, rfl, d1, d2⟩ := dvs2 h2
    refine ⟨p, _, rfl, h1, rfl, u1, [u2], rfl, u2, [], rfl, rfl, ?_⟩
    exact q _ ((er.set hw _ d1).set hw _ d2) (by rw [wipe_set (hv j (by simp)), wipe_set (hv i (by simp))])
  · rename_i i j k a b c
    cases h
    obtain ⟨p, us, rfl, h1, h2⟩ := tup_ok dv
    simp only [DVs] at h2
    obtain ⟨u1, r1, rfl, d1, u2, r2, rfl, d2, u3, r3, rfl, d3, rfl⟩ := h2
    refine ⟨p, _, rfl, h1, rfl, u1, _, rfl, u2, _, rfl, u3, [], rfl, rfl, ?_⟩
    exact q _ (((er.set hw _ d1).set hw _ d2).set hw _ d3) (by rw [wipe_set (hv k (by simp)), wipe_set (hv j (by simp)), wipe_set (hv i (by simp))])
  · cases h
open Classical in
/-- the turns of a comprehension: S0 the store, E0 the names ahead of a turn, acc what there is -/
noncomputable def compD (c : Option (Nat × List D)) (one : Bool) (is : List Nat) (t : MT) (e : ME) (E0 : Evn) (S0 : Sto) : List D → List D → Out (List D)
  | [], acc => if chkOk c (S0 ++ [.lst acc]) then .ok acc S0 else .bad
  | x :: r, acc => if chkOk c (S0 ++ [.lst acc]) then (match stN one is x E0 with
      | some E1 => (match t E1 (S0 ++ [.lst acc]) with
        | .ok b S1 => if S1 = S0 ++ [.lst acc] then (if b = true then (match e E1 (S0 ++ [.lst acc]) with
            | .ok y S2 => if S2 = S0 ++ [.lst acc] ∧ lb S0.length y = true ∧ sizeOk (acc.length + 1) then compD c one is t e E0 S0 r (acc ++ [y]) else .bad
            | _ => .bad) else compD c one is t e E0 S0 r acc) else .bad
        | _ => .bad)
      | none => .bad) else .bad
noncomputable def mComp (it : MI) (one : Bool) (is vs : List Nat) (t : MT) (e : ME) : ME := fun E S => (it E S).bind fun i S1 => (compD i.chk one is t e (wipeE E vs) S1 i.items []).bind fun xs S2 => .ok (.lst xs) S2
def mYes : MT := fun _ S => .ok true S
abbrev W0 (K : PySem.W.Frag) : WW K := WW.of (K := K) fun _ _ _ _ => False
def PD' (X : Cx) (ifs : List Expr) (m : MT) : Prop := PTs X ifs (tT X.K (W0 X.K) m)
theorem PTs.imp {ifs : List Expr} {t t' : TT} (h : PTs X ifs t) (i : ∀ σ H Q, t' σ H Q → t σ H Q) : PTs X ifs t' := ⟨fun pins s σ H Q I q => h.run pins s σ H Q I (i _ _ _ q)⟩
theorem pd_nil : PD' X [] mYes := PTs.imp pts_nil fun σ H Q ⟨ρ, S, E, r, er, p⟩ => p ρ H true r Ext.refl rfl
theorem pd_one {c : Expr} {m : MT} (h : TD X (W0 X.K) c m) : PD' X [c] m := pts_one h
theorem ed_comp {elt tg iter : Expr} {ifs : List Expr} {scope : Scope} {own : List (Str × Nat)} {mi : MI} {one : Bool} {is : List Nat} {mt : MT} {me : ME} (hc : X.calm = true) (hN : X.N.Nodup) (hi : ID X W tg iter mi) (ok : BlkOk X.N X.env.scope scope own) (hw : W.fix = none)
    (hv : ∀ i ∈ is, i ∈ own.map (·.2))
    (hg : ∀ (s : Shared) (H : Hp) (C : Addr) (cl : List (Str × Addr)) (fp : List Addr), PG (X.blk s H scope (compEnvC scope cl C X.env) fp) tg (gN1 X.K one is))
    (ht : ∀ (s : Shared) (H : Hp) (C : Addr) (cl : List (Str × Addr)) (fp : List Addr), PD' (X.blk s H scope (compEnvC scope cl C X.env) fp) ifs mt)
    (he : ∀ (s : Shared) (H : Hp) (C : Addr) (cl : List (Str × Addr)) (fp : List Addr), ED (X.blk s H scope (compEnvC scope cl C X.env) fp) (W0 X.K) elt me) (hs : ∀ x, foldedSetIterable iter X.env x = pure x := by intro _; rfl) :
    ED X W (.ListComp elt [⟨tg, iter, ifs, 0⟩] scope pos) (mComp mi one is (own.map (·.2)) mt me) := by
  refine ed_of (pe_lc (tt := tT X.K (W0 X.K) mt) (te := tE X.K (W0 X.K) me) hc hN hi ok hg ht he hs) fun σ H Q ρ S E r er p => ?_
  refine ⟨ρ, S, E, r, er, (Post.bind (R := Walks X.K) p).imp fun J H1 ⟨ρ1, S1, i, r1, e1, w1, p1⟩ => ?_⟩
  intro D hD
  have er1 := (er.mono e1).wipe hw (own.map (·.2))
  have er0 : ER X.K (W0 X.K) ρ1 H1 (wipeE E (own.map (·.2))) (L2.wipe σ (own.map (·.2))) := er1.wish trivial fun i a z => by cases z
  generalize wipeE E (own.map (·.2)) = E0 at p1 er0
  have hn : D ∉ ρ1 := r1.notin hD
  refine ⟨fun n m H2 => m = i.items.length - n ∧ n ≤ i.items.length ∧ ∃ acc us, Rel X.K (ρ1 ++ [D]) (S1 ++ [.lst acc]) H2 ∧ Ext X.K ρ1 H1 (ρ1 ++ [D]) H2 ∧ H2 D = some (.lst us) ∧ DVs X.K (ρ1 ++ [D]) H2 acc us ∧ lbs S1.length acc = true ∧
    Post X.K (DV X.K) ρ1 H1 Q (fun c dx H' => W.w c dx σ H') ((compD i.chk one is mt me E0 S1 (i.items.drop n) acc).bind fun xs S2 => .ok (.lst xs) S2),
    ⟨_, rfl, Nat.zero_le _, [], [], r1.alloc (u := .lst []) hD ⟨[], upd_same, by simp [DVs]⟩, Ext.alloc hD, upd_same, by simp [DVs], rfl, by simpa using p1⟩, ?_⟩
  rintro n m H2 ⟨rfl, hnl, acc, us, r2, e2, hHD, dacc, bacc, p2⟩
  have hck : chkOk i.chk (S1 ++ [.lst acc]) := Classical.byContradiction fun z => by
    cases q : i.items.drop n with
    | nil => rw [q, compD, if_neg z] at p2; exact p2
    | cons x rr => rw [q, compD, if_neg z] at p2; exact p2
  obtain ⟨w2, w3⟩ := w1 (ρ1 ++ [D]) (S1 ++ [.lst acc]) H2 r2 e2 hck
  have hDat : (ρ1 ++ [D])[S1.length]? = some D := by rw [← r1.len, List.getElem?_append_right (Nat.le_refl _), Nat.sub_self]; rfl
  have hSat : (S1 ++ [Ob.lst acc])[S1.length]? = some (.lst acc) := by rw [List.getElem?_append_right (Nat.le_refl _), Nat.sub_self]; rfl
  have same : ∀ {ρ' : List Addr} {H' : Hp}, Rel X.K ρ' (S1 ++ [.lst acc]) H' → (∃ t, ρ' = (ρ1 ++ [D]) ++ t) → ρ' = ρ1 ++ [D] := fun r' ⟨t, ht⟩ => by
    have h1 := r'.len
    have h2 := r2.len
    rw [ht, List.length_append, h2] at h1
    have : t = [] := List.length_eq_zero_iff.mp (by omega)
    rw [ht, this, List.append_nil]
  by_cases hlt : n < i.items.length
  · right
    have hd : i.items[n]? = some i.items[n] := List.getElem?_eq_getElem hlt
    obtain ⟨go, yl⟩ := w2 n _ hd
    refine ⟨go, fun H' => n + 1 ≤ i.items.length ∧ ∃ acc us, Rel X.K (ρ1 ++ [D]) (S1 ++ [.lst acc]) H' ∧ Ext X.K ρ1 H1 (ρ1 ++ [D]) H' ∧ H' D = some (.lst us) ∧ DVs X.K (ρ1 ++ [D]) H' acc us ∧ lbs S1.length acc = true ∧
      Post X.K (DV X.K) ρ1 H1 Q (fun c dx H' => W.w c dx σ H') ((compD i.chk one is mt me E0 S1 (i.items.drop (n + 1)) acc).bind fun xs S2 => .ok (.lst xs) S2),
      fun H' ⟨h1, h2⟩ => ⟨i.items.length - (n + 1), by omega, rfl, h1, h2⟩, fun x H3 hy => ?_⟩
    obtain ⟨r3, e3, d3⟩ := yl x H3 hy
    rw [drop_cons_of hd, compD, if_pos hck] at p2
    cases q : stN one is i.items[n] E0 with
    | none => rw [q] at p2; exact p2.elim
    | some E1 =>
      rw [q] at p2
      simp only at p2
      have er3 : ER X.K (W0 X.K) (ρ1 ++ [D]) H3 E0 (L2.wipe σ (own.map (·.2))) := er0.mono (e2.trans e3)
      refine stN_ok (S := S1) rfl er3 d3 hv q fun σ2 er4 hw2 => ⟨hw2.trans (wipe_wipe _ fun _ h => h), ?_⟩
      refine ⟨ρ1 ++ [D], S1 ++ [.lst acc], E1, r3, er4, ?_⟩
      cases q1 : mt E1 (S1 ++ [.lst acc]) with
      | bad => rw [q1] at p2; exact p2.elim
      | ex e S5 => rw [q1] at p2; exact p2.elim
      | ok b S5 =>
        rw [q1] at p2
        simp only at p2
        by_cases hS5 : S5 = S1 ++ [.lst acc]
        · rw [if_pos hS5] at p2
          subst hS5
          intro ρ5 H5 v r5 e5 hv5
          subst hv5
          have hρ5 := same r5 e5.pre
          subst hρ5
          cases b with
          | false =>
            rw [if_neg (by simp)] at p2 ⊢
            have hh : ∃ us, H5 D = some (.lst us) ∧ DVs X.K (ρ1 ++ [D]) H5 acc us := r5.lst hSat hDat
            obtain ⟨us5, h51, h52⟩ := hh
            exact ⟨hlt, acc, us5, r5, (e2.trans e3).trans e5, h51, h52, bacc, p2⟩
          | true =>
            rw [if_pos rfl] at p2 ⊢
            refine ⟨ρ1 ++ [D], S1 ++ [.lst acc], E1, r5, er4.mono e5, ?_⟩
            cases q2 : me E1 (S1 ++ [.lst acc]) with
            | bad => rw [q2] at p2; exact p2.elim
            | ex e S6 => rw [q2] at p2; exact p2.elim
            | ok y S6 =>
              rw [q2] at p2
              simp only at p2
              by_cases hS6 : S6 = S1 ++ [.lst acc] ∧ lb S1.length y = true ∧ sizeOk (acc.length + 1)
              · rw [if_pos hS6] at p2
                obtain ⟨h6, h7, h8⟩ := hS6
                subst h6
                intro ρ6 H6 w r6 e6 d6
                have hρ6 := same r6 e6.pre
                subst hρ6
                obtain ⟨us6, h61, h62⟩ := r6.lst hSat hDat
                refine ⟨us6, h61, by rw [← h62.length]; exact h8, hlt, acc ++ [y], us6 ++ [w], ?_, ?_, upd_same, ?_, ?_, p2⟩
                · have := r6.write hDat hSat h61 (h62.append (DVs.one d6))
                  rw [List.set_append_right _ _ (Nat.le_refl _), Nat.sub_self] at this
                  exact this
                · exact (((e2.trans e3).trans e5).trans e6).trans (Ext.write (by simp) h61)
                · exact DVs.mono (Ext.write (by simp) h61) _ _ (h62.append (DVs.one d6))
                · have key : ∀ l : List PD.D, lbs S1.length l = true → lbs S1.length (l ++ [y]) = true := fun l => by
                    induction l with
                    | nil => intro _; simp [lbs, h7]
                    | cons a l ih => intro h; simp only [List.cons_append, lbs, Bool.and_eq_true] at h ⊢; exact ⟨h.1, ih h.2⟩
                  exact key acc bacc
              · rw [if_neg hS6] at p2; exact p2.elim
        · rw [if_neg hS5] at p2; exact p2.elim
  · left
    have hn2 : n = i.items.length := by omega
    subst hn2
    rw [List.drop_length, compD, if_pos hck, bind_ok] at p2
    refine ⟨w3, p2 ρ1 H2 (.ref D) (r1.shrink r2) e2.shrink ?_⟩
    simp only [DV]
    exact ⟨D, us, rfl, ⟨hn, hHD⟩, DVs.shrink _ _ dacc (by rw [r1.len]; exact bacc)⟩
end
end PD

/-! PyE1: to reckon with the meanings of PyD8, PyD9, PyE0. -/
namespace PD
open PySem PySem.Spec PyProof PyProof.Rows L2
section
variable {E : Evn} {S : Sto}
theorem a_sm {g : Sto → Tx → List D → Option D} {o : ME} {a : MA} : mSM g o a E S = (o E S).bind fun x S1 => (match x with
  | .str z => (a E S1).bind fun xs S2 => (match g S2 z xs with
    | some d => .ok d S2
    | none => .bad)
  | _ => .bad) := rfl
theorem a_lm {g : GL} {o : ME} {a : MA} : mLM g o a E S = (o E S).bind fun x S1 => (match x with
  | .loc n => (match S1[n]? with
    | some (.lst _) => (a E S1).bind fun xs S2 => (match S2[n]? with
      | some (.lst l) => (match g S2 l xs with
        | some (d, l2) => .ok d (S2.set n (.lst l2))
        | none => .bad)
      | _ => .bad)
    | _ => .bad)
  | _ => .bad) := rfl
theorem a_iany {a : ME} : iAny a E S = (a E S).bind fun d S1 => (match d with
  | .str z => .ok ⟨z.map fun c => .str [c], none⟩ S1
  | d => iSeq (mC d) E S1) := rfl
theorem a_comp {it : MI} {one : Bool} {is vs : List Nat} {t : MT} {e : ME} : mComp it one is vs t e E S = (it E S).bind fun i S1 => (compD i.chk one is t e (wipeE E vs) S1 i.items []).bind fun xs S2 => .ok (.lst xs) S2 := rfl
theorem a_yes : mYes E S = .ok true S := rfl
theorem g_mulAI {i j : Int} : gMulA S (.int i) (.int j) = gMul S (.int i) (.int j) := rfl
theorem g_mulAS {z : Tx} {k : Int} (h : repOk z.length k) : gMulA S (.str z) (.int k) = some (.str (List.replicate k.toNat z).flatten) := by
  simp only [gMulA, if_pos h]
theorem g_slS {z : Tx} {lo hi : Option Int} (h : sizeOk z.length) : gSl S (.str z) lo hi = some (.str (cutL z lo hi)) := by simp only [gSl, if_pos h]
theorem g_slT {z : List D} {lo hi : Option Int} : gSl S (.tup z) lo hi = some (.tup (cutL z lo hi)) := rfl
theorem g_slL {z : List D} {lo hi : Option Int} : gSl S (.lst z) lo hi = some (.lst (cutL z lo hi)) := rfl
theorem g_slF {z : List D} {lo hi : Option Int} : gSl S (.fz z) lo hi = some (.lst (cutL z lo hi)) := rfl
theorem g_revL {z : List D} : gRev S (.lst z) = some (.lst z.reverse) := rfl
theorem g_revF {z : List D} : gRev S (.fz z) = some (.lst z.reverse) := rfl
theorem g_starts {z p : Tx} : gStarts S z [.str p] = some (.bl (decide (z.take p.length = p))) := rfl
theorem g_ends {z p : Tx} : gEnds S z [.str p] = some (.bl (decide (p.length ≤ z.length ∧ z.drop (z.length - p.length) = p))) := rfl
theorem g_split {z p : Tx} (h1 : p ≠ [] ∧ p.all (· < 256) = true ∧ sizeOk (z.length + 2)) : gSplit S z [.str p] = some (.lst ((TL.spl p 0 [] z).map D.str)) := by simp only [gSplit, if_pos h1]
theorem g_joinM {z : Tx} {ys : List Tx} (h : joinOk z ys) : gJoin S z [.lst (ys.map D.str)] = some (.str (TL.joinL z ys)) := by
  unfold gJoin
  simp only [rowF, seqF, Option.bind_some, strs_map, if_pos h]
theorem g_join {z : Tx} {xs : List D} {ys : List Tx} (e : strL xs = some ys) (h : joinOk z ys) : gJoin S z [.lst xs] = some (.str (TL.joinL z ys)) := by
  unfold gJoin
  simp only [rowF, seqF, Option.bind_some, e, if_pos h]
theorem g_zfill {z : Tx} {i : Int} (h : padOk i) : gZfill S z [.int i] = some (.str (zfillD z i)) := by simp only [gZfill, if_pos h]
theorem g_str {i : Int} (h : strOkI i) : gStr S [.int i] = some (.str (numT i)) := by simp only [gStr, if_pos h]
theorem g_intAI {i : Int} : gIntA S [.int i] = some (.int i) := rfl
theorem g_intAB {i : Bool} : gIntA S [.bl i] = some (.int (if i then 1 else 0)) := rfl
theorem g_intAS {z : Tx} (h : digT z) : gIntA S [.str z] = some (.int (NumText.digitsVal z : Nat)) := by simp only [gIntA, if_pos h]
theorem g_ord {c : Nat} : gOrd S [.str [c]] = some (.int c) := rfl
theorem g_chr {i : Int} (h : 0 ≤ i ∧ i ≤ 1114111) : gChr S [.int i] = some (.str [i.toNat]) := by simp only [gChr, if_pos h]
theorem g_inC {c : Nat} {z : Tx} : gIn S (.str [c]) (.str z) = some (.bl (decide (c ∈ z))) := rfl
theorem g_notInC {c : Nat} {z : Tx} : gNotIn S (.str [c]) (.str z) = some (.bl (!decide (c ∈ z))) := rfl
theorem g_inT {x : D} {ys : List D} (h : flD x = true) (h2 : ys.all flD = true) : gIn S x (.tup ys) = some (.bl (ys.any fun y => teq y x)) := by
  unfold gIn inB2
  split
  · rename_i e; cases e
  · rename_i ys e; cases e; rw [if_pos ⟨h, h2⟩]; rfl
  · rename_i e _; exact absurd rfl (e _)
theorem g_notInT {x : D} {ys : List D} (h : flD x = true) (h2 : ys.all flD = true) : gNotIn S x (.tup ys) = some (.bl (!ys.any fun y => teq y x)) := by
  unfold gNotIn inB2
  split
  · rename_i e; cases e
  · rename_i ys e; cases e; rw [if_pos ⟨h, h2⟩]; rfl
  · rename_i e _; exact absurd rfl (e _)
theorem in_seq {x y : D} {ys : List D} (hy : seqF S y = some ys) (h : flD x = true) (h2 : ys.all flD = true) : inB2 S x y = some (ys.any fun y => teq y x) := by
  unfold inB2
  split
  · cases hy
  · cases hy
  · rw [hy]; simp only; rw [if_pos ⟨h, h2⟩]
theorem in_deep {x y : D} {ys : List D} (hy : seqF S y = some ys) (hx : flD x = false) (h : okd (flat S x) 64 = true) (h2 : okds ys 63 = true) : inB2 S x y = some (ys.any fun y => teq y (flat S x)) := by
  unfold inB2
  split
  · cases hy
  · cases hy
  · rw [hy]; simp only; rw [if_neg (by simp [hx]), if_pos ⟨h, h2⟩]
theorem g_in {x y : D} {b : Bool} (h : inB2 S x y = some b) : gIn S x y = some (.bl b) := by unfold gIn; rw [h]; rfl
theorem g_notIn {x y : D} {b : Bool} (h : inB2 S x y = some b) : gNotIn S x y = some (.bl (!b)) := by unfold gNotIn; rw [h]; rfl
theorem g_allM {bs : List Bool} : gAll S [.lst (bs.map D.bl)] = some (.bl (bs.all id)) := by unfold gAll; simp only [seqF, Option.bind_some, bools_map, Option.map_some]
theorem g_anyM {bs : List Bool} : gAny S [.lst (bs.map D.bl)] = some (.bl (bs.any id)) := by unfold gAny; simp only [seqF, Option.bind_some, bools_map, Option.map_some]
theorem g_append {l : List D} {d : D} (h : sizeOk (l.length + 1)) : gAppend S l [d] = some (.non, l ++ [d]) := by simp only [gAppend, if_pos h]
theorem g_pop {l : List D} {d : D} : gPop S (l ++ [d]) [] = some (d, l) := by unfold gPop; simp
/-- a comprehension whose turns leave the store alone: each gives f x where the test says so -/
theorem compD_map {one : Bool} {is : List Nat} {t : MT} {e : ME} {E0 : Evn} {S0 : Sto} (p : D → Bool) (f : D → D) : ∀ (l : List D) (acc : List D), sizeOk (acc.length + l.length) →
    (∀ x ∈ l, ∀ acc, ∃ E1, stN one is x E0 = some E1 ∧ t E1 (S0 ++ [.lst acc]) = .ok (p x) (S0 ++ [.lst acc]) ∧ (p x = true → e E1 (S0 ++ [.lst acc]) = .ok (f x) (S0 ++ [.lst acc]) ∧ lb S0.length (f x) = true)) →
    compD none one is t e E0 S0 l acc = .ok (acc ++ (l.filter p).map f) S0
  | [], acc, _, _ => by rw [compD, if_pos (show chkOk none _ from trivial)]; simp
  | x :: l, acc, hz, h => by
    obtain ⟨E1, h1, h2, h3⟩ := h x List.mem_cons_self acc
    rw [compD, if_pos (show chkOk none _ from trivial), h1]
    simp only
    rw [h2]
    simp only
    rw [if_pos trivial]
    cases hp : p x with
    | false =>
      rw [if_neg (by simp), compD_map p f l acc (by unfold sizeOk at *; simp only [List.length_cons] at hz; omega) fun y hy => h y (List.mem_cons_of_mem _ hy)]
      simp [List.filter_cons, hp]
    | true =>
      obtain ⟨h4, h5⟩ := h3 hp
      rw [if_pos rfl, h4]
      simp only
      rw [if_pos ⟨rfl, h5, by unfold sizeOk at *; simp only [List.length_cons] at hz; omega⟩, compD_map p f l _ (by unfold sizeOk at *; simp only [List.length_cons, List.length_append, List.length_nil] at hz ⊢; omega) fun y hy => h y (List.mem_cons_of_mem _ hy)]
      simp [List.filter_cons, hp]
/-- without a test -/
theorem compD_all {one : Bool} {is : List Nat} {e : ME} {E0 : Evn} {S0 : Sto} (f : D → D) (l : List D) (hz : sizeOk l.length)
    (h : ∀ x ∈ l, ∀ acc, ∃ E1, stN one is x E0 = some E1 ∧ e E1 (S0 ++ [.lst acc]) = .ok (f x) (S0 ++ [.lst acc]) ∧ lb S0.length (f x) = true) :
    compD none one is mYes e E0 S0 l [] = .ok (l.map f) S0 := by
  have := compD_map (one := one) (is := is) (t := mYes) (e := e) (E0 := E0) (S0 := S0) (fun _ => true) f l [] (by simpa using hz) fun x hx acc => by
    obtain ⟨E1, h1, h2, h3⟩ := h x hx acc
    exact ⟨E1, h1, rfl, fun _ => ⟨h2, h3⟩⟩
  rw [List.filter_eq_self.mpr (fun _ _ => rfl), List.nil_append] at this
  exact this
/-- a def that drops what it has laid -/
theorem trim_ok {d : D} {T : Sto} (h : lb S.length d = true) : trim S (.ok d (S ++ T)) = .ok d S := by
  unfold trim
  simp only
  rw [if_pos ⟨by simp, h⟩]
theorem trim_same {d : D} : trim S (.ok d S) = .ok d S := by
  unfold trim
  simp only
  split <;> rfl
theorem trim_exN {c : Cl} {T : Sto} : trim S (.ex ⟨c, none⟩ (S ++ T)) = .ex ⟨c, none⟩ S := by
  unfold trim
  simp only
  rw [if_pos ⟨by simp, trivial⟩]
theorem a_runT {n : Nat} {b : MS} {ds : List D} : runT n b ds S = trim S (runB n b ds S) := rfl
/-- the new list at the end of the store -/
theorem sto_last {x : Ob} : (S ++ [x])[S.length]? = some x := by rw [List.getElem?_append_right (Nat.le_refl _), Nat.sub_self]; rfl
theorem sto_set {x y : Ob} : (S ++ [x]).set S.length y = S ++ [y] := by rw [List.set_append_right _ _ (Nat.le_refl _), Nat.sub_self]; rfl
theorem g_joinLoc {z : Tx} {n : Nat} {xs : List D} {ys : List Tx} (hs : S[n]? = some (.lst xs)) (e : strL xs = some ys) (h : joinOk z ys) : gJoin S z [.loc n] = some (.str (TL.joinL z ys)) := by
  unfold gJoin
  simp only [rowF, seqF, hs, Option.bind_some, e, if_pos h]
theorem g_revLoc {n : Nat} {xs : List D} (hs : S[n]? = some (.lst xs)) : gRev S (.loc n) = some (.lst xs.reverse) := by
  unfold gRev
  simp only [seqF, hs, Option.map_some]
theorem g_lenLoc {n : Nat} {xs : List D} (hs : S[n]? = some (.lst xs)) : gLen S [.loc n] = some (.int xs.length) := by
  unfold gLen
  simp only [seqF, hs, Option.map_some]
end
end PD

/-! PyE2: calls without arguments; list, tuple of a row; o[i] = .. -/
namespace PD
open PySem PySem.Spec PyProof PyProof.Rows L2
section
variable {X : Cx} {W : WW X.K} {pos : Pos}
theorem room65 {k : Nat} {A : Around} (r : Room k A) : A.units + 65 < cLine := by have := r.un; omega
theorem pe_callSD0 {CX : CXT} {k : Nat} {f : Addr} {fd : FuncData} {ps : List Str} {sp : Sp} {dvs : List V} {ds : List Value} {E : L2.St → XK} {x : Str} {p : Pos} (F : FnOk X.prog X.w X.K X.mg X.base CX k f fd ps sp) (hr : Room k X.A) (hg : Gl X x) (hm : X.mg x = some (.ref f)) (hk : PySem.W.keepIn X.K (.ref f) = true) (hb : Binds X.K fd ps ds) (hd : Vals dvs ds) (hx : ∀ σ, PassesAt CX X σ (E σ))
    (hdb : (x == ("__debug__" : Str)) = false := by decide) : PE X (.Call (.Name x p) [] [] pos) (tCallSD sp dvs E tNil) := by
  refine ⟨fun pins s σ H Q I h => ?_⟩
  refine wpAny_Call_Name_kw (ld_glob I hg hm ?_ hdb)
  exact PySem.W.callWith_K0 I.kIn hk (run_fnSD (us := []) F hr hb hd (hx σ) I .nil h)
theorem ed_call0 {x : Str} {k : Nat} {m : MF} {p : Pos} (c : CallF X.prog X.w X.K X.mg X.base k x 0 m) (hr : Room k X.A) (tk : Takes X W.w) (hg : Gl X x) (hdb : (x == ("__debug__" : Str)) = false := by decide) :
    ED X W (.Call (.Name x p) [] [] pos) (mCall m mNil) := by
  obtain ⟨f, fd, ps, F, hm, hk, hb⟩ := c.ex
  refine ed_of (pe_callSD0 (E := fun σ c dx H => W.w c dx σ H) F hr hg hm hk hb .nil (fun σ => passAt tk σ) hdb) fun σ H Q ρ S E r er p => ?_
  exact ⟨ρ, S, [], r, by simp [DVs], rfl, p⟩
/-- list of a row, tuple of a row -/
def gList (S : Sto) (ds : List D) : Option D := match ds with
  | [d] => (rowF S d).map D.lst
  | _ => none
theorem rp_list : ∀ vs H Q, rPB X.K gList vs H Q → (∃ p ys, vs = [V.ref p] ∧ (SqL X.K H p ys ∨ SqT X.K H p ys) ∧ ∀ l, H l = none → Q (.ref l) (upd H l (.lst ys))) := by
  rintro vs H Q ⟨ρ, S, ds, d, r, dv, hg, q⟩
  unfold gList at hg
  split at hg
  · rename_i x
    rw [Option.map_eq_some_iff] at hg
    obtain ⟨xs, e, rfl⟩ := hg
    obtain ⟨u, rfl, h1⟩ := dvs1 dv
    obtain ⟨a, us, rfl, h2, h3⟩ := rowF_ok r h1 e
    exact ⟨a, us, rfl, h2, fun l hl => post_lst r hl h3 q⟩
  · cases hg
def gTuple (S : Sto) (ds : List D) : Option D := match ds with
  | [d] => (rowF S d).map D.tup
  | _ => none
theorem rp_tuple : ∀ vs H Q, rPB X.K gTuple vs H Q → (∃ p ys, vs = [V.ref p] ∧ ((SqL X.K H p ys ∧ ∀ l, H l = none → Q (.ref l) (upd H l (.tup ys))) ∨ (SqT X.K H p ys ∧ Q (.ref p) H))) := by
  rintro vs H Q ⟨ρ, S, ds, d, r, dv, hg, q⟩
  unfold gTuple at hg
  split at hg
  · rename_i x
    rw [Option.map_eq_some_iff] at hg
    obtain ⟨xs, e, rfl⟩ := hg
    obtain ⟨u, rfl, h1⟩ := dvs1 dv
    unfold rowF at e
    split at e
    · cases e
      obtain ⟨a, us, rfl, h2, h3⟩ := tup_ok h1
      exact ⟨a, us, rfl, .inr ⟨h2, q ρ H _ r Ext.refl h1⟩⟩
    · obtain ⟨a, us, rfl, h2, h3⟩ := seqF_ok r h1 e
      exact ⟨a, us, rfl, .inl ⟨h2, fun l hl => post_tup r hl h3 q⟩⟩
  · cases hg
/-- the place of an item -/
def ixD (n : Nat) (i : Int) : Option Nat := if 0 ≤ i then (if i.toNat < n then some i.toNat else none) else if -(n : Int) ≤ i then some (i + n).toNat else none
theorem ixD_ixN {n : Nat} {i : Int} {j : Nat} (h : ixD n i = some j) : ixN n i = some j := by
  unfold ixD at h
  unfold ixN
  by_cases h0 : 0 ≤ i
  · rw [if_pos h0] at h ⊢
    by_cases h1 : i.toNat < n
    · rw [if_pos h1] at h; rw [if_pos (by omega)]; exact h
    · rw [if_neg h1] at h; cases h
  · rw [if_neg h0] at h ⊢; exact h
/-- o[i] = d, o a list of the store -/
def gI (o i : ME) : MG := fun d E S => (o E S).bind fun x S1 => (i E S1).bind fun k S2 => match x, k with
  | .loc n, .int k => (match S2[n]? with
    | some (.lst l) => (match ixD l.length k with
      | some j => .ok E (S2.set n (.lst (l.set j d)))
      | none => .bad)
    | _ => .bad)
  | _, _ => .bad
theorem gd_sub {o i : Expr} {mo mi : ME} (ho : ED X W o mo) (hi : ED X W i mi)
    (ha : ∀ v, assign (.Subscript o i pos) X.env v = (do
      let ov ← holding [v] (eval o X.env)
      let iv ← holding [v, ov] (eval i X.env)
      standAt pos
      holding [v, ov, iv] (setItem ov iv v)
      release [v, ov, iv] []) := by intro _; rfl) : GD X W (.Subscript o i pos) (gI mo mi) := by
  refine PG.imp (pg_sub ho hi set_list ha) fun v σ H Q ⟨ρ, S, E, d, r, er, dv, p⟩ => ?_
  refine ⟨ρ, S, E, r, er, (Post.bind (R := DV X.K) p).imp fun x H1 ⟨ρ1, S1, dx, r1, e1, d1, p1⟩ => ?_⟩
  refine ⟨ρ1, S1, E, r1, er.mono e1, (Post.bind (R := DV X.K) p1).imp fun k H2 ⟨ρ2, S2, dk, r2, e2, d2, p2⟩ => ?_⟩
  have d1' := DV.mono e2 _ _ d1
  have dv' := DV.mono (e1.trans e2) _ _ dv
  cases dx with
  | loc n =>
    cases dk with
    | int k =>
      rw [dv_int] at d2; subst d2
      simp only at p2
      cases hs : S2[n]? with
      | none => rw [hs] at p2; exact p2.elim
      | some ob =>
        cases ob with
        | lst l =>
          rw [hs] at p2
          simp only at p2
          cases hj : ixD l.length k with
          | none => rw [hj] at p2; exact p2.elim
          | some j =>
            rw [hj] at p2
            simp only [DV] at d1'
            obtain ⟨a, rfl, ha⟩ := d1'
            obtain ⟨us, h1, h2⟩ := r2.lst hs ha
            have w := Ext.write (K := X.K) (us := us.set j v) (List.mem_of_getElem? ha) h1
            exact ⟨a, us, k, j, rfl, rfl, h1, by rw [← h2.length]; exact ixD_ixN hj, p2 ρ2 _ _ (r2.write ha hs h1 (DVs.set dv' j h2)) w ((er.mono (e1.trans e2)).mono w)⟩
        | _ => rw [hs] at p2; exact p2.elim
    | _ => exact p2.elim
  | _ => exact p2.elim
theorem a_gI {o i : ME} {d : D} {E : Evn} {S : Sto} : gI o i d E S = (o E S).bind fun x S1 => (i E S1).bind fun k S2 => (match x, k with
  | .loc n, .int k => (match S2[n]? with
    | some (.lst l) => (match ixD l.length k with
      | some j => .ok E (S2.set n (.lst (l.set j d)))
      | none => .bad)
    | _ => .bad)
  | _, _ => .bad) := rfl
theorem g_listL {S : Sto} {xs : List D} : gList S [.lst xs] = some (.lst xs) := rfl
theorem g_listF {S : Sto} {xs : List D} : gList S [.fz xs] = some (.lst xs) := rfl
theorem g_listT {S : Sto} {xs : List D} : gList S [.tup xs] = some (.lst xs) := rfl
theorem g_tupL {S : Sto} {xs : List D} : gTuple S [.lst xs] = some (.tup xs) := rfl
theorem g_tupF {S : Sto} {xs : List D} : gTuple S [.fz xs] = some (.tup xs) := rfl
theorem g_tupT {S : Sto} {xs : List D} : gTuple S [.tup xs] = some (.tup xs) := rfl
end
end PD

/-! PyE3: constants of any form in the written part; range with a pace. -/
namespace PD
open PySem PySem.Spec PyProof PyProof.Rows L2
mutual
def datC (K : PySem.W.Frag) : D → Value → Bool
  | .non, v => match v with | .none => true | _ => false
  | .bl b, v => match v with | .bool c => c == b | _ => false
  | .int i, v => match v with | .int j _ => decide (j = i) | _ => false
  | .str x, v => match v with | .str y _ => decide (y = ⟨x.toArray⟩) | _ => false
  | .tup xs, v => match v with
    | .ref a => (match K.lookup a with
      | some o => decide (o.cls = .type "tuple") && (match o.data with | .seq its n => decide (its.size ≤ sizeLine) && datCs K xs its.toList | _ => false)
      | none => false)
    | _ => false
  | .fz xs, v => match v with
    | .ref a => (match K.lookup a with
      | some o => decide (o.cls = .type "list") && (o.dict.isNone && (match o.data with | .seq its n => decide (its.size ≤ sizeLine) && datCs K xs its.toList | _ => false))
      | none => false)
    | _ => false
  | .lst _, _ => false
  | .loc _, _ => false
  | .ty _, _ => false
  | .glo _, _ => false
  | .exo, _ => false
def datCs (K : PySem.W.Frag) : List D → List Value → Bool
  | [], vs => vs.isEmpty
  | x :: xs, vs => match vs with
    | [] => false
    | v :: vs => datC K x v && datCs K xs vs
end
mutual
theorem datC_ok {K : PySem.W.Frag} : ∀ (d : D) (v : Value), datC K d v = true → ∃ w, RelV w v ∧ ∀ ρ H, DV K ρ H d w
  | .non, v, h => by
    simp only [datC] at h
    split at h
    · exact ⟨.non, rfl, fun _ _ => by simp [DV]⟩
    · cases h
  | .bl b, v, h => by
    simp only [datC] at h
    split at h
    · rw [beq_iff_eq] at h; subst h; exact ⟨.bl _, rfl, fun _ _ => by simp [DV]⟩
    · cases h
  | .int i, v, h => by
    simp only [datC] at h
    split at h
    · rw [decide_eq_true_eq] at h; subst h; exact ⟨.int _, ⟨_, rfl⟩, fun _ _ => by simp [DV]⟩
    · cases h
  | .str x, v, h => by
    simp only [datC] at h
    split at h
    · rw [decide_eq_true_eq] at h; subst h; exact ⟨.str _, ⟨_, rfl⟩, fun _ _ => by simp [DV, sv]⟩
    · cases h
  | .tup xs, v, h => by
    simp only [datC] at h
    split at h
    · rename_i a
      split at h
      · rename_i o ho
        simp only [Bool.and_eq_true, decide_eq_true_eq] at h
        obtain ⟨h1, h2⟩ := h
        split at h2
        · rename_i its n hd
          simp only [Bool.and_eq_true, decide_eq_true_eq] at h2
          obtain ⟨ws, r, q⟩ := datCs_ok xs _ h2.2
          exact ⟨.ref a, rfl, fun ρ H => by simp only [DV]; exact ⟨a, ws, rfl, .inr ⟨o, its, n, ho, h1, hd, h2.1, r⟩, q ρ H⟩⟩
        · cases h2
      · cases h
    · cases h
  | .fz xs, v, h => by
    simp only [datC] at h
    split at h
    · rename_i a
      split at h
      · rename_i o ho
        simp only [Bool.and_eq_true, decide_eq_true_eq] at h
        obtain ⟨h1, h3, h2⟩ := h
        split at h2
        · rename_i its n hd
          simp only [Bool.and_eq_true, decide_eq_true_eq] at h2
          obtain ⟨ws, r, q⟩ := datCs_ok xs _ h2.2
          exact ⟨.ref a, rfl, fun ρ H => by simp only [DV]; exact ⟨a, ws, rfl, .inr ⟨o, its, n, ho, h1, by simpa using h3, hd, h2.1, r⟩, q ρ H⟩⟩
        · cases h2
      · cases h
    · cases h
  | .lst _, v, h => by simp [datC] at h
  | .loc _, v, h => by simp [datC] at h
  | .ty _, v, h => by simp [datC] at h
  | .glo _, v, h => by simp [datC] at h
  | .exo, v, h => by simp [datC] at h
theorem datCs_ok {K : PySem.W.Frag} : ∀ (ds : List D) (vs : List Value), datCs K ds vs = true → ∃ ws, Vals ws vs ∧ ∀ ρ H, DVs K ρ H ds ws
  | [], vs, h => by
    simp only [datCs, List.isEmpty_iff] at h
    subst h
    exact ⟨[], .nil, fun _ _ => by simp [DVs]⟩
  | x :: xs, vs, h => by
    cases vs with
    | nil => simp [datCs] at h
    | cons v vs =>
      simp only [datCs, Bool.and_eq_true] at h
      obtain ⟨w, r, q⟩ := datC_ok x v h.1
      obtain ⟨ws, r2, q2⟩ := datCs_ok xs vs h.2
      exact ⟨w :: ws, .cons r r2, fun ρ H => by simp only [DVs]; exact ⟨w, ws, rfl, q ρ H, q2 ρ H⟩⟩
end
/-- a constant under its name -/
def conC (K : PySem.W.Frag) (x : Str) (d : D) : Bool := match PySem.W.nsIn K mainGlobals x with
  | some (some v) => datC K d v
  | _ => false
theorem conC_ok {K : PySem.W.Frag} {h : Heap} {mg : Str → Option Value} (X : K.In h) (G : h.Ns mainGlobals mg) {x : Str} {d : D} (c : conC K x d = true) : GC K mg x d := by
  unfold conC at c
  split at c
  · rename_i v e
    obtain ⟨w, r, q⟩ := datC_ok d v c
    exact ⟨v, w, PySem.W.mg_of X G e, r, q⟩
  · cases c
section
variable {X : Cx} {W : WW X.K} {pos : Pos}
def rngC (lo c : Int) (n : Nat) : List D := (List.range n).map fun (i : Nat) => D.int (lo + (i : Int) * c)
def rgN (i j c : Int) : Nat := (Builtin.Range.rangeSize i j c).toNat
def rgOk (i j c : Int) : Prop := RgC i j c (rgN i j c)
def int3 : List D → Option (Int × Int × Int)
  | [.int i, .int j, .int k] => some (i, j, k)
  | _ => none
open Classical in
noncomputable def iRange3 (a : MA) : MI := fun E S => (a E S).bind fun ds S1 => match int3 ds with
  | some (i, j, c) => if rgOk i j c then .ok ⟨rngC i c (rgN i j c), none⟩ S1 else .bad
  | none => .bad
theorem walks_rangeC {K : PySem.W.Frag} {ρ : List Addr} {H : Hp} {lo c : Int} {n : Nat} : Walks K ρ H ⟨rngC lo c n, none⟩ (Itc lo c n) := by
  intro ρ1 S H1 r e _
  refine ⟨fun i d hd => ?_, by simp [rngC, Itc]⟩
  unfold rngC at hd
  rw [List.getElem?_map] at hd
  by_cases hi : i < n
  · rw [List.getElem?_eq_getElem (by simpa using hi)] at hd
    simp at hd
    subst hd
    refine ⟨hi, fun x H' hy => ?_⟩
    obtain ⟨rfl, rfl⟩ := hy
    exact ⟨r, Ext.refl, by simp [DV]⟩
  · rw [List.getElem?_eq_none (by simpa using hi)] at hd
    cases hd
theorem id_range3 {tg a b c : Expr} {ma : MA} {p : Pos} (hg : Gl X "range") (hm : X.mg "range" = none) (ha : AD X W [a, b, c] ma)
    (hs : starEach [a, b, c] X.env = (false, eval a X.env) :: starEach [b, c] X.env := by rfl) (hpl : (backTo pos (starEach [b, c] X.env)).any (·.1) = false := by rfl) : ID X W tg (.Call (.Name "range" p) [a, b, c] [] pos) (iRange3 ma) := by
  refine PI.impI (pi_range3 hg hm ha hs hpl) fun σ H R ρ S E r er p => ?_
  refine ⟨ρ, S, E, r, er, (Post.bind (R := DVs X.K) p).imp fun vs H1 ⟨ρ1, S1, ds, r1, e1, d1, p1⟩ => ?_⟩
  unfold int3 at p1
  split at p1
  · rename_i i j c q
    split at q
    · cases q
      have e : vs = [.int i, .int j, .int c] := by
        simp only [DVs, DV] at d1
        obtain ⟨v, r, rfl, rfl, w, q, rfl, rfl, u, t, rfl, rfl, rfl⟩ := d1
        rfl
      subst e
      by_cases hj : rgOk i j c
      · rw [if_pos hj] at p1
        exact ⟨i, j, c, _, rfl, hj, p1 ρ1 H1 _ r1 Ext.refl walks_rangeC⟩
      · rw [if_neg hj] at p1; exact p1.elim
    · cases q
  · exact p1.elim
open Classical in
theorem a_range3 {a : MA} {E : Evn} {S : Sto} : iRange3 a E S = (a E S).bind fun ds S1 => (match int3 ds with
  | some (i, j, c) => if rgOk i j c then .ok ⟨rngC i c (rgN i j c), none⟩ S1 else .bad
  | none => .bad) := rfl
theorem a_int3 {i j k : Int} : int3 [.int i, .int j, .int k] = some (i, j, k) := rfl
end
end PD
namespace PD
open PySem PySem.Spec PyProof PyProof.Rows L2
section
variable {S : Sto}
theorem g_ixLoc {n : Nat} {i : Int} : gIx S (.loc n) (.int i) = (match S[n]? with
  | some (.lst xs) => atD xs i
  | _ => none) := by
  simp only [gIx, seqF]
  cases S[n]? with
  | none => rfl
  | some o => cases o <;> rfl
theorem g_lenLoc' {n : Nat} : gLen S [.loc n] = (match S[n]? with
  | some (.lst xs) => some (.int xs.length)
  | _ => none) := by
  simp only [gLen, seqF]
  cases S[n]? with
  | none => rfl
  | some o => cases o <;> rfl
theorem ixD_0 {n : Nat} : ixD (n + 1) 0 = some 0 := rfl
theorem ixD_1 {n : Nat} : ixD (n + 2) 1 = some 1 := by unfold ixD; simp
theorem ixD_2 {n : Nat} : ixD (n + 3) 2 = some 2 := by unfold ixD; simp
theorem ixD_3 {n : Nat} : ixD (n + 4) 3 = some 3 := by unfold ixD; simp
theorem ixD_l1 {a b c d : D} {x : D} : ixD [a, b, c, d].length 1 = some 1 := rfl
end
end PD

namespace Law
open PySem PySem.Spec PyProof.Rows L2 PD
/-! ### the text by places -/
def top (i : Nat) : Stmt := PySem.Challenge.pw_cardwright_k05_decimals_without_bound.main.body.getD i (.Pass ⟨0, 0, 0, 0⟩)
abbrev s_normal : Stmt := top 2
abbrev s_power : Stmt := top 3
abbrev s_aligned : Stmt := top 4
abbrev s_add : Stmt := top 5
abbrev s_negative : Stmt := top 6
abbrev s_subtract : Stmt := top 7
abbrev s_multiply : Stmt := top 8
abbrev s_compare : Stmt := top 9
abbrev s_quotient : Stmt := top 10
abbrev s_units_at : Stmt := top 11
abbrev s_fits : Stmt := top 12
abbrev s_figures_of : Stmt := top 13
abbrev s_show : Stmt := top 14
abbrev s__law_draws : Stmt := top 16
abbrev s__law_draw : Stmt := top 17
abbrev s__law_same : Stmt := top 18
abbrev s__law_ten : Stmt := top 19
abbrev s__law_number : Stmt := top 20
abbrev s__law_least : Stmt := top 21
abbrev s__law_part : Stmt := top 22
abbrev s__law_text : Stmt := top 23
abbrev s_law : Stmt := top 24
/-- the defs as plain functions -/
structure Tab where
  normal : MF
  power : MF
  aligned : MF
  add : MF
  negative : MF
  subtract : MF
  multiply : MF
  compare : MF
  quotient : MF
  units_at : MF
  fits : MF
  figures_of : MF
  «show» : MF
  _law_draws : MF
  _law_draw : MF
  _law_same : MF
  _law_ten : MF
  _law_number : MF
  _law_least : MF
  _law_part : MF
  _law_text : MF
  law : MF
def Tab.bad : Tab := ⟨fun _ _ => .bad, fun _ _ => .bad, fun _ _ => .bad, fun _ _ => .bad, fun _ _ => .bad, fun _ _ => .bad, fun _ _ => .bad, fun _ _ => .bad, fun _ _ => .bad, fun _ _ => .bad, fun _ _ => .bad, fun _ _ => .bad, fun _ _ => .bad, fun _ _ => .bad, fun _ _ => .bad, fun _ _ => .bad, fun _ _ => .bad, fun _ _ => .bad, fun _ _ => .bad, fun _ _ => .bad, fun _ _ => .bad, fun _ _ => .bad⟩
/- ['units', 'scale'] -/
noncomputable def w_normal_1 (C : Tab) : MT := (mAnd (asB (mBin gGt (mVar 1) (mC (.int 0)))) (asB (mBin gEq (mBin gMul (mBin gDiv (mVar 0) (mC (.int 10))) (mC (.int 10))) (mVar 0))))
noncomputable def l_normal_1 (C : Tab) : MS := (mSeq (mSet 0 (mBin gDiv (mVar 0) (mC (.int 10))))
    (mAug 1 gMns (mC (.int 1))))
noncomputable def b_normal (C : Tab) : MS := (mSeq (mWhile (w_normal_1 C) (l_normal_1 C))
    (mRet (mTup (mCons (mVar 0) (mCons (mVar 1) mNil)))))
/- ['exponent', 'result', '_'] -/
noncomputable def l_power_1 (C : Tab) : MS := (mAug 1 gMul (mC (.int 10)))
noncomputable def b_power (C : Tab) : MS := (mSeq (mSet 1 (mC (.int 1)))
    (mSeq (mFor (iRange1 (mCons (mVar 0) mNil)) (gN 2) (l_power_1 C))
    (mRet (mVar 1))))
/- ['number', 'scale'] -/
noncomputable def b_aligned (C : Tab) : MS := (mRet (mBin gMul (mBin gIx (mVar 0) (mC (.int 0))) (mCall C.power (mCons (mBin gMns (mVar 1) (mBin gIx (mVar 0) (mC (.int 1)))) mNil))))
/- ['a', 'b', 'scale'] -/
noncomputable def b_add (C : Tab) : MS := (mSeq (mSet 2 (mB gMax2 (mCons (mBin gIx (mVar 0) (mC (.int 1))) (mCons (mBin gIx (mVar 1) (mC (.int 1))) mNil))))
    (mRet (mCall C.normal (mCons (mBin gAdd (mCall C.aligned (mCons (mVar 0) (mCons (mVar 2) mNil))) (mCall C.aligned (mCons (mVar 1) (mCons (mVar 2) mNil)))) (mCons (mVar 2) mNil)))))
/- ['a'] -/
noncomputable def b_negative (C : Tab) : MS := (mRet (mTup (mCons (mUn gNeg (mBin gIx (mVar 0) (mC (.int 0)))) (mCons (mBin gIx (mVar 0) (mC (.int 1))) mNil))))
/- ['a', 'b'] -/
noncomputable def b_subtract (C : Tab) : MS := (mRet (mCall C.add (mCons (mVar 0) (mCons (mCall C.negative (mCons (mVar 1) mNil)) mNil))))
/- ['a', 'b'] -/
noncomputable def b_multiply (C : Tab) : MS := (mRet (mCall C.normal (mCons (mBin gMul (mBin gIx (mVar 0) (mC (.int 0))) (mBin gIx (mVar 1) (mC (.int 0)))) (mCons (mBin gAdd (mBin gIx (mVar 0) (mC (.int 1))) (mBin gIx (mVar 1) (mC (.int 1)))) mNil))))
/- ['a', 'b', 'units'] -/
noncomputable def b_compare (C : Tab) : MS := (mSeq (mSet 2 (mBin gIx (mCall C.subtract (mCons (mVar 0) (mCons (mVar 1) mNil))) (mC (.int 0))))
    (mSeq (mIf (asB (mBin gEq (mVar 2) (mC (.int 0)))) (mRet (mC (.int 0))) mSkip)
    (mRet (mIfE (asB (mBin gGt (mVar 2) (mC (.int 0)))) (mC (.int 1)) (mUn gNeg (mC (.int 1)))))))
/- ['above', 'below', 'is_rounded', 'size'] -/
noncomputable def b_quotient (C : Tab) : MS := (mSeq (mSet 3 (mBin gDiv (mB gAbs (mCons (mVar 0) mNil)) (mB gAbs (mCons (mVar 1) mNil))))
    (mSeq (mIf (mAnd (asB (mVar 2)) (asB (mBin gGe (mBin gMul (mC (.int 2)) (mBin gMns (mB gAbs (mCons (mVar 0) mNil)) (mBin gMul (mVar 3) (mB gAbs (mCons (mVar 1) mNil))))) (mB gAbs (mCons (mVar 1) mNil))))) (mAug 3 gAddA (mC (.int 1))) mSkip)
    (mSeq (mIf (asB (mBin gNe (mBin gLt (mVar 0) (mC (.int 0))) (mBin gLt (mVar 1) (mC (.int 0))))) (mRet (mUn gNeg (mVar 3))) mSkip)
    (mRet (mVar 3)))))
/- ['a', 'scale', 'is_rounded'] -/
noncomputable def b_units_at (C : Tab) : MS := (mSeq (mIf (asB (mBin gLe (mBin gIx (mVar 0) (mC (.int 1))) (mVar 1))) (mRet (mCall C.aligned (mCons (mVar 0) (mCons (mVar 1) mNil)))) mSkip)
    (mRet (mCall C.quotient (mCons (mBin gIx (mVar 0) (mC (.int 0))) (mCons (mCall C.power (mCons (mBin gMns (mBin gIx (mVar 0) (mC (.int 1))) (mVar 1)) mNil)) (mCons (mVar 2) mNil))))))
/- ['units', 'digits'] -/
noncomputable def b_fits (C : Tab) : MS := (mRet (mBin gLt (mB gAbs (mCons (mVar 0) mNil)) (mCall C.power (mCons (mVar 1) mNil))))
/- ['number', 'chunk', 'parts'] -/
noncomputable def w_figures_of_1 (C : Tab) : MT := (asB (mBin gGe (mVar 0) (mVar 1)))
noncomputable def l_figures_of_1 (C : Tab) : MS := (mSeq (mDrop (mLM gAppend (mVar 2) (mCons (mSM gZfill (mB gStr (mCons (mBin gMns (mVar 0) (mBin gMul (mBin gDiv (mVar 0) (mVar 1)) (mVar 1))) mNil)) (mCons (mC (.int 1000)) mNil)) mNil)))
    (mSet 0 (mBin gDiv (mVar 0) (mVar 1))))
noncomputable def b_figures_of (C : Tab) : MS := (mSeq (mSet 1 (mCall C.power (mCons (mC (.int 1000)) mNil)))
    (mSeq (mSet 2 (mLoc mNil))
    (mSeq (mWhile (w_figures_of_1 C) (l_figures_of_1 C))
    (mSeq (mDrop (mLM gAppend (mVar 2) (mCons (mB gStr (mCons (mVar 0) mNil)) mNil)))
    (mRet (mSM gJoin (mC (.str [])) (mCons (mUn gRev (mVar 2)) mNil)))))))
/- ['a', 'figures', 'text', 'units', 'scale'] -/
noncomputable def q_show_1 (C : Tab) : MS := (mSeq (mIf (asB (mBin gLt (mVar 3) (mC (.int 0)))) (mRet (mBin gAdd (mC (.str [45])) (mVar 2))) mSkip)
    (mRet (mVar 2)))
noncomputable def b_show (C : Tab) : MS := (mSeq (mAsg (mVar 0) (gT 2 (gsCons (gN 3) (gsCons (gN 4) gsNil))))
    (mSeq (mSet 1 (mSM gZfill (mCall C.figures_of (mCons (mB gAbs (mCons (mVar 3) mNil)) mNil)) (mCons (mBin gAdd (mVar 4) (mC (.int 1))) mNil)))
    (mSeq (mSet 2 (mVar 1))
    (mSeq (mIf (asB (mBin gGt (mVar 4) (mC (.int 0)))) (mSet 2 (mBin gAdd (mBin gAdd (mSl gSl (mVar 1) mNoPart (mPart (mUn gNeg (mVar 4)))) (mC (.str [46]))) (mSl gSl (mVar 1) (mPart (mUn gNeg (mVar 4))) mNoPart))) mSkip)
    (q_show_1 C)))))
/- ['script'] -/
noncomputable def b__law_draws (C : Tab) : MS := (mRet (mLoc (mCons (mB gList (mCons (mVar 0) mNil)) (mCons (mC (.int 0)) (mCons (mC (.int 0)) (mCons (mC (.int 1)) mNil))))))
/- ['draws', 'limit', 'cell', 'value'] -/
noncomputable def b__law_draw (C : Tab) : MS := (mSeq (mIf (mAnd (asB (mBin gEq (mBin gIx (mVar 0) (mC (.int 2))) (mC (.int 0)))) (asB (mBin gLt (mBin gIx (mVar 0) (mC (.int 1))) (mB gLen (mCons (mBin gIx (mVar 0) (mC (.int 0))) mNil))))) (mSeq (mSet 2 (mBin gIx (mBin gIx (mVar 0) (mC (.int 0))) (mBin gIx (mVar 0) (mC (.int 1)))))
    (mSeq (mAsg (mBin gAdd (mBin gIx (mVar 0) (mC (.int 1))) (mC (.int 1))) (gI (mVar 0) (mC (.int 1))))
    (mSeq (mIf (asB (mBin gGe (mVar 2) (mBin gPow (mC (.int 10)) (mC (.int 18))))) (mAsg (mVar 2) (gI (mVar 0) (mC (.int 2)))) mSkip)
    (mAsg (mBin gMod (mB gIntA (mCons (mBin gAdd (mBin gAdd (mBin gMul (mBin gIx (mVar 0) (mC (.int 3))) (mC (.int 48271))) (mVar 2)) (mC (.int 13))) mNil)) (mC (.int 2147483647))) (gI (mVar 0) (mC (.int 3))))))) mSkip)
    (mSeq (mIf (asB (mBin gGt (mBin gIx (mVar 0) (mC (.int 2))) (mC (.int 0)))) (mSeq (mSet 3 (mBin gMod (mB gIntA (mCons (mBin gIx (mVar 0) (mC (.int 2))) mNil)) (mVar 1)))
    (mSeq (mAsg (mBin gDiv (mBin gIx (mVar 0) (mC (.int 2))) (mVar 1)) (gI (mVar 0) (mC (.int 2))))
    (mRet (mVar 3)))) mSkip)
    (mSeq (mAsg (mBin gMod (mB gIntA (mCons (mBin gAdd (mBin gMul (mBin gIx (mVar 0) (mC (.int 3))) (mC (.int 69621))) (mC (.int 7))) mNil)) (mC (.int 2147483629))) (gI (mVar 0) (mC (.int 3))))
    (mRet (mBin gMod (mB gIntA (mCons (mBin gDiv (mBin gIx (mVar 0) (mC (.int 3))) (mC (.int 11))) mNil)) (mVar 1))))))
/- ['actual', 'expected', 'k'] -/
noncomputable def l__law_same_1 (C : Tab) : MS := (mIf (mNot (asB (mCall C._law_same (mCons (mBin gIx (mVar 0) (mVar 2)) (mCons (mBin gIx (mVar 1) (mVar 2)) mNil))))) (mRet (mC (.bl false))) mSkip)
noncomputable def b__law_same (C : Tab) : MS := (mSeq (mIf (asB (mB gIsi (mCons (mVar 1) (mCons (mC (.ty "tuple")) mNil)))) (mSeq (mIf (mOr (mNot (asB (mB gIsi (mCons (mVar 0) (mCons (mC (.ty "tuple")) mNil))))) (asB (mBin gNe (mB gLen (mCons (mVar 0) mNil)) (mB gLen (mCons (mVar 1) mNil))))) (mRet (mC (.bl false))) mSkip)
    (mSeq (mFor (iRange1 (mCons (mB gLen (mCons (mVar 1) mNil)) mNil)) (gN 2) (l__law_same_1 C))
    (mRet (mC (.bl true))))) mSkip)
    (mSeq (mIf (asB (mB gIsi (mCons (mVar 1) (mCons (mC (.ty "str")) mNil)))) (mRet (mAndV (mB gIsi (mCons (mVar 0) (mCons (mC (.ty "str")) mNil))) (mBin gEq (mVar 0) (mVar 1)))) mSkip)
    (mSeq (mIf (asB (mBin gIsN (mVar 1) (mC .non))) (mRet (mBin gIsN (mVar 0) (mC .non))) mSkip)
    (mSeq (mIf (mOr (asB (mB gIsi (mCons (mVar 1) (mCons (mC (.ty "bool")) mNil)))) (asB (mB gIsi (mCons (mVar 0) (mCons (mC (.ty "bool")) mNil))))) (mRet (mAndV (mB gIsi (mCons (mVar 1) (mCons (mC (.ty "bool")) mNil))) (mAndV (mB gIsi (mCons (mVar 0) (mCons (mC (.ty "bool")) mNil))) (mBin gEq (mVar 0) (mVar 1))))) mSkip)
    (mRet (mAndV (mB gIsi (mCons (mVar 0) (mCons (mC (.ty "int")) mNil))) (mBin gEq (mVar 0) (mVar 1))))))))
/- ['scale'] -/
noncomputable def b__law_ten (C : Tab) : MS := (mRet (mB gIntA (mCons (mBin gAdd (mC (.str [49])) (mBin gMulA (mC (.str [48])) (mVar 0))) mNil)))
/- ['draws', 'figures', 'units', 'k'] -/
noncomputable def l__law_number_1 (C : Tab) : MS := (mSet 2 (mBin gAdd (mBin gMul (mVar 2) (mBin gPow (mC (.int 10)) (mC (.int 9)))) (mCall C._law_draw (mCons (mVar 0) (mCons (mBin gPow (mC (.int 10)) (mC (.int 9))) mNil)))))
noncomputable def q__law_number_1 (C : Tab) : MS := (mSeq (mIf (asB (mBin gEq (mCall C._law_draw (mCons (mVar 0) (mCons (mC (.int 2)) mNil))) (mC (.int 0)))) (mSet 2 (mUn gNeg (mVar 2))) mSkip)
    (mRet (mTup (mCons (mVar 2) (mCons (mCall C._law_draw (mCons (mVar 0) (mCons (mBin gIx (mLst (mCons (mC (.int 20)) (mCons (mC (.int 300)) mNil))) (mCall C._law_draw (mCons (mVar 0) (mCons (mC (.int 2)) mNil)))) mNil))) mNil)))))
noncomputable def b__law_number (C : Tab) : MS := (mSeq (mSet 1 (mBin gAdd (mC (.int 1)) (mCall C._law_draw (mCons (mVar 0) (mCons (mBin gIx (mLst (mCons (mC (.int 30)) (mCons (mC (.int 400)) mNil))) (mCall C._law_draw (mCons (mVar 0) (mCons (mC (.int 2)) mNil)))) mNil)))))
    (mSeq (mSet 2 (mC (.int 0)))
    (mSeq (mFor (iRange3 (mCons (mC (.int 0)) (mCons (mVar 1) (mCons (mC (.int 9)) mNil)))) (gN 3) (l__law_number_1 C))
    (mSeq (mSet 2 (mBin gMul (mVar 2) (mCall C._law_ten (mCons (mBin gMul (mCall C._law_draw (mCons (mVar 0) (mCons (mC (.int 4)) mNil))) (mCall C._law_draw (mCons (mVar 0) (mCons (mC (.int 20)) mNil)))) mNil))))
    (q__law_number_1 C)))))
/- ['units', 'scale', 'k'] -/
noncomputable def l__law_least_1 (C : Tab) : MS := (mSeq (mIf (asB (mBin gNe (mBin gMod (mB gIntA (mCons (mVar 0) mNil)) (mC (.int 10))) (mC (.int 0)))) (mRet (mTup (mCons (mVar 0) (mCons (mVar 1) mNil)))) mSkip)
    (mSeq (mSet 0 (mBin gDiv (mVar 0) (mC (.int 10))))
    (mSet 1 (mBin gMns (mVar 1) (mC (.int 1))))))
noncomputable def b__law_least (C : Tab) : MS := (mSeq (mFor (iRange1 (mCons (mVar 1) mNil)) (gN 2) (l__law_least_1 C))
    (mRet (mTup (mCons (mVar 0) (mCons (mVar 1) mNil)))))
/- ['above', 'below', 'is_rounded', 'size'] -/
noncomputable def b__law_part (C : Tab) : MS := (mSeq (mSet 3 (mBin gDiv (mB gAbs (mCons (mVar 0) mNil)) (mVar 1)))
    (mSeq (mIf (mAnd (asB (mVar 2)) (asB (mBin gGe (mBin gMul (mC (.int 2)) (mBin gMns (mB gAbs (mCons (mVar 0) mNil)) (mBin gMul (mVar 3) (mVar 1)))) (mVar 1)))) (mSet 3 (mBin gAdd (mVar 3) (mC (.int 1)))) mSkip)
    (mRet (mIfE (asB (mBin gLt (mVar 0) (mC (.int 0)))) (mUn gNeg (mVar 3)) (mVar 3)))))
/- ['number', 'figures'] -/
noncomputable def b__law_text (C : Tab) : MS := (mSeq (mSet 1 (mB gStr (mCons (mB gAbs (mCons (mBin gIx (mVar 0) (mC (.int 0))) mNil)) mNil)))
    (mSeq (mSet 1 (mBin gAdd (mBin gMulA (mC (.str [48])) (mBin gMns (mBin gAdd (mBin gIx (mVar 0) (mC (.int 1))) (mC (.int 1))) (mB gLen (mCons (mVar 1) mNil)))) (mVar 1)))
    (mSeq (mIf (asB (mBin gGt (mBin gIx (mVar 0) (mC (.int 1))) (mC (.int 0)))) (mSet 1 (mBin gAdd (mBin gAdd (mSl gSl (mVar 1) mNoPart (mPart (mBin gMns (mB gLen (mCons (mVar 1) mNil)) (mBin gIx (mVar 0) (mC (.int 1)))))) (mC (.str [46]))) (mSl gSl (mVar 1) (mPart (mBin gMns (mB gLen (mCons (mVar 1) mNil)) (mBin gIx (mVar 0) (mC (.int 1))))) mNoPart))) mSkip)
    (mRet (mIfE (asB (mBin gLt (mBin gIx (mVar 0) (mC (.int 0))) (mC (.int 0)))) (mBin gAdd (mC (.str [45])) (mVar 1)) (mVar 1))))))
/- ['script', 'draws', 'raw', 'a', 'other', 'b', 'left', 'right', 'scale', 'found', 'due', 'sign', 'more', 'figures', 'place', 'top', 'cut'] -/
noncomputable def q_law_1 (C : Tab) : MS := (mSeq (mIf (mNot (asB (mCall C._law_same (mCons (mTup (mCons (mCall C.aligned (mCons (mVar 3) (mCons (mBin gAdd (mBin gIx (mVar 3) (mC (.int 1))) (mVar 12)) mNil))) (mCons (mCall C.fits (mCons (mBin gIx (mVar 3) (mC (.int 0))) (mCons (mVar 13) mNil))) mNil))) (mCons (mTup (mCons (mBin gMul (mBin gIx (mVar 3) (mC (.int 0))) (mCall C._law_ten (mCons (mVar 12) mNil))) (mCons (mBin gLt (mB gAbs (mCons (mBin gIx (mVar 3) (mC (.int 0))) mNil)) (mCall C._law_ten (mCons (mVar 13) mNil))) mNil))) mNil))))) (mRet (mC (.bl false))) mSkip)
    (mSeq (mSet 14 (mCall C._law_draw (mCons (mVar 1) (mCons (mC (.int 300)) mNil))))
    (mSeq (mSet 15 (mBin gMul (mBin gIx (mVar 3) (mC (.int 0))) (mCall C._law_ten (mCons (mVar 14) mNil))))
    (mSeq (mSet 16 (mTup (mCons (mCall C._law_part (mCons (mVar 15) (mCons (mCall C._law_ten (mCons (mBin gIx (mVar 3) (mC (.int 1))) mNil)) (mCons (mC (.bl false)) mNil)))) (mCons (mCall C._law_part (mCons (mVar 15) (mCons (mCall C._law_ten (mCons (mBin gIx (mVar 3) (mC (.int 1))) mNil)) (mCons (mC (.bl true)) mNil)))) mNil))))
    (mRet (mCall C._law_same (mCons (mTup (mCons (mCall C.units_at (mCons (mVar 3) (mCons (mVar 14) (mCons (mC (.bl false)) mNil)))) (mCons (mCall C.units_at (mCons (mVar 3) (mCons (mVar 14) (mCons (mC (.bl true)) mNil)))) mNil))) (mCons (mVar 16) mNil))))))))
noncomputable def q_law_2 (C : Tab) : MS := (mSeq (mSet 11 (mBin gMns (mB gIntA (mCons (mBin gGt (mVar 6) (mVar 7)) mNil)) (mB gIntA (mCons (mBin gLt (mVar 6) (mVar 7)) mNil))))
    (mSeq (mIf (mNot (asB (mCall C._law_same (mCons (mTup (mCons (mCall C.compare (mCons (mVar 3) (mCons (mVar 5) mNil))) (mCons (mCall C.compare (mCons (mVar 5) (mCons (mVar 3) mNil))) (mCons (mCall C.«show» (mCons (mVar 3) mNil)) mNil)))) (mCons (mTup (mCons (mVar 11) (mCons (mUn gNeg (mVar 11)) (mCons (mCall C._law_text (mCons (mVar 3) mNil)) mNil)))) mNil))))) (mRet (mC (.bl false))) mSkip)
    (mSeq (mSet 12 (mCall C._law_draw (mCons (mVar 1) (mCons (mC (.int 50)) mNil))))
    (mSeq (mSet 13 (mCall C._law_draw (mCons (mVar 1) (mCons (mC (.int 450)) mNil))))
    (q_law_1 C)))))
noncomputable def q_law_3 (C : Tab) : MS := (mSeq (mSet 8 (mBin gAdd (mBin gIx (mVar 3) (mC (.int 1))) (mBin gIx (mVar 5) (mC (.int 1)))))
    (mSeq (mSet 9 (mTup (mCons (mCall C.normal (mCons (mBin gIx (mVar 2) (mC (.int 0))) (mCons (mBin gIx (mVar 2) (mC (.int 1))) mNil))) (mCons (mCall C.add (mCons (mVar 3) (mCons (mVar 5) mNil))) (mCons (mCall C.subtract (mCons (mVar 3) (mCons (mVar 5) mNil))) (mCons (mCall C.multiply (mCons (mVar 3) (mCons (mVar 5) mNil))) (mCons (mCall C.negative (mCons (mVar 3) mNil)) mNil)))))))
    (mSeq (mSet 10 (mTup (mCons (mVar 3) (mCons (mCall C._law_least (mCons (mBin gAdd (mVar 6) (mVar 7)) (mCons (mVar 8) mNil))) (mCons (mCall C._law_least (mCons (mBin gMns (mVar 6) (mVar 7)) (mCons (mVar 8) mNil))) (mCons (mCall C._law_least (mCons (mBin gMul (mBin gIx (mVar 3) (mC (.int 0))) (mBin gIx (mVar 5) (mC (.int 0)))) (mCons (mVar 8) mNil))) (mCons (mTup (mCons (mUn gNeg (mBin gIx (mVar 3) (mC (.int 0)))) (mCons (mBin gIx (mVar 3) (mC (.int 1))) mNil))) mNil)))))))
    (mSeq (mIf (mNot (asB (mCall C._law_same (mCons (mVar 9) (mCons (mVar 10) mNil))))) (mRet (mC (.bl false))) mSkip)
    (q_law_2 C)))))
noncomputable def q_law_4 (C : Tab) : MS := (mSeq (mSet 5 (mCall C._law_least (mCons (mBin gIx (mVar 4) (mC (.int 0))) (mCons (mBin gIx (mVar 4) (mC (.int 1))) mNil))))
    (mSeq (mIf (asB (mBin gEq (mCall C._law_draw (mCons (mVar 1) (mCons (mC (.int 3)) mNil))) (mC (.int 0)))) (mSeq (mSet 8 (mBin gAdd (mBin gIx (mVar 3) (mC (.int 1))) (mCall C._law_draw (mCons (mVar 1) (mCons (mC (.int 4)) mNil)))))
    (mSet 5 (mCall C._law_least (mCons (mBin gMns (mBin gAdd (mBin gMul (mBin gIx (mVar 3) (mC (.int 0))) (mCall C._law_ten (mCons (mBin gMns (mVar 8) (mBin gIx (mVar 3) (mC (.int 1)))) mNil))) (mCall C._law_draw (mCons (mVar 1) (mCons (mC (.int 3)) mNil)))) (mC (.int 1))) (mCons (mVar 8) mNil))))) mSkip)
    (mSeq (mSet 6 (mBin gMul (mBin gIx (mVar 3) (mC (.int 0))) (mCall C._law_ten (mCons (mBin gIx (mVar 5) (mC (.int 1))) mNil))))
    (mSeq (mSet 7 (mBin gMul (mBin gIx (mVar 5) (mC (.int 0))) (mCall C._law_ten (mCons (mBin gIx (mVar 3) (mC (.int 1))) mNil))))
    (q_law_3 C)))))
noncomputable def b_law (C : Tab) : MS := (mSeq (mSet 1 (mCall C._law_draws (mCons (mVar 0) mNil)))
    (mSeq (mSet 2 (mCall C._law_number (mCons (mVar 1) mNil)))
    (mSeq (mSet 3 (mCall C._law_least (mCons (mBin gIx (mVar 2) (mC (.int 0))) (mCons (mBin gIx (mVar 2) (mC (.int 1))) mNil))))
    (mSeq (mSet 4 (mCall C._law_number (mCons (mVar 1) mNil)))
    (q_law_4 C)))))
noncomputable def step (C : Tab) : Tab where
  normal := runB 2 (b_normal C)
  power := runB 3 (b_power C)
  aligned := runB 2 (b_aligned C)
  add := runB 3 (b_add C)
  negative := runB 1 (b_negative C)
  subtract := runB 2 (b_subtract C)
  multiply := runB 2 (b_multiply C)
  compare := runB 3 (b_compare C)
  quotient := runB 4 (b_quotient C)
  units_at := runB 3 (b_units_at C)
  fits := runB 2 (b_fits C)
  figures_of := runT 3 (b_figures_of C)
  «show» := runB 5 (b_show C)
  _law_draws := runT 1 (b__law_draws C)
  _law_draw := runB 4 (b__law_draw C)
  _law_same := runB 3 (b__law_same C)
  _law_ten := runB 1 (b__law_ten C)
  _law_number := runB 4 (b__law_number C)
  _law_least := runB 3 (b__law_least C)
  _law_part := runB 4 (b__law_part C)
  _law_text := runB 2 (b__law_text C)
  law := runB 17 (b_law C)
noncomputable def T : Nat → Tab
  | 0 => Tab.bad
  | k + 1 => step (T k)
theorem T_succ (k : Nat) : T (k + 1) = step (T k) := rfl
theorem T_normal (k : Nat) : (T (k + 1)).normal = runB 2 (b_normal (T k)) := by rw [T_succ]; unfold step; rfl
theorem T_power (k : Nat) : (T (k + 1)).power = runB 3 (b_power (T k)) := by rw [T_succ]; unfold step; rfl
theorem T_aligned (k : Nat) : (T (k + 1)).aligned = runB 2 (b_aligned (T k)) := by rw [T_succ]; unfold step; rfl
theorem T_add (k : Nat) : (T (k + 1)).add = runB 3 (b_add (T k)) := by rw [T_succ]; unfold step; rfl
theorem T_negative (k : Nat) : (T (k + 1)).negative = runB 1 (b_negative (T k)) := by rw [T_succ]; unfold step; rfl
theorem T_subtract (k : Nat) : (T (k + 1)).subtract = runB 2 (b_subtract (T k)) := by rw [T_succ]; unfold step; rfl
theorem T_multiply (k : Nat) : (T (k + 1)).multiply = runB 2 (b_multiply (T k)) := by rw [T_succ]; unfold step; rfl
theorem T_compare (k : Nat) : (T (k + 1)).compare = runB 3 (b_compare (T k)) := by rw [T_succ]; unfold step; rfl
theorem T_quotient (k : Nat) : (T (k + 1)).quotient = runB 4 (b_quotient (T k)) := by rw [T_succ]; unfold step; rfl
theorem T_units_at (k : Nat) : (T (k + 1)).units_at = runB 3 (b_units_at (T k)) := by rw [T_succ]; unfold step; rfl
theorem T_fits (k : Nat) : (T (k + 1)).fits = runB 2 (b_fits (T k)) := by rw [T_succ]; unfold step; rfl
theorem T_figures_of (k : Nat) : (T (k + 1)).figures_of = runT 3 (b_figures_of (T k)) := by rw [T_succ]; unfold step; rfl
theorem T_show (k : Nat) : (T (k + 1)).«show» = runB 5 (b_show (T k)) := by rw [T_succ]; unfold step; rfl
theorem T__law_draws (k : Nat) : (T (k + 1))._law_draws = runT 1 (b__law_draws (T k)) := by rw [T_succ]; unfold step; rfl
theorem T__law_draw (k : Nat) : (T (k + 1))._law_draw = runB 4 (b__law_draw (T k)) := by rw [T_succ]; unfold step; rfl
theorem T__law_same (k : Nat) : (T (k + 1))._law_same = runB 3 (b__law_same (T k)) := by rw [T_succ]; unfold step; rfl
theorem T__law_ten (k : Nat) : (T (k + 1))._law_ten = runB 1 (b__law_ten (T k)) := by rw [T_succ]; unfold step; rfl
theorem T__law_number (k : Nat) : (T (k + 1))._law_number = runB 4 (b__law_number (T k)) := by rw [T_succ]; unfold step; rfl
theorem T__law_least (k : Nat) : (T (k + 1))._law_least = runB 3 (b__law_least (T k)) := by rw [T_succ]; unfold step; rfl
theorem T__law_part (k : Nat) : (T (k + 1))._law_part = runB 4 (b__law_part (T k)) := by rw [T_succ]; unfold step; rfl
theorem T__law_text (k : Nat) : (T (k + 1))._law_text = runB 2 (b__law_text (T k)) := by rw [T_succ]; unfold step; rfl
theorem T_law (k : Nat) : (T (k + 1)).law = runB 17 (b_law (T k)) := by rw [T_succ]; unfold step; rfl
/-- what the module's names stand for -/
structure Gs (P : Program) (w : World) (K : PySem.W.Frag) (mg : Str → Option Value) (base : Heap) (k : Nat) (C : Tab) : Prop where
  c_normal : CallF P w K mg base k "normal" 2 C.normal
  c_power : CallF P w K mg base k "power" 1 C.power
  c_aligned : CallF P w K mg base k "aligned" 2 C.aligned
  c_add : CallF P w K mg base k "add" 2 C.add
  c_negative : CallF P w K mg base k "negative" 1 C.negative
  c_subtract : CallF P w K mg base k "subtract" 2 C.subtract
  c_multiply : CallF P w K mg base k "multiply" 2 C.multiply
  c_compare : CallF P w K mg base k "compare" 2 C.compare
  c_quotient : CallF P w K mg base k "quotient" 3 C.quotient
  c_units_at : CallF P w K mg base k "units_at" 3 C.units_at
  c_fits : CallF P w K mg base k "fits" 2 C.fits
  c_figures_of : CallF P w K mg base k "figures_of" 1 C.figures_of
  c_show : CallF P w K mg base k "show" 1 C.«show»
  c__law_draws : CallF P w K mg base k "_law_draws" 1 C._law_draws
  c__law_draw : CallF P w K mg base k "_law_draw" 2 C._law_draw
  c__law_same : CallF P w K mg base k "_law_same" 2 C._law_same
  c__law_ten : CallF P w K mg base k "_law_ten" 1 C._law_ten
  c__law_number : CallF P w K mg base k "_law_number" 1 C._law_number
  c__law_least : CallF P w K mg base k "_law_least" 2 C._law_least
  c__law_part : CallF P w K mg base k "_law_part" 3 C._law_part
  c__law_text : CallF P w K mg base k "_law_text" 1 C._law_text
  c_law : CallF P w K mg base k "law" 1 C.law
  f_abs : mg "abs" = none
  f_bool : mg "bool" = none
  f_int : mg "int" = none
  f_isinstance : mg "isinstance" = none
  f_len : mg "len" = none
  f_list : mg "list" = none
  f_max : mg "max" = none
  f_range : mg "range" = none
  f_str : mg "str" = none
  f_tuple : mg "tuple" = none
  k_CHUNK : GC K mg "CHUNK" (.int 1000)
theorem sc_normal : FnScope ["units", "scale"] ["units", "scale"] (defScope s_normal) := ⟨rfl, rfl, rfl, by decide +kernel, rfl, by decide +kernel, by decide +kernel⟩
theorem d_normal {P : Program} {w : World} {K : PySem.W.Frag} {mg : Str → Option Value} {base : Heap} {k : Nat} {C : Tab} {f : Addr} {cdv : Value} {A : Around} {outer : List Env} {s : Shared} {H : Hp} {E : XK}
    (g : Gs P w K mg base k C) (hr : Room k (A.deeper (envOfC "normal" (defScope s_normal) s.heap.objs.size f cdv))) :
    BD (cxOf (L2.CX P w) P w K mg base ["units", "scale"] "normal" (defScope s_normal) f cdv A outer s H E) (WW.of (K := K) fun c d _ H => E c d H) (defBody s_normal) (b_normal C) := by
  have sc := sc_normal
  have tk : Takes (cxOf (L2.CX P w) P w K mg base ["units", "scale"] "normal" (defScope s_normal) f cdv A outer s H E) (fun c d _ H => E c d H) := takes_of rfl rfl rfl rfl
  have po := passes_of (X := cxOf (L2.CX P w) P w K mg base ["units", "scale"] "normal" (defScope s_normal) f cdv A outer s H E) rfl
  have hu := hr.units
  have hv := room65 hr
  exact (bd_cons (sd_while po (td_w (wd_and (td_cmp op_gtD rp_gt (ed_var (pv 1)) ed_int (nomark _)) (wd_and1 (td_cmp (op_eqA hu) rp_eq (ed_bin op_mulD rp_mul (ed_bin op_fdivW rp_div (ed_var (pv 0)) ed_int) ed_int) (ed_var (pv 0)) (nomark _))))) (bd_cons (sd_set (i := 0) sc.nd rfl (Or.inl rfl) (ed_bin op_fdivW rp_div (ed_var (pv 0)) ed_int))
    (bd_one (sd_aug (i := 1) sc.nd rfl (Or.inl rfl) ed_int ip_sub rp_isub))))
    (bd_one (sd_ret (ed_tup (ad_cons (ed_var (pv 0)) (ad_cons (ed_var (pv 1)) ad_nil))))))
theorem sc_power : FnScope ["exponent", "result", "_"] ["exponent"] (defScope s_power) := ⟨rfl, rfl, rfl, by decide +kernel, rfl, by decide +kernel, by decide +kernel⟩
theorem d_power {P : Program} {w : World} {K : PySem.W.Frag} {mg : Str → Option Value} {base : Heap} {k : Nat} {C : Tab} {f : Addr} {cdv : Value} {A : Around} {outer : List Env} {s : Shared} {H : Hp} {E : XK}
    (g : Gs P w K mg base k C) (hr : Room k (A.deeper (envOfC "power" (defScope s_power) s.heap.objs.size f cdv))) :
    BD (cxOf (L2.CX P w) P w K mg base ["exponent", "result", "_"] "power" (defScope s_power) f cdv A outer s H E) (WW.of (K := K) fun c d _ H => E c d H) (defBody s_power) (b_power C) := by
  have sc := sc_power
  have tk : Takes (cxOf (L2.CX P w) P w K mg base ["exponent", "result", "_"] "power" (defScope s_power) f cdv A outer s H E) (fun c d _ H => E c d H) := takes_of rfl rfl rfl rfl
  have po := passes_of (X := cxOf (L2.CX P w) P w K mg base ["exponent", "result", "_"] "power" (defScope s_power) f cdv A outer s H E) rfl
  have hu := hr.units
  have hv := room65 hr
  exact (bd_cons (sd_set (i := 1) sc.nd rfl (Or.inl rfl) ed_int)
    (bd_cons (sd_for po rfl (id_range1 rfl g.f_range (ad_cons (ed_var (pv 0)) ad_nil)) (gd_name (pg_name (i := 2) sc.nd rfl (Or.inl rfl))) (bd_one (sd_aug (i := 1) sc.nd rfl (Or.inl rfl) ed_int (ipR iop_mulD) rp_imul)))
    (bd_one (sd_ret (ed_var (pv 1))))))
theorem sc_aligned : FnScope ["number", "scale"] ["number", "scale"] (defScope s_aligned) := ⟨rfl, rfl, rfl, by decide +kernel, rfl, by decide +kernel, by decide +kernel⟩
theorem d_aligned {P : Program} {w : World} {K : PySem.W.Frag} {mg : Str → Option Value} {base : Heap} {k : Nat} {C : Tab} {f : Addr} {cdv : Value} {A : Around} {outer : List Env} {s : Shared} {H : Hp} {E : XK}
    (g : Gs P w K mg base k C) (hr : Room k (A.deeper (envOfC "aligned" (defScope s_aligned) s.heap.objs.size f cdv))) :
    BD (cxOf (L2.CX P w) P w K mg base ["number", "scale"] "aligned" (defScope s_aligned) f cdv A outer s H E) (WW.of (K := K) fun c d _ H => E c d H) (defBody s_aligned) (b_aligned C) := by
  have sc := sc_aligned
  have tk : Takes (cxOf (L2.CX P w) P w K mg base ["number", "scale"] "aligned" (defScope s_aligned) f cdv A outer s H E) (fun c d _ H => E c d H) := takes_of rfl rfl rfl rfl
  have po := passes_of (X := cxOf (L2.CX P w) P w K mg base ["number", "scale"] "aligned" (defScope s_aligned) f cdv A outer s H E) rfl
  have hu := hr.units
  have hv := room65 hr
  exact (bd_one (sd_ret (ed_bin op_mulD rp_mul (ed_ix ix_seq rp_ix (ed_var (pv 0)) ed_int (fun _ _ => rfl)) (ed_call g.c_power hr tk rfl (ad_cons (ed_bin op_sub rp_sub (ed_var (pv 1)) (ed_ix ix_seq rp_ix (ed_var (pv 0)) ed_int (fun _ _ => rfl))) ad_nil) (len_cons len_nil)))))
theorem sc_add : FnScope ["a", "b", "scale"] ["a", "b"] (defScope s_add) := ⟨rfl, rfl, rfl, by decide +kernel, rfl, by decide +kernel, by decide +kernel⟩
theorem d_add {P : Program} {w : World} {K : PySem.W.Frag} {mg : Str → Option Value} {base : Heap} {k : Nat} {C : Tab} {f : Addr} {cdv : Value} {A : Around} {outer : List Env} {s : Shared} {H : Hp} {E : XK}
    (g : Gs P w K mg base k C) (hr : Room k (A.deeper (envOfC "add" (defScope s_add) s.heap.objs.size f cdv))) :
    BD (cxOf (L2.CX P w) P w K mg base ["a", "b", "scale"] "add" (defScope s_add) f cdv A outer s H E) (WW.of (K := K) fun c d _ H => E c d H) (defBody s_add) (b_add C) := by
  have sc := sc_add
  have tk : Takes (cxOf (L2.CX P w) P w K mg base ["a", "b", "scale"] "add" (defScope s_add) f cdv A outer s H E) (fun c d _ H => E c d H) := takes_of rfl rfl rfl rfl
  have po := passes_of (X := cxOf (L2.CX P w) P w K mg base ["a", "b", "scale"] "add" (defScope s_add) f cdv A outer s H E) rfl
  have hu := hr.units
  have hv := room65 hr
  exact (bd_cons (sd_set (i := 2) sc.nd rfl (Or.inl rfl) (ed_callB (call_max2 rfl) rp_max2 rfl g.f_max boot_max (ad_cons (ed_ix ix_seq rp_ix (ed_var (pv 0)) ed_int (fun _ _ => rfl)) (ad_cons (ed_ix ix_seq rp_ix (ed_var (pv 1)) ed_int (fun _ _ => rfl)) ad_nil))))
    (bd_one (sd_ret (ed_call g.c_normal hr tk rfl (ad_cons (ed_bin op_addD rp_add (ed_call g.c_aligned hr tk rfl (ad_cons (ed_var (pv 0)) (ad_cons (ed_var (pv 2)) ad_nil)) (len_cons (len_cons len_nil))) (ed_call g.c_aligned hr tk rfl (ad_cons (ed_var (pv 1)) (ad_cons (ed_var (pv 2)) ad_nil)) (len_cons (len_cons len_nil)))) (ad_cons (ed_var (pv 2)) ad_nil)) (len_cons (len_cons len_nil))))))
theorem sc_negative : FnScope ["a"] ["a"] (defScope s_negative) := ⟨rfl, rfl, rfl, by decide +kernel, rfl, by decide +kernel, by decide +kernel⟩
theorem d_negative {P : Program} {w : World} {K : PySem.W.Frag} {mg : Str → Option Value} {base : Heap} {k : Nat} {C : Tab} {f : Addr} {cdv : Value} {A : Around} {outer : List Env} {s : Shared} {H : Hp} {E : XK}
    (g : Gs P w K mg base k C) (hr : Room k (A.deeper (envOfC "negative" (defScope s_negative) s.heap.objs.size f cdv))) :
    BD (cxOf (L2.CX P w) P w K mg base ["a"] "negative" (defScope s_negative) f cdv A outer s H E) (WW.of (K := K) fun c d _ H => E c d H) (defBody s_negative) (b_negative C) := by
  have sc := sc_negative
  have tk : Takes (cxOf (L2.CX P w) P w K mg base ["a"] "negative" (defScope s_negative) f cdv A outer s H E) (fun c d _ H => E c d H) := takes_of rfl rfl rfl rfl
  have po := passes_of (X := cxOf (L2.CX P w) P w K mg base ["a"] "negative" (defScope s_negative) f cdv A outer s H E) rfl
  have hu := hr.units
  have hv := room65 hr
  exact (bd_one (sd_ret (ed_tup (ad_cons (ed_un un_neg rp_neg (ed_ix ix_seq rp_ix (ed_var (pv 0)) ed_int (fun _ _ => rfl))) (ad_cons (ed_ix ix_seq rp_ix (ed_var (pv 0)) ed_int (fun _ _ => rfl)) ad_nil)))))
theorem sc_subtract : FnScope ["a", "b"] ["a", "b"] (defScope s_subtract) := ⟨rfl, rfl, rfl, by decide +kernel, rfl, by decide +kernel, by decide +kernel⟩
theorem d_subtract {P : Program} {w : World} {K : PySem.W.Frag} {mg : Str → Option Value} {base : Heap} {k : Nat} {C : Tab} {f : Addr} {cdv : Value} {A : Around} {outer : List Env} {s : Shared} {H : Hp} {E : XK}
    (g : Gs P w K mg base k C) (hr : Room k (A.deeper (envOfC "subtract" (defScope s_subtract) s.heap.objs.size f cdv))) :
    BD (cxOf (L2.CX P w) P w K mg base ["a", "b"] "subtract" (defScope s_subtract) f cdv A outer s H E) (WW.of (K := K) fun c d _ H => E c d H) (defBody s_subtract) (b_subtract C) := by
  have sc := sc_subtract
  have tk : Takes (cxOf (L2.CX P w) P w K mg base ["a", "b"] "subtract" (defScope s_subtract) f cdv A outer s H E) (fun c d _ H => E c d H) := takes_of rfl rfl rfl rfl
  have po := passes_of (X := cxOf (L2.CX P w) P w K mg base ["a", "b"] "subtract" (defScope s_subtract) f cdv A outer s H E) rfl
  have hu := hr.units
  have hv := room65 hr
  exact (bd_one (sd_ret (ed_call g.c_add hr tk rfl (ad_cons (ed_var (pv 0)) (ad_cons (ed_call g.c_negative hr tk rfl (ad_cons (ed_var (pv 1)) ad_nil) (len_cons len_nil)) ad_nil)) (len_cons (len_cons len_nil)))))
theorem sc_multiply : FnScope ["a", "b"] ["a", "b"] (defScope s_multiply) := ⟨rfl, rfl, rfl, by decide +kernel, rfl, by decide +kernel, by decide +kernel⟩
theorem d_multiply {P : Program} {w : World} {K : PySem.W.Frag} {mg : Str → Option Value} {base : Heap} {k : Nat} {C : Tab} {f : Addr} {cdv : Value} {A : Around} {outer : List Env} {s : Shared} {H : Hp} {E : XK}
    (g : Gs P w K mg base k C) (hr : Room k (A.deeper (envOfC "multiply" (defScope s_multiply) s.heap.objs.size f cdv))) :
    BD (cxOf (L2.CX P w) P w K mg base ["a", "b"] "multiply" (defScope s_multiply) f cdv A outer s H E) (WW.of (K := K) fun c d _ H => E c d H) (defBody s_multiply) (b_multiply C) := by
  have sc := sc_multiply
  have tk : Takes (cxOf (L2.CX P w) P w K mg base ["a", "b"] "multiply" (defScope s_multiply) f cdv A outer s H E) (fun c d _ H => E c d H) := takes_of rfl rfl rfl rfl
  have po := passes_of (X := cxOf (L2.CX P w) P w K mg base ["a", "b"] "multiply" (defScope s_multiply) f cdv A outer s H E) rfl
  have hu := hr.units
  have hv := room65 hr
  exact (bd_one (sd_ret (ed_call g.c_normal hr tk rfl (ad_cons (ed_bin op_mulD rp_mul (ed_ix ix_seq rp_ix (ed_var (pv 0)) ed_int (fun _ _ => rfl)) (ed_ix ix_seq rp_ix (ed_var (pv 1)) ed_int (fun _ _ => rfl))) (ad_cons (ed_bin op_addD rp_add (ed_ix ix_seq rp_ix (ed_var (pv 0)) ed_int (fun _ _ => rfl)) (ed_ix ix_seq rp_ix (ed_var (pv 1)) ed_int (fun _ _ => rfl))) ad_nil)) (len_cons (len_cons len_nil)))))
theorem sc_compare : FnScope ["a", "b", "units"] ["a", "b"] (defScope s_compare) := ⟨rfl, rfl, rfl, by decide +kernel, rfl, by decide +kernel, by decide +kernel⟩
theorem d_compare {P : Program} {w : World} {K : PySem.W.Frag} {mg : Str → Option Value} {base : Heap} {k : Nat} {C : Tab} {f : Addr} {cdv : Value} {A : Around} {outer : List Env} {s : Shared} {H : Hp} {E : XK}
    (g : Gs P w K mg base k C) (hr : Room k (A.deeper (envOfC "compare" (defScope s_compare) s.heap.objs.size f cdv))) :
    BD (cxOf (L2.CX P w) P w K mg base ["a", "b", "units"] "compare" (defScope s_compare) f cdv A outer s H E) (WW.of (K := K) fun c d _ H => E c d H) (defBody s_compare) (b_compare C) := by
  have sc := sc_compare
  have tk : Takes (cxOf (L2.CX P w) P w K mg base ["a", "b", "units"] "compare" (defScope s_compare) f cdv A outer s H E) (fun c d _ H => E c d H) := takes_of rfl rfl rfl rfl
  have po := passes_of (X := cxOf (L2.CX P w) P w K mg base ["a", "b", "units"] "compare" (defScope s_compare) f cdv A outer s H E) rfl
  have hu := hr.units
  have hv := room65 hr
  exact (bd_cons (sd_set (i := 2) sc.nd rfl (Or.inl rfl) (ed_ix ix_seq rp_ix (ed_call g.c_subtract hr tk rfl (ad_cons (ed_var (pv 0)) (ad_cons (ed_var (pv 1)) ad_nil)) (len_cons (len_cons len_nil))) ed_int (fun _ _ => rfl)))
    (bd_cons (sd_if (td_cmp (op_eqA hu) rp_eq (ed_var (pv 2)) ed_int (nomark _)) (bd_one (sd_ret ed_int)) bd_nil)
    (bd_one (sd_ret (ed_if (td_cmp op_gtD rp_gt (ed_var (pv 2)) ed_int (nomark _)) ed_int (ed_un un_neg rp_neg ed_int))))))
theorem sc_quotient : FnScope ["above", "below", "is_rounded", "size"] ["above", "below", "is_rounded"] (defScope s_quotient) := ⟨rfl, rfl, rfl, by decide +kernel, rfl, by decide +kernel, by decide +kernel⟩
theorem d_quotient {P : Program} {w : World} {K : PySem.W.Frag} {mg : Str → Option Value} {base : Heap} {k : Nat} {C : Tab} {f : Addr} {cdv : Value} {A : Around} {outer : List Env} {s : Shared} {H : Hp} {E : XK}
    (g : Gs P w K mg base k C) (hr : Room k (A.deeper (envOfC "quotient" (defScope s_quotient) s.heap.objs.size f cdv))) :
    BD (cxOf (L2.CX P w) P w K mg base ["above", "below", "is_rounded", "size"] "quotient" (defScope s_quotient) f cdv A outer s H E) (WW.of (K := K) fun c d _ H => E c d H) (defBody s_quotient) (b_quotient C) := by
  have sc := sc_quotient
  have tk : Takes (cxOf (L2.CX P w) P w K mg base ["above", "below", "is_rounded", "size"] "quotient" (defScope s_quotient) f cdv A outer s H E) (fun c d _ H => E c d H) := takes_of rfl rfl rfl rfl
  have po := passes_of (X := cxOf (L2.CX P w) P w K mg base ["above", "below", "is_rounded", "size"] "quotient" (defScope s_quotient) f cdv A outer s H E) rfl
  have hu := hr.units
  have hv := room65 hr
  exact (bd_cons (sd_set (i := 3) sc.nd rfl (Or.inl rfl) (ed_bin op_fdivW rp_div (ed_callB call_abs rp_abs rfl g.f_abs boot_abs (ad_cons (ed_var (pv 0)) ad_nil)) (ed_callB call_abs rp_abs rfl g.f_abs boot_abs (ad_cons (ed_var (pv 1)) ad_nil))))
    (bd_cons (sd_if (td_w (wd_and (td_val (ed_var (pv 2))) (wd_and1 (td_cmp op_geD rp_ge (ed_bin op_mulD rp_mul ed_int (ed_bin op_sub rp_sub (ed_callB call_abs rp_abs rfl g.f_abs boot_abs (ad_cons (ed_var (pv 0)) ad_nil)) (ed_bin op_mulD rp_mul (ed_var (pv 3)) (ed_callB call_abs rp_abs rfl g.f_abs boot_abs (ad_cons (ed_var (pv 1)) ad_nil))))) (ed_callB call_abs rp_abs rfl g.f_abs boot_abs (ad_cons (ed_var (pv 1)) ad_nil)) (nomark _))))) (bd_one (sd_aug (i := 3) sc.nd rfl (Or.inl rfl) ed_int (ipR iop_addD) rp_iadd)) bd_nil)
    (bd_cons (sd_if (td_cmp (op_neA hu) rp_ne (ed_cmp op_ltD rp_lt (ed_var (pv 0)) ed_int (nomark _)) (ed_cmp op_ltD rp_lt (ed_var (pv 1)) ed_int (nomark _)) (nomark _)) (bd_one (sd_ret (ed_un un_neg rp_neg (ed_var (pv 3))))) bd_nil)
    (bd_one (sd_ret (ed_var (pv 3)))))))
theorem sc_units_at : FnScope ["a", "scale", "is_rounded"] ["a", "scale", "is_rounded"] (defScope s_units_at) := ⟨rfl, rfl, rfl, by decide +kernel, rfl, by decide +kernel, by decide +kernel⟩
theorem d_units_at {P : Program} {w : World} {K : PySem.W.Frag} {mg : Str → Option Value} {base : Heap} {k : Nat} {C : Tab} {f : Addr} {cdv : Value} {A : Around} {outer : List Env} {s : Shared} {H : Hp} {E : XK}
    (g : Gs P w K mg base k C) (hr : Room k (A.deeper (envOfC "units_at" (defScope s_units_at) s.heap.objs.size f cdv))) :
    BD (cxOf (L2.CX P w) P w K mg base ["a", "scale", "is_rounded"] "units_at" (defScope s_units_at) f cdv A outer s H E) (WW.of (K := K) fun c d _ H => E c d H) (defBody s_units_at) (b_units_at C) := by
  have sc := sc_units_at
  have tk : Takes (cxOf (L2.CX P w) P w K mg base ["a", "scale", "is_rounded"] "units_at" (defScope s_units_at) f cdv A outer s H E) (fun c d _ H => E c d H) := takes_of rfl rfl rfl rfl
  have po := passes_of (X := cxOf (L2.CX P w) P w K mg base ["a", "scale", "is_rounded"] "units_at" (defScope s_units_at) f cdv A outer s H E) rfl
  have hu := hr.units
  have hv := room65 hr
  exact (bd_cons (sd_if (td_cmp op_leD rp_le (ed_ix ix_seq rp_ix (ed_var (pv 0)) ed_int (fun _ _ => rfl)) (ed_var (pv 1)) (nomark _)) (bd_one (sd_ret (ed_call g.c_aligned hr tk rfl (ad_cons (ed_var (pv 0)) (ad_cons (ed_var (pv 1)) ad_nil)) (len_cons (len_cons len_nil))))) bd_nil)
    (bd_one (sd_ret (ed_call g.c_quotient hr tk rfl (ad_cons (ed_ix ix_seq rp_ix (ed_var (pv 0)) ed_int (fun _ _ => rfl)) (ad_cons (ed_call g.c_power hr tk rfl (ad_cons (ed_bin op_sub rp_sub (ed_ix ix_seq rp_ix (ed_var (pv 0)) ed_int (fun _ _ => rfl)) (ed_var (pv 1))) ad_nil) (len_cons len_nil)) (ad_cons (ed_var (pv 2)) ad_nil))) (len_cons (len_cons (len_cons len_nil)))))))
theorem sc_fits : FnScope ["units", "digits"] ["units", "digits"] (defScope s_fits) := ⟨rfl, rfl, rfl, by decide +kernel, rfl, by decide +kernel, by decide +kernel⟩
theorem d_fits {P : Program} {w : World} {K : PySem.W.Frag} {mg : Str → Option Value} {base : Heap} {k : Nat} {C : Tab} {f : Addr} {cdv : Value} {A : Around} {outer : List Env} {s : Shared} {H : Hp} {E : XK}
    (g : Gs P w K mg base k C) (hr : Room k (A.deeper (envOfC "fits" (defScope s_fits) s.heap.objs.size f cdv))) :
    BD (cxOf (L2.CX P w) P w K mg base ["units", "digits"] "fits" (defScope s_fits) f cdv A outer s H E) (WW.of (K := K) fun c d _ H => E c d H) (defBody s_fits) (b_fits C) := by
  have sc := sc_fits
  have tk : Takes (cxOf (L2.CX P w) P w K mg base ["units", "digits"] "fits" (defScope s_fits) f cdv A outer s H E) (fun c d _ H => E c d H) := takes_of rfl rfl rfl rfl
  have po := passes_of (X := cxOf (L2.CX P w) P w K mg base ["units", "digits"] "fits" (defScope s_fits) f cdv A outer s H E) rfl
  have hu := hr.units
  have hv := room65 hr
  exact (bd_one (sd_ret (ed_cmp op_ltD rp_lt (ed_callB call_abs rp_abs rfl g.f_abs boot_abs (ad_cons (ed_var (pv 0)) ad_nil)) (ed_call g.c_power hr tk rfl (ad_cons (ed_var (pv 1)) ad_nil) (len_cons len_nil)) (nomark _))))
theorem sc_figures_of : FnScope ["number", "chunk", "parts"] ["number"] (defScope s_figures_of) := ⟨rfl, rfl, rfl, by decide +kernel, rfl, by decide +kernel, by decide +kernel⟩
theorem d_figures_of {P : Program} {w : World} {K : PySem.W.Frag} {mg : Str → Option Value} {base : Heap} {k : Nat} {C : Tab} {f : Addr} {cdv : Value} {A : Around} {outer : List Env} {s : Shared} {H : Hp} {E : XK}
    (g : Gs P w K mg base k C) (hr : Room k (A.deeper (envOfC "figures_of" (defScope s_figures_of) s.heap.objs.size f cdv))) :
    BD (cxOf (L2.CX P w) P w K mg base ["number", "chunk", "parts"] "figures_of" (defScope s_figures_of) f cdv A outer s H E) (WW.of (K := K) fun c d _ H => E c d H) (defBody s_figures_of) (b_figures_of C) := by
  have sc := sc_figures_of
  have tk : Takes (cxOf (L2.CX P w) P w K mg base ["number", "chunk", "parts"] "figures_of" (defScope s_figures_of) f cdv A outer s H E) (fun c d _ H => E c d H) := takes_of rfl rfl rfl rfl
  have po := passes_of (X := cxOf (L2.CX P w) P w K mg base ["number", "chunk", "parts"] "figures_of" (defScope s_figures_of) f cdv A outer s H E) rfl
  have hu := hr.units
  have hv := room65 hr
  exact (bd_cons (sd_set (i := 1) sc.nd rfl (Or.inl rfl) (ed_call g.c_power hr tk rfl (ad_cons (ed_gc rfl g.k_CHUNK) ad_nil) (len_cons len_nil)))
    (bd_cons (sd_set (i := 2) sc.nd rfl (Or.inl rfl) (ed_loc ad_nil))
    (bd_cons (sd_while po (td_cmp op_geD rp_ge (ed_var (pv 0)) (ed_var (pv 1)) (nomark _)) (bd_cons (sd_expr (ed_lm PySem.F.slot_list_append PySem.F.type_list_append mt_append rp_append (ed_var (pv 2)) (ad_cons (ed_sm PySem.F.slot_str_zfill PySem.F.type_str_zfill mt_zfill rp_zfill (ed_callTy call_str_int rp_str rfl g.f_str boot_str (ad_cons (ed_bin op_sub rp_sub (ed_var (pv 0)) (ed_bin op_mulD rp_mul (ed_bin op_fdivW rp_div (ed_var (pv 0)) (ed_var (pv 1))) (ed_var (pv 1)))) ad_nil)) (ad_cons (ed_gc rfl g.k_CHUNK) ad_nil)) ad_nil)))
    (bd_one (sd_set (i := 0) sc.nd rfl (Or.inl rfl) (ed_bin op_fdivW rp_div (ed_var (pv 0)) (ed_var (pv 1)))))))
    (bd_cons (sd_expr (ed_lm PySem.F.slot_list_append PySem.F.type_list_append mt_append rp_append (ed_var (pv 2)) (ad_cons (ed_callTy call_str_int rp_str rfl g.f_str boot_str (ad_cons (ed_var (pv 0)) ad_nil)) ad_nil)))
    (bd_one (sd_ret (ed_sm PySem.F.slot_str_join PySem.F.type_str_join mt_join rp_join (ed_str (c := []) rfl) (ad_cons (ed_rev (ed_var (pv 2))) ad_nil))))))))
theorem sc_show : FnScope ["a", "figures", "text", "units", "scale"] ["a"] (defScope s_show) := ⟨rfl, rfl, rfl, by decide +kernel, rfl, by decide +kernel, by decide +kernel⟩
theorem d_show {P : Program} {w : World} {K : PySem.W.Frag} {mg : Str → Option Value} {base : Heap} {k : Nat} {C : Tab} {f : Addr} {cdv : Value} {A : Around} {outer : List Env} {s : Shared} {H : Hp} {E : XK}
    (g : Gs P w K mg base k C) (hr : Room k (A.deeper (envOfC "show" (defScope s_show) s.heap.objs.size f cdv))) :
    BD (cxOf (L2.CX P w) P w K mg base ["a", "figures", "text", "units", "scale"] "show" (defScope s_show) f cdv A outer s H E) (WW.of (K := K) fun c d _ H => E c d H) (defBody s_show) (b_show C) := by
  have sc := sc_show
  have tk : Takes (cxOf (L2.CX P w) P w K mg base ["a", "figures", "text", "units", "scale"] "show" (defScope s_show) f cdv A outer s H E) (fun c d _ H => E c d H) := takes_of rfl rfl rfl rfl
  have po := passes_of (X := cxOf (L2.CX P w) P w K mg base ["a", "figures", "text", "units", "scale"] "show" (defScope s_show) f cdv A outer s H E) rfl
  have hu := hr.units
  have hv := room65 hr
  exact (bd_cons (sd_asg (ed_var (pv 0)) (gd_tup rfl (gds_cons (gd_name (pg_name (i := 3) sc.nd rfl (Or.inl rfl))) (gds_cons (gd_name (pg_name (i := 4) sc.nd rfl (Or.inl rfl))) gds_nil))))
    (bd_cons (sd_set (i := 1) sc.nd rfl (Or.inl rfl) (ed_sm PySem.F.slot_str_zfill PySem.F.type_str_zfill mt_zfill rp_zfill (ed_call g.c_figures_of hr tk rfl (ad_cons (ed_callB call_abs rp_abs rfl g.f_abs boot_abs (ad_cons (ed_var (pv 3)) ad_nil)) ad_nil) (len_cons len_nil)) (ad_cons (ed_bin op_addD rp_add (ed_var (pv 4)) ed_int) ad_nil)))
    (bd_cons (sd_set (i := 2) sc.nd rfl (Or.inl rfl) (ed_var (pv 1)))
    (bd_cons (sd_if (td_cmp op_gtD rp_gt (ed_var (pv 4)) ed_int (nomark _)) (bd_one (sd_set (i := 2) sc.nd rfl (Or.inl rfl) (ed_bin op_addD rp_add (ed_bin op_addD rp_add (ed_sl sl_any rp_sl (ed_var (pv 1)) od_none (od_some (ed_un un_neg rp_neg (ed_var (pv 4))))) (ed_str (c := [46]) rfl)) (ed_sl sl_any rp_sl (ed_var (pv 1)) (od_some (ed_un un_neg rp_neg (ed_var (pv 4)))) od_none)))) bd_nil)
    (bd_cons (sd_if (td_cmp op_ltD rp_lt (ed_var (pv 3)) ed_int (nomark _)) (bd_one (sd_ret (ed_bin op_addD rp_add (ed_str (c := [45]) rfl) (ed_var (pv 2))))) bd_nil)
    (bd_one (sd_ret (ed_var (pv 2)))))))))
theorem sc__law_draws : FnScope ["script"] ["script"] (defScope s__law_draws) := ⟨rfl, rfl, rfl, by decide +kernel, rfl, by decide +kernel, by decide +kernel⟩
theorem d__law_draws {P : Program} {w : World} {K : PySem.W.Frag} {mg : Str → Option Value} {base : Heap} {k : Nat} {C : Tab} {f : Addr} {cdv : Value} {A : Around} {outer : List Env} {s : Shared} {H : Hp} {E : XK}
    (g : Gs P w K mg base k C) (hr : Room k (A.deeper (envOfC "_law_draws" (defScope s__law_draws) s.heap.objs.size f cdv))) :
    BD (cxOf (L2.CX P w) P w K mg base ["script"] "_law_draws" (defScope s__law_draws) f cdv A outer s H E) (WW.of (K := K) fun c d _ H => E c d H) (defBody s__law_draws) (b__law_draws C) := by
  have sc := sc__law_draws
  have tk : Takes (cxOf (L2.CX P w) P w K mg base ["script"] "_law_draws" (defScope s__law_draws) f cdv A outer s H E) (fun c d _ H => E c d H) := takes_of rfl rfl rfl rfl
  have po := passes_of (X := cxOf (L2.CX P w) P w K mg base ["script"] "_law_draws" (defScope s__law_draws) f cdv A outer s H E) rfl
  have hu := hr.units
  have hv := room65 hr
  exact (bd_one (sd_ret (ed_loc (ad_cons (ed_callTy call_list_of rp_list rfl g.f_list boot_list (ad_cons (ed_var (pv 0)) ad_nil)) (ad_cons ed_int (ad_cons ed_int (ad_cons ed_int ad_nil)))))))
theorem sc__law_draw : FnScope ["draws", "limit", "cell", "value"] ["draws", "limit"] (defScope s__law_draw) := ⟨rfl, rfl, rfl, by decide +kernel, rfl, by decide +kernel, by decide +kernel⟩
theorem d__law_draw {P : Program} {w : World} {K : PySem.W.Frag} {mg : Str → Option Value} {base : Heap} {k : Nat} {C : Tab} {f : Addr} {cdv : Value} {A : Around} {outer : List Env} {s : Shared} {H : Hp} {E : XK}
    (g : Gs P w K mg base k C) (hr : Room k (A.deeper (envOfC "_law_draw" (defScope s__law_draw) s.heap.objs.size f cdv))) :
    BD (cxOf (L2.CX P w) P w K mg base ["draws", "limit", "cell", "value"] "_law_draw" (defScope s__law_draw) f cdv A outer s H E) (WW.of (K := K) fun c d _ H => E c d H) (defBody s__law_draw) (b__law_draw C) := by
  have sc := sc__law_draw
  have tk : Takes (cxOf (L2.CX P w) P w K mg base ["draws", "limit", "cell", "value"] "_law_draw" (defScope s__law_draw) f cdv A outer s H E) (fun c d _ H => E c d H) := takes_of rfl rfl rfl rfl
  have po := passes_of (X := cxOf (L2.CX P w) P w K mg base ["draws", "limit", "cell", "value"] "_law_draw" (defScope s__law_draw) f cdv A outer s H E) rfl
  have hu := hr.units
  have hv := room65 hr
  exact (bd_cons (sd_if (td_w (wd_and (td_cmp (op_eqA hu) rp_eq (ed_ix ix_seq rp_ix (ed_var (pv 0)) ed_int (fun _ _ => rfl)) ed_int (nomark _)) (wd_and1 (td_cmp op_ltD rp_lt (ed_ix ix_seq rp_ix (ed_var (pv 0)) ed_int (fun _ _ => rfl)) (ed_callB call_len rp_len rfl g.f_len boot_len (ad_cons (ed_ix ix_seq rp_ix (ed_var (pv 0)) ed_int (fun _ _ => rfl)) ad_nil)) (nomark _))))) (bd_cons (sd_set (i := 2) sc.nd rfl (Or.inl rfl) (ed_ix ix_seq rp_ix (ed_ix ix_seq rp_ix (ed_var (pv 0)) ed_int (fun _ _ => rfl)) (ed_ix ix_seq rp_ix (ed_var (pv 0)) ed_int (fun _ _ => rfl)) (fun _ _ => rfl)))
    (bd_cons (sd_asg (ed_bin op_addD rp_add (ed_ix ix_seq rp_ix (ed_var (pv 0)) ed_int (fun _ _ => rfl)) ed_int) (gd_sub (ed_var (pv 0)) ed_int))
    (bd_cons (sd_if (td_cmp op_geD rp_ge (ed_var (pv 2)) (ed_bin op_pow rp_pow ed_int ed_int) (nomark _)) (bd_one (sd_asg (ed_var (pv 2)) (gd_sub (ed_var (pv 0)) ed_int))) bd_nil)
    (bd_one (sd_asg (ed_bin op_mod rp_mod (ed_callTy (call_int_str.or call_int1) rp_intA rfl g.f_int boot_int (ad_cons (ed_bin op_addD rp_add (ed_bin op_addD rp_add (ed_bin op_mulD rp_mul (ed_ix ix_seq rp_ix (ed_var (pv 0)) ed_int (fun _ _ => rfl)) ed_int) (ed_var (pv 2))) ed_int) ad_nil)) ed_int) (gd_sub (ed_var (pv 0)) ed_int)))))) bd_nil)
    (bd_cons (sd_if (td_cmp op_gtD rp_gt (ed_ix ix_seq rp_ix (ed_var (pv 0)) ed_int (fun _ _ => rfl)) ed_int (nomark _)) (bd_cons (sd_set (i := 3) sc.nd rfl (Or.inl rfl) (ed_bin op_mod rp_mod (ed_callTy (call_int_str.or call_int1) rp_intA rfl g.f_int boot_int (ad_cons (ed_ix ix_seq rp_ix (ed_var (pv 0)) ed_int (fun _ _ => rfl)) ad_nil)) (ed_var (pv 1))))
    (bd_cons (sd_asg (ed_bin op_fdivW rp_div (ed_ix ix_seq rp_ix (ed_var (pv 0)) ed_int (fun _ _ => rfl)) (ed_var (pv 1))) (gd_sub (ed_var (pv 0)) ed_int))
    (bd_one (sd_ret (ed_var (pv 3)))))) bd_nil)
    (bd_cons (sd_asg (ed_bin op_mod rp_mod (ed_callTy (call_int_str.or call_int1) rp_intA rfl g.f_int boot_int (ad_cons (ed_bin op_addD rp_add (ed_bin op_mulD rp_mul (ed_ix ix_seq rp_ix (ed_var (pv 0)) ed_int (fun _ _ => rfl)) ed_int) ed_int) ad_nil)) ed_int) (gd_sub (ed_var (pv 0)) ed_int))
    (bd_one (sd_ret (ed_bin op_mod rp_mod (ed_callTy (call_int_str.or call_int1) rp_intA rfl g.f_int boot_int (ad_cons (ed_bin op_fdivW rp_div (ed_ix ix_seq rp_ix (ed_var (pv 0)) ed_int (fun _ _ => rfl)) ed_int) ad_nil)) (ed_var (pv 1))))))))
theorem sc__law_same : FnScope ["actual", "expected", "k"] ["actual", "expected"] (defScope s__law_same) := ⟨rfl, rfl, rfl, by decide +kernel, rfl, by decide +kernel, by decide +kernel⟩
theorem d__law_same {P : Program} {w : World} {K : PySem.W.Frag} {mg : Str → Option Value} {base : Heap} {k : Nat} {C : Tab} {f : Addr} {cdv : Value} {A : Around} {outer : List Env} {s : Shared} {H : Hp} {E : XK}
    (g : Gs P w K mg base k C) (hr : Room k (A.deeper (envOfC "_law_same" (defScope s__law_same) s.heap.objs.size f cdv))) :
    BD (cxOf (L2.CX P w) P w K mg base ["actual", "expected", "k"] "_law_same" (defScope s__law_same) f cdv A outer s H E) (WW.of (K := K) fun c d _ H => E c d H) (defBody s__law_same) (b__law_same C) := by
  have sc := sc__law_same
  have tk : Takes (cxOf (L2.CX P w) P w K mg base ["actual", "expected", "k"] "_law_same" (defScope s__law_same) f cdv A outer s H E) (fun c d _ H => E c d H) := takes_of rfl rfl rfl rfl
  have po := passes_of (X := cxOf (L2.CX P w) P w K mg base ["actual", "expected", "k"] "_law_same" (defScope s__law_same) f cdv A outer s H E) rfl
  have hu := hr.units
  have hv := room65 hr
  exact (bd_cons (sd_if (td_val (ed_callB call_isi rp_isi rfl g.f_isinstance boot_isinstance (ad_cons (ed_var (pv 1)) (ad_cons (ed_ty rfl g.f_tuple boot_tuple) ad_nil)))) (bd_cons (sd_if (td_w (wd_or (td_not (td_val (ed_callB call_isi rp_isi rfl g.f_isinstance boot_isinstance (ad_cons (ed_var (pv 0)) (ad_cons (ed_ty rfl g.f_tuple boot_tuple) ad_nil))))) (wd_or1 (td_cmp (op_neA hu) rp_ne (ed_callB call_len rp_len rfl g.f_len boot_len (ad_cons (ed_var (pv 0)) ad_nil)) (ed_callB call_len rp_len rfl g.f_len boot_len (ad_cons (ed_var (pv 1)) ad_nil)) (nomark _))))) (bd_one (sd_ret ed_bl)) bd_nil)
    (bd_cons (sd_for po rfl (id_range1 rfl g.f_range (ad_cons (ed_callB call_len rp_len rfl g.f_len boot_len (ad_cons (ed_var (pv 1)) ad_nil)) ad_nil)) (gd_name (pg_name (i := 2) sc.nd rfl (Or.inl rfl))) (bd_one (sd_if (td_not (td_val (ed_call g.c__law_same hr tk rfl (ad_cons (ed_ix ix_seq rp_ix (ed_var (pv 0)) (ed_var (pv 2)) (fun _ _ => rfl)) (ad_cons (ed_ix ix_seq rp_ix (ed_var (pv 1)) (ed_var (pv 2)) (fun _ _ => rfl)) ad_nil)) (len_cons (len_cons len_nil))))) (bd_one (sd_ret ed_bl)) bd_nil)))
    (bd_one (sd_ret ed_bl)))) bd_nil)
    (bd_cons (sd_if (td_val (ed_callB call_isi rp_isi rfl g.f_isinstance boot_isinstance (ad_cons (ed_var (pv 1)) (ad_cons (ed_ty rfl g.f_str boot_str) ad_nil)))) (bd_one (sd_ret (ed_and (ed_callB call_isi rp_isi rfl g.f_isinstance boot_isinstance (ad_cons (ed_var (pv 0)) (ad_cons (ed_ty rfl g.f_str boot_str) ad_nil))) (ed_one (ed_cmp (op_eqA hu) rp_eq (ed_var (pv 0)) (ed_var (pv 1)) (nomark _)))))) bd_nil)
    (bd_cons (sd_if (td_cmp op_isN rp_isN (ed_var (pv 1)) ed_non (nomark _)) (bd_one (sd_ret (ed_cmp op_isN rp_isN (ed_var (pv 0)) ed_non (nomark _)))) bd_nil)
    (bd_cons (sd_if (td_w (wd_or (td_val (ed_callB call_isi rp_isi rfl g.f_isinstance boot_isinstance (ad_cons (ed_var (pv 1)) (ad_cons (ed_ty rfl g.f_bool boot_bool) ad_nil)))) (wd_or1 (td_val (ed_callB call_isi rp_isi rfl g.f_isinstance boot_isinstance (ad_cons (ed_var (pv 0)) (ad_cons (ed_ty rfl g.f_bool boot_bool) ad_nil))))))) (bd_one (sd_ret (ed_and (ed_callB call_isi rp_isi rfl g.f_isinstance boot_isinstance (ad_cons (ed_var (pv 1)) (ad_cons (ed_ty rfl g.f_bool boot_bool) ad_nil))) (ed_and (ed_callB call_isi rp_isi rfl g.f_isinstance boot_isinstance (ad_cons (ed_var (pv 0)) (ad_cons (ed_ty rfl g.f_bool boot_bool) ad_nil))) (ed_one (ed_cmp (op_eqA hu) rp_eq (ed_var (pv 0)) (ed_var (pv 1)) (nomark _))))))) bd_nil)
    (bd_one (sd_ret (ed_and (ed_callB call_isi rp_isi rfl g.f_isinstance boot_isinstance (ad_cons (ed_var (pv 0)) (ad_cons (ed_ty rfl g.f_int boot_int) ad_nil))) (ed_one (ed_cmp (op_eqA hu) rp_eq (ed_var (pv 0)) (ed_var (pv 1)) (nomark _))))))))))
theorem sc__law_ten : FnScope ["scale"] ["scale"] (defScope s__law_ten) := ⟨rfl, rfl, rfl, by decide +kernel, rfl, by decide +kernel, by decide +kernel⟩
theorem d__law_ten {P : Program} {w : World} {K : PySem.W.Frag} {mg : Str → Option Value} {base : Heap} {k : Nat} {C : Tab} {f : Addr} {cdv : Value} {A : Around} {outer : List Env} {s : Shared} {H : Hp} {E : XK}
    (g : Gs P w K mg base k C) (hr : Room k (A.deeper (envOfC "_law_ten" (defScope s__law_ten) s.heap.objs.size f cdv))) :
    BD (cxOf (L2.CX P w) P w K mg base ["scale"] "_law_ten" (defScope s__law_ten) f cdv A outer s H E) (WW.of (K := K) fun c d _ H => E c d H) (defBody s__law_ten) (b__law_ten C) := by
  have sc := sc__law_ten
  have tk : Takes (cxOf (L2.CX P w) P w K mg base ["scale"] "_law_ten" (defScope s__law_ten) f cdv A outer s H E) (fun c d _ H => E c d H) := takes_of rfl rfl rfl rfl
  have po := passes_of (X := cxOf (L2.CX P w) P w K mg base ["scale"] "_law_ten" (defScope s__law_ten) f cdv A outer s H E) rfl
  have hu := hr.units
  have hv := room65 hr
  exact (bd_one (sd_ret (ed_callTy (call_int_str.or call_int1) rp_intA rfl g.f_int boot_int (ad_cons (ed_bin op_addD rp_add (ed_str (c := [49]) rfl) (ed_bin op_mulA rp_mulA (ed_str (c := [48]) rfl) (ed_var (pv 0)))) ad_nil))))
theorem sc__law_number : FnScope ["draws", "figures", "units", "k"] ["draws"] (defScope s__law_number) := ⟨rfl, rfl, rfl, by decide +kernel, rfl, by decide +kernel, by decide +kernel⟩
theorem d__law_number {P : Program} {w : World} {K : PySem.W.Frag} {mg : Str → Option Value} {base : Heap} {k : Nat} {C : Tab} {f : Addr} {cdv : Value} {A : Around} {outer : List Env} {s : Shared} {H : Hp} {E : XK}
    (g : Gs P w K mg base k C) (hr : Room k (A.deeper (envOfC "_law_number" (defScope s__law_number) s.heap.objs.size f cdv))) :
    BD (cxOf (L2.CX P w) P w K mg base ["draws", "figures", "units", "k"] "_law_number" (defScope s__law_number) f cdv A outer s H E) (WW.of (K := K) fun c d _ H => E c d H) (defBody s__law_number) (b__law_number C) := by
  have sc := sc__law_number
  have tk : Takes (cxOf (L2.CX P w) P w K mg base ["draws", "figures", "units", "k"] "_law_number" (defScope s__law_number) f cdv A outer s H E) (fun c d _ H => E c d H) := takes_of rfl rfl rfl rfl
  have po := passes_of (X := cxOf (L2.CX P w) P w K mg base ["draws", "figures", "units", "k"] "_law_number" (defScope s__law_number) f cdv A outer s H E) rfl
  have hu := hr.units
  have hv := room65 hr
  exact (bd_cons (sd_set (i := 1) sc.nd rfl (Or.inl rfl) (ed_bin op_addD rp_add ed_int (ed_call g.c__law_draw hr tk rfl (ad_cons (ed_var (pv 0)) (ad_cons (ed_ix ix_seq rp_ix (ed_lst (ad_cons ed_int (ad_cons ed_int ad_nil))) (ed_call g.c__law_draw hr tk rfl (ad_cons (ed_var (pv 0)) (ad_cons ed_int ad_nil)) (len_cons (len_cons len_nil))) (fun _ _ => rfl)) ad_nil)) (len_cons (len_cons len_nil)))))
    (bd_cons (sd_set (i := 2) sc.nd rfl (Or.inl rfl) ed_int)
    (bd_cons (sd_for po rfl (id_range3 rfl g.f_range (ad_cons ed_int (ad_cons (ed_var (pv 1)) (ad_cons ed_int ad_nil)))) (gd_name (pg_name (i := 3) sc.nd rfl (Or.inl rfl))) (bd_one (sd_set (i := 2) sc.nd rfl (Or.inl rfl) (ed_bin op_addD rp_add (ed_bin op_mulD rp_mul (ed_var (pv 2)) (ed_bin op_pow rp_pow ed_int ed_int)) (ed_call g.c__law_draw hr tk rfl (ad_cons (ed_var (pv 0)) (ad_cons (ed_bin op_pow rp_pow ed_int ed_int) ad_nil)) (len_cons (len_cons len_nil)))))))
    (bd_cons (sd_set (i := 2) sc.nd rfl (Or.inl rfl) (ed_bin op_mulD rp_mul (ed_var (pv 2)) (ed_call g.c__law_ten hr tk rfl (ad_cons (ed_bin op_mulD rp_mul (ed_call g.c__law_draw hr tk rfl (ad_cons (ed_var (pv 0)) (ad_cons ed_int ad_nil)) (len_cons (len_cons len_nil))) (ed_call g.c__law_draw hr tk rfl (ad_cons (ed_var (pv 0)) (ad_cons ed_int ad_nil)) (len_cons (len_cons len_nil)))) ad_nil) (len_cons len_nil))))
    (bd_cons (sd_if (td_cmp (op_eqA hu) rp_eq (ed_call g.c__law_draw hr tk rfl (ad_cons (ed_var (pv 0)) (ad_cons ed_int ad_nil)) (len_cons (len_cons len_nil))) ed_int (nomark _)) (bd_one (sd_set (i := 2) sc.nd rfl (Or.inl rfl) (ed_un un_neg rp_neg (ed_var (pv 2))))) bd_nil)
    (bd_one (sd_ret (ed_tup (ad_cons (ed_var (pv 2)) (ad_cons (ed_call g.c__law_draw hr tk rfl (ad_cons (ed_var (pv 0)) (ad_cons (ed_ix ix_seq rp_ix (ed_lst (ad_cons ed_int (ad_cons ed_int ad_nil))) (ed_call g.c__law_draw hr tk rfl (ad_cons (ed_var (pv 0)) (ad_cons ed_int ad_nil)) (len_cons (len_cons len_nil))) (fun _ _ => rfl)) ad_nil)) (len_cons (len_cons len_nil))) ad_nil))))))))))
theorem sc__law_least : FnScope ["units", "scale", "k"] ["units", "scale"] (defScope s__law_least) := ⟨rfl, rfl, rfl, by decide +kernel, rfl, by decide +kernel, by decide +kernel⟩
theorem d__law_least {P : Program} {w : World} {K : PySem.W.Frag} {mg : Str → Option Value} {base : Heap} {k : Nat} {C : Tab} {f : Addr} {cdv : Value} {A : Around} {outer : List Env} {s : Shared} {H : Hp} {E : XK}
    (g : Gs P w K mg base k C) (hr : Room k (A.deeper (envOfC "_law_least" (defScope s__law_least) s.heap.objs.size f cdv))) :
    BD (cxOf (L2.CX P w) P w K mg base ["units", "scale", "k"] "_law_least" (defScope s__law_least) f cdv A outer s H E) (WW.of (K := K) fun c d _ H => E c d H) (defBody s__law_least) (b__law_least C) := by
  have sc := sc__law_least
  have tk : Takes (cxOf (L2.CX P w) P w K mg base ["units", "scale", "k"] "_law_least" (defScope s__law_least) f cdv A outer s H E) (fun c d _ H => E c d H) := takes_of rfl rfl rfl rfl
  have po := passes_of (X := cxOf (L2.CX P w) P w K mg base ["units", "scale", "k"] "_law_least" (defScope s__law_least) f cdv A outer s H E) rfl
  have hu := hr.units
  have hv := room65 hr
  exact (bd_cons (sd_for po rfl (id_range1 rfl g.f_range (ad_cons (ed_var (pv 1)) ad_nil)) (gd_name (pg_name (i := 2) sc.nd rfl (Or.inl rfl))) (bd_cons (sd_if (td_cmp (op_neA hu) rp_ne (ed_bin op_mod rp_mod (ed_callTy (call_int_str.or call_int1) rp_intA rfl g.f_int boot_int (ad_cons (ed_var (pv 0)) ad_nil)) ed_int) ed_int (nomark _)) (bd_one (sd_ret (ed_tup (ad_cons (ed_var (pv 0)) (ad_cons (ed_var (pv 1)) ad_nil))))) bd_nil)
    (bd_cons (sd_set (i := 0) sc.nd rfl (Or.inl rfl) (ed_bin op_fdivW rp_div (ed_var (pv 0)) ed_int))
    (bd_one (sd_set (i := 1) sc.nd rfl (Or.inl rfl) (ed_bin op_sub rp_sub (ed_var (pv 1)) ed_int))))))
    (bd_one (sd_ret (ed_tup (ad_cons (ed_var (pv 0)) (ad_cons (ed_var (pv 1)) ad_nil))))))
theorem sc__law_part : FnScope ["above", "below", "is_rounded", "size"] ["above", "below", "is_rounded"] (defScope s__law_part) := ⟨rfl, rfl, rfl, by decide +kernel, rfl, by decide +kernel, by decide +kernel⟩
theorem d__law_part {P : Program} {w : World} {K : PySem.W.Frag} {mg : Str → Option Value} {base : Heap} {k : Nat} {C : Tab} {f : Addr} {cdv : Value} {A : Around} {outer : List Env} {s : Shared} {H : Hp} {E : XK}
    (g : Gs P w K mg base k C) (hr : Room k (A.deeper (envOfC "_law_part" (defScope s__law_part) s.heap.objs.size f cdv))) :
    BD (cxOf (L2.CX P w) P w K mg base ["above", "below", "is_rounded", "size"] "_law_part" (defScope s__law_part) f cdv A outer s H E) (WW.of (K := K) fun c d _ H => E c d H) (defBody s__law_part) (b__law_part C) := by
  have sc := sc__law_part
  have tk : Takes (cxOf (L2.CX P w) P w K mg base ["above", "below", "is_rounded", "size"] "_law_part" (defScope s__law_part) f cdv A outer s H E) (fun c d _ H => E c d H) := takes_of rfl rfl rfl rfl
  have po := passes_of (X := cxOf (L2.CX P w) P w K mg base ["above", "below", "is_rounded", "size"] "_law_part" (defScope s__law_part) f cdv A outer s H E) rfl
  have hu := hr.units
  have hv := room65 hr
  exact (bd_cons (sd_set (i := 3) sc.nd rfl (Or.inl rfl) (ed_bin op_fdivW rp_div (ed_callB call_abs rp_abs rfl g.f_abs boot_abs (ad_cons (ed_var (pv 0)) ad_nil)) (ed_var (pv 1))))
    (bd_cons (sd_if (td_w (wd_and (td_val (ed_var (pv 2))) (wd_and1 (td_cmp op_geD rp_ge (ed_bin op_mulD rp_mul ed_int (ed_bin op_sub rp_sub (ed_callB call_abs rp_abs rfl g.f_abs boot_abs (ad_cons (ed_var (pv 0)) ad_nil)) (ed_bin op_mulD rp_mul (ed_var (pv 3)) (ed_var (pv 1))))) (ed_var (pv 1)) (nomark _))))) (bd_one (sd_set (i := 3) sc.nd rfl (Or.inl rfl) (ed_bin op_addD rp_add (ed_var (pv 3)) ed_int))) bd_nil)
    (bd_one (sd_ret (ed_if (td_cmp op_ltD rp_lt (ed_var (pv 0)) ed_int (nomark _)) (ed_un un_neg rp_neg (ed_var (pv 3))) (ed_var (pv 3)))))))
theorem sc__law_text : FnScope ["number", "figures"] ["number"] (defScope s__law_text) := ⟨rfl, rfl, rfl, by decide +kernel, rfl, by decide +kernel, by decide +kernel⟩
theorem d__law_text {P : Program} {w : World} {K : PySem.W.Frag} {mg : Str → Option Value} {base : Heap} {k : Nat} {C : Tab} {f : Addr} {cdv : Value} {A : Around} {outer : List Env} {s : Shared} {H : Hp} {E : XK}
    (g : Gs P w K mg base k C) (hr : Room k (A.deeper (envOfC "_law_text" (defScope s__law_text) s.heap.objs.size f cdv))) :
    BD (cxOf (L2.CX P w) P w K mg base ["number", "figures"] "_law_text" (defScope s__law_text) f cdv A outer s H E) (WW.of (K := K) fun c d _ H => E c d H) (defBody s__law_text) (b__law_text C) := by
  have sc := sc__law_text
  have tk : Takes (cxOf (L2.CX P w) P w K mg base ["number", "figures"] "_law_text" (defScope s__law_text) f cdv A outer s H E) (fun c d _ H => E c d H) := takes_of rfl rfl rfl rfl
  have po := passes_of (X := cxOf (L2.CX P w) P w K mg base ["number", "figures"] "_law_text" (defScope s__law_text) f cdv A outer s H E) rfl
  have hu := hr.units
  have hv := room65 hr
  exact (bd_cons (sd_set (i := 1) sc.nd rfl (Or.inl rfl) (ed_callTy call_str_int rp_str rfl g.f_str boot_str (ad_cons (ed_callB call_abs rp_abs rfl g.f_abs boot_abs (ad_cons (ed_ix ix_seq rp_ix (ed_var (pv 0)) ed_int (fun _ _ => rfl)) ad_nil)) ad_nil)))
    (bd_cons (sd_set (i := 1) sc.nd rfl (Or.inl rfl) (ed_bin op_addD rp_add (ed_bin op_mulA rp_mulA (ed_str (c := [48]) rfl) (ed_bin op_sub rp_sub (ed_bin op_addD rp_add (ed_ix ix_seq rp_ix (ed_var (pv 0)) ed_int (fun _ _ => rfl)) ed_int) (ed_callB call_len rp_len rfl g.f_len boot_len (ad_cons (ed_var (pv 1)) ad_nil)))) (ed_var (pv 1))))
    (bd_cons (sd_if (td_cmp op_gtD rp_gt (ed_ix ix_seq rp_ix (ed_var (pv 0)) ed_int (fun _ _ => rfl)) ed_int (nomark _)) (bd_one (sd_set (i := 1) sc.nd rfl (Or.inl rfl) (ed_bin op_addD rp_add (ed_bin op_addD rp_add (ed_sl sl_any rp_sl (ed_var (pv 1)) od_none (od_some (ed_bin op_sub rp_sub (ed_callB call_len rp_len rfl g.f_len boot_len (ad_cons (ed_var (pv 1)) ad_nil)) (ed_ix ix_seq rp_ix (ed_var (pv 0)) ed_int (fun _ _ => rfl))))) (ed_str (c := [46]) rfl)) (ed_sl sl_any rp_sl (ed_var (pv 1)) (od_some (ed_bin op_sub rp_sub (ed_callB call_len rp_len rfl g.f_len boot_len (ad_cons (ed_var (pv 1)) ad_nil)) (ed_ix ix_seq rp_ix (ed_var (pv 0)) ed_int (fun _ _ => rfl)))) od_none)))) bd_nil)
    (bd_one (sd_ret (ed_if (td_cmp op_ltD rp_lt (ed_ix ix_seq rp_ix (ed_var (pv 0)) ed_int (fun _ _ => rfl)) ed_int (nomark _)) (ed_bin op_addD rp_add (ed_str (c := [45]) rfl) (ed_var (pv 1))) (ed_var (pv 1))))))))
theorem sc_law : FnScope ["script", "draws", "raw", "a", "other", "b", "left", "right", "scale", "found", "due", "sign", "more", "figures", "place", "top", "cut"] ["script"] (defScope s_law) := ⟨rfl, rfl, rfl, by decide +kernel, rfl, by decide +kernel, by decide +kernel⟩
theorem d_law {P : Program} {w : World} {K : PySem.W.Frag} {mg : Str → Option Value} {base : Heap} {k : Nat} {C : Tab} {f : Addr} {cdv : Value} {A : Around} {outer : List Env} {s : Shared} {H : Hp} {E : XK}
    (g : Gs P w K mg base k C) (hr : Room k (A.deeper (envOfC "law" (defScope s_law) s.heap.objs.size f cdv))) :
    BD (cxOf (L2.CX P w) P w K mg base ["script", "draws", "raw", "a", "other", "b", "left", "right", "scale", "found", "due", "sign", "more", "figures", "place", "top", "cut"] "law" (defScope s_law) f cdv A outer s H E) (WW.of (K := K) fun c d _ H => E c d H) (defBody s_law) (b_law C) := by
  have sc := sc_law
  have tk : Takes (cxOf (L2.CX P w) P w K mg base ["script", "draws", "raw", "a", "other", "b", "left", "right", "scale", "found", "due", "sign", "more", "figures", "place", "top", "cut"] "law" (defScope s_law) f cdv A outer s H E) (fun c d _ H => E c d H) := takes_of rfl rfl rfl rfl
  have po := passes_of (X := cxOf (L2.CX P w) P w K mg base ["script", "draws", "raw", "a", "other", "b", "left", "right", "scale", "found", "due", "sign", "more", "figures", "place", "top", "cut"] "law" (defScope s_law) f cdv A outer s H E) rfl
  have hu := hr.units
  have hv := room65 hr
  exact (bd_cons (sd_set (i := 1) sc.nd rfl (Or.inl rfl) (ed_call g.c__law_draws hr tk rfl (ad_cons (ed_var (pv 0)) ad_nil) (len_cons len_nil)))
    (bd_cons (sd_set (i := 2) sc.nd rfl (Or.inl rfl) (ed_call g.c__law_number hr tk rfl (ad_cons (ed_var (pv 1)) ad_nil) (len_cons len_nil)))
    (bd_cons (sd_set (i := 3) sc.nd rfl (Or.inl rfl) (ed_call g.c__law_least hr tk rfl (ad_cons (ed_ix ix_seq rp_ix (ed_var (pv 2)) ed_int (fun _ _ => rfl)) (ad_cons (ed_ix ix_seq rp_ix (ed_var (pv 2)) ed_int (fun _ _ => rfl)) ad_nil)) (len_cons (len_cons len_nil))))
    (bd_cons (sd_set (i := 4) sc.nd rfl (Or.inl rfl) (ed_call g.c__law_number hr tk rfl (ad_cons (ed_var (pv 1)) ad_nil) (len_cons len_nil)))
    (bd_cons (sd_set (i := 5) sc.nd rfl (Or.inl rfl) (ed_call g.c__law_least hr tk rfl (ad_cons (ed_ix ix_seq rp_ix (ed_var (pv 4)) ed_int (fun _ _ => rfl)) (ad_cons (ed_ix ix_seq rp_ix (ed_var (pv 4)) ed_int (fun _ _ => rfl)) ad_nil)) (len_cons (len_cons len_nil))))
    (bd_cons (sd_if (td_cmp (op_eqA hu) rp_eq (ed_call g.c__law_draw hr tk rfl (ad_cons (ed_var (pv 1)) (ad_cons ed_int ad_nil)) (len_cons (len_cons len_nil))) ed_int (nomark _)) (bd_cons (sd_set (i := 8) sc.nd rfl (Or.inl rfl) (ed_bin op_addD rp_add (ed_ix ix_seq rp_ix (ed_var (pv 3)) ed_int (fun _ _ => rfl)) (ed_call g.c__law_draw hr tk rfl (ad_cons (ed_var (pv 1)) (ad_cons ed_int ad_nil)) (len_cons (len_cons len_nil)))))
    (bd_one (sd_set (i := 5) sc.nd rfl (Or.inl rfl) (ed_call g.c__law_least hr tk rfl (ad_cons (ed_bin op_sub rp_sub (ed_bin op_addD rp_add (ed_bin op_mulD rp_mul (ed_ix ix_seq rp_ix (ed_var (pv 3)) ed_int (fun _ _ => rfl)) (ed_call g.c__law_ten hr tk rfl (ad_cons (ed_bin op_sub rp_sub (ed_var (pv 8)) (ed_ix ix_seq rp_ix (ed_var (pv 3)) ed_int (fun _ _ => rfl))) ad_nil) (len_cons len_nil))) (ed_call g.c__law_draw hr tk rfl (ad_cons (ed_var (pv 1)) (ad_cons ed_int ad_nil)) (len_cons (len_cons len_nil)))) ed_int) (ad_cons (ed_var (pv 8)) ad_nil)) (len_cons (len_cons len_nil)))))) bd_nil)
    (bd_cons (sd_set (i := 6) sc.nd rfl (Or.inl rfl) (ed_bin op_mulD rp_mul (ed_ix ix_seq rp_ix (ed_var (pv 3)) ed_int (fun _ _ => rfl)) (ed_call g.c__law_ten hr tk rfl (ad_cons (ed_ix ix_seq rp_ix (ed_var (pv 5)) ed_int (fun _ _ => rfl)) ad_nil) (len_cons len_nil))))
    (bd_cons (sd_set (i := 7) sc.nd rfl (Or.inl rfl) (ed_bin op_mulD rp_mul (ed_ix ix_seq rp_ix (ed_var (pv 5)) ed_int (fun _ _ => rfl)) (ed_call g.c__law_ten hr tk rfl (ad_cons (ed_ix ix_seq rp_ix (ed_var (pv 3)) ed_int (fun _ _ => rfl)) ad_nil) (len_cons len_nil))))
    (bd_cons (sd_set (i := 8) sc.nd rfl (Or.inl rfl) (ed_bin op_addD rp_add (ed_ix ix_seq rp_ix (ed_var (pv 3)) ed_int (fun _ _ => rfl)) (ed_ix ix_seq rp_ix (ed_var (pv 5)) ed_int (fun _ _ => rfl))))
    (bd_cons (sd_set (i := 9) sc.nd rfl (Or.inl rfl) (ed_tup (ad_cons (ed_call g.c_normal hr tk rfl (ad_cons (ed_ix ix_seq rp_ix (ed_var (pv 2)) ed_int (fun _ _ => rfl)) (ad_cons (ed_ix ix_seq rp_ix (ed_var (pv 2)) ed_int (fun _ _ => rfl)) ad_nil)) (len_cons (len_cons len_nil))) (ad_cons (ed_call g.c_add hr tk rfl (ad_cons (ed_var (pv 3)) (ad_cons (ed_var (pv 5)) ad_nil)) (len_cons (len_cons len_nil))) (ad_cons (ed_call g.c_subtract hr tk rfl (ad_cons (ed_var (pv 3)) (ad_cons (ed_var (pv 5)) ad_nil)) (len_cons (len_cons len_nil))) (ad_cons (ed_call g.c_multiply hr tk rfl (ad_cons (ed_var (pv 3)) (ad_cons (ed_var (pv 5)) ad_nil)) (len_cons (len_cons len_nil))) (ad_cons (ed_call g.c_negative hr tk rfl (ad_cons (ed_var (pv 3)) ad_nil) (len_cons len_nil)) ad_nil)))))))
    (bd_cons (sd_set (i := 10) sc.nd rfl (Or.inl rfl) (ed_tup (ad_cons (ed_var (pv 3)) (ad_cons (ed_call g.c__law_least hr tk rfl (ad_cons (ed_bin op_addD rp_add (ed_var (pv 6)) (ed_var (pv 7))) (ad_cons (ed_var (pv 8)) ad_nil)) (len_cons (len_cons len_nil))) (ad_cons (ed_call g.c__law_least hr tk rfl (ad_cons (ed_bin op_sub rp_sub (ed_var (pv 6)) (ed_var (pv 7))) (ad_cons (ed_var (pv 8)) ad_nil)) (len_cons (len_cons len_nil))) (ad_cons (ed_call g.c__law_least hr tk rfl (ad_cons (ed_bin op_mulD rp_mul (ed_ix ix_seq rp_ix (ed_var (pv 3)) ed_int (fun _ _ => rfl)) (ed_ix ix_seq rp_ix (ed_var (pv 5)) ed_int (fun _ _ => rfl))) (ad_cons (ed_var (pv 8)) ad_nil)) (len_cons (len_cons len_nil))) (ad_cons (ed_tup (ad_cons (ed_un un_neg rp_neg (ed_ix ix_seq rp_ix (ed_var (pv 3)) ed_int (fun _ _ => rfl))) (ad_cons (ed_ix ix_seq rp_ix (ed_var (pv 3)) ed_int (fun _ _ => rfl)) ad_nil))) ad_nil)))))))
    (bd_cons (sd_if (td_not (td_val (ed_call g.c__law_same hr tk rfl (ad_cons (ed_var (pv 9)) (ad_cons (ed_var (pv 10)) ad_nil)) (len_cons (len_cons len_nil))))) (bd_one (sd_ret ed_bl)) bd_nil)
    (bd_cons (sd_set (i := 11) sc.nd rfl (Or.inl rfl) (ed_bin op_sub rp_sub (ed_callTy (call_int_str.or call_int1) rp_intA rfl g.f_int boot_int (ad_cons (ed_cmp op_gtD rp_gt (ed_var (pv 6)) (ed_var (pv 7)) (nomark _)) ad_nil)) (ed_callTy (call_int_str.or call_int1) rp_intA rfl g.f_int boot_int (ad_cons (ed_cmp op_ltD rp_lt (ed_var (pv 6)) (ed_var (pv 7)) (nomark _)) ad_nil))))
    (bd_cons (sd_if (td_not (td_val (ed_call g.c__law_same hr tk rfl (ad_cons (ed_tup (ad_cons (ed_call g.c_compare hr tk rfl (ad_cons (ed_var (pv 3)) (ad_cons (ed_var (pv 5)) ad_nil)) (len_cons (len_cons len_nil))) (ad_cons (ed_call g.c_compare hr tk rfl (ad_cons (ed_var (pv 5)) (ad_cons (ed_var (pv 3)) ad_nil)) (len_cons (len_cons len_nil))) (ad_cons (ed_call g.c_show hr tk rfl (ad_cons (ed_var (pv 3)) ad_nil) (len_cons len_nil)) ad_nil)))) (ad_cons (ed_tup (ad_cons (ed_var (pv 11)) (ad_cons (ed_un un_neg rp_neg (ed_var (pv 11))) (ad_cons (ed_call g.c__law_text hr tk rfl (ad_cons (ed_var (pv 3)) ad_nil) (len_cons len_nil)) ad_nil)))) ad_nil)) (len_cons (len_cons len_nil))))) (bd_one (sd_ret ed_bl)) bd_nil)
    (bd_cons (sd_set (i := 12) sc.nd rfl (Or.inl rfl) (ed_call g.c__law_draw hr tk rfl (ad_cons (ed_var (pv 1)) (ad_cons ed_int ad_nil)) (len_cons (len_cons len_nil))))
    (bd_cons (sd_set (i := 13) sc.nd rfl (Or.inl rfl) (ed_call g.c__law_draw hr tk rfl (ad_cons (ed_var (pv 1)) (ad_cons ed_int ad_nil)) (len_cons (len_cons len_nil))))
    (bd_cons (sd_if (td_not (td_val (ed_call g.c__law_same hr tk rfl (ad_cons (ed_tup (ad_cons (ed_call g.c_aligned hr tk rfl (ad_cons (ed_var (pv 3)) (ad_cons (ed_bin op_addD rp_add (ed_ix ix_seq rp_ix (ed_var (pv 3)) ed_int (fun _ _ => rfl)) (ed_var (pv 12))) ad_nil)) (len_cons (len_cons len_nil))) (ad_cons (ed_call g.c_fits hr tk rfl (ad_cons (ed_ix ix_seq rp_ix (ed_var (pv 3)) ed_int (fun _ _ => rfl)) (ad_cons (ed_var (pv 13)) ad_nil)) (len_cons (len_cons len_nil))) ad_nil))) (ad_cons (ed_tup (ad_cons (ed_bin op_mulD rp_mul (ed_ix ix_seq rp_ix (ed_var (pv 3)) ed_int (fun _ _ => rfl)) (ed_call g.c__law_ten hr tk rfl (ad_cons (ed_var (pv 12)) ad_nil) (len_cons len_nil))) (ad_cons (ed_cmp op_ltD rp_lt (ed_callB call_abs rp_abs rfl g.f_abs boot_abs (ad_cons (ed_ix ix_seq rp_ix (ed_var (pv 3)) ed_int (fun _ _ => rfl)) ad_nil)) (ed_call g.c__law_ten hr tk rfl (ad_cons (ed_var (pv 13)) ad_nil) (len_cons len_nil)) (nomark _)) ad_nil))) ad_nil)) (len_cons (len_cons len_nil))))) (bd_one (sd_ret ed_bl)) bd_nil)
    (bd_cons (sd_set (i := 14) sc.nd rfl (Or.inl rfl) (ed_call g.c__law_draw hr tk rfl (ad_cons (ed_var (pv 1)) (ad_cons ed_int ad_nil)) (len_cons (len_cons len_nil))))
    (bd_cons (sd_set (i := 15) sc.nd rfl (Or.inl rfl) (ed_bin op_mulD rp_mul (ed_ix ix_seq rp_ix (ed_var (pv 3)) ed_int (fun _ _ => rfl)) (ed_call g.c__law_ten hr tk rfl (ad_cons (ed_var (pv 14)) ad_nil) (len_cons len_nil))))
    (bd_cons (sd_set (i := 16) sc.nd rfl (Or.inl rfl) (ed_tup (ad_cons (ed_call g.c__law_part hr tk rfl (ad_cons (ed_var (pv 15)) (ad_cons (ed_call g.c__law_ten hr tk rfl (ad_cons (ed_ix ix_seq rp_ix (ed_var (pv 3)) ed_int (fun _ _ => rfl)) ad_nil) (len_cons len_nil)) (ad_cons ed_bl ad_nil))) (len_cons (len_cons (len_cons len_nil)))) (ad_cons (ed_call g.c__law_part hr tk rfl (ad_cons (ed_var (pv 15)) (ad_cons (ed_call g.c__law_ten hr tk rfl (ad_cons (ed_ix ix_seq rp_ix (ed_var (pv 3)) ed_int (fun _ _ => rfl)) ad_nil) (len_cons len_nil)) (ad_cons ed_bl ad_nil))) (len_cons (len_cons (len_cons len_nil)))) ad_nil))))
    (bd_one (sd_ret (ed_call g.c__law_same hr tk rfl (ad_cons (ed_tup (ad_cons (ed_call g.c_units_at hr tk rfl (ad_cons (ed_var (pv 3)) (ad_cons (ed_var (pv 14)) (ad_cons ed_bl ad_nil))) (len_cons (len_cons (len_cons len_nil)))) (ad_cons (ed_call g.c_units_at hr tk rfl (ad_cons (ed_var (pv 3)) (ad_cons (ed_var (pv 14)) (ad_cons ed_bl ad_nil))) (len_cons (len_cons (len_cons len_nil)))) ad_nil))) (ad_cons (ed_var (pv 16)) ad_nil)) (len_cons (len_cons len_nil)))))))))))))))))))))))))
/-- what the written part holds -/
structure Fx (K : PySem.W.Frag) (mg : Str → Option Value) : Prop where
  d_normal : FD K mg "normal" (defArgs s_normal) (defBody s_normal) (defScope s_normal) ["units", "scale"]
  d_power : FD K mg "power" (defArgs s_power) (defBody s_power) (defScope s_power) ["exponent"]
  d_aligned : FD K mg "aligned" (defArgs s_aligned) (defBody s_aligned) (defScope s_aligned) ["number", "scale"]
  d_add : FD K mg "add" (defArgs s_add) (defBody s_add) (defScope s_add) ["a", "b"]
  d_negative : FD K mg "negative" (defArgs s_negative) (defBody s_negative) (defScope s_negative) ["a"]
  d_subtract : FD K mg "subtract" (defArgs s_subtract) (defBody s_subtract) (defScope s_subtract) ["a", "b"]
  d_multiply : FD K mg "multiply" (defArgs s_multiply) (defBody s_multiply) (defScope s_multiply) ["a", "b"]
  d_compare : FD K mg "compare" (defArgs s_compare) (defBody s_compare) (defScope s_compare) ["a", "b"]
  d_quotient : FD K mg "quotient" (defArgs s_quotient) (defBody s_quotient) (defScope s_quotient) ["above", "below", "is_rounded"]
  d_units_at : FD K mg "units_at" (defArgs s_units_at) (defBody s_units_at) (defScope s_units_at) ["a", "scale", "is_rounded"]
  d_fits : FD K mg "fits" (defArgs s_fits) (defBody s_fits) (defScope s_fits) ["units", "digits"]
  d_figures_of : FD K mg "figures_of" (defArgs s_figures_of) (defBody s_figures_of) (defScope s_figures_of) ["number"]
  d_show : FD K mg "show" (defArgs s_show) (defBody s_show) (defScope s_show) ["a"]
  d__law_draws : FD K mg "_law_draws" (defArgs s__law_draws) (defBody s__law_draws) (defScope s__law_draws) ["script"]
  d__law_draw : FD K mg "_law_draw" (defArgs s__law_draw) (defBody s__law_draw) (defScope s__law_draw) ["draws", "limit"]
  d__law_same : FD K mg "_law_same" (defArgs s__law_same) (defBody s__law_same) (defScope s__law_same) ["actual", "expected"]
  d__law_ten : FD K mg "_law_ten" (defArgs s__law_ten) (defBody s__law_ten) (defScope s__law_ten) ["scale"]
  d__law_number : FD K mg "_law_number" (defArgs s__law_number) (defBody s__law_number) (defScope s__law_number) ["draws"]
  d__law_least : FD K mg "_law_least" (defArgs s__law_least) (defBody s__law_least) (defScope s__law_least) ["units", "scale"]
  d__law_part : FD K mg "_law_part" (defArgs s__law_part) (defBody s__law_part) (defScope s__law_part) ["above", "below", "is_rounded"]
  d__law_text : FD K mg "_law_text" (defArgs s__law_text) (defBody s__law_text) (defScope s__law_text) ["number"]
  d_law : FD K mg "law" (defArgs s_law) (defBody s_law) (defScope s_law) ["script"]
  f_abs : mg "abs" = none
  f_bool : mg "bool" = none
  f_int : mg "int" = none
  f_isinstance : mg "isinstance" = none
  f_len : mg "len" = none
  f_list : mg "list" = none
  f_max : mg "max" = none
  f_range : mg "range" = none
  f_str : mg "str" = none
  f_tuple : mg "tuple" = none
  k_CHUNK : GC K mg "CHUNK" (.int 1000)
theorem gs_all {P : Program} {w : World} {K : PySem.W.Frag} {mg : Str → Option Value} {base : Heap} (x : Fx K mg) : ∀ k, Gs P w K mg base k (T k)
  | 0 => ⟨callF_zero x.d_normal, callF_zero x.d_power, callF_zero x.d_aligned, callF_zero x.d_add, callF_zero x.d_negative, callF_zero x.d_subtract, callF_zero x.d_multiply, callF_zero x.d_compare, callF_zero x.d_quotient, callF_zero x.d_units_at, callF_zero x.d_fits, callF_zero x.d_figures_of, callF_zero x.d_show, callF_zero x.d__law_draws, callF_zero x.d__law_draw, callF_zero x.d__law_same, callF_zero x.d__law_ten, callF_zero x.d__law_number, callF_zero x.d__law_least, callF_zero x.d__law_part, callF_zero x.d__law_text, callF_zero x.d_law, x.f_abs, x.f_bool, x.f_int, x.f_isinstance, x.f_len, x.f_list, x.f_max, x.f_range, x.f_str, x.f_tuple, x.k_CHUNK⟩
  | k + 1 => by
    have g := gs_all (P := P) (w := w) (base := base) x k
    exact ⟨(callF_succ x.d_normal sc_normal rfl fun f cdv A outer s H E hr => d_normal g hr),
      (callF_succ x.d_power sc_power rfl fun f cdv A outer s H E hr => d_power g hr),
      (callF_succ x.d_aligned sc_aligned rfl fun f cdv A outer s H E hr => d_aligned g hr),
      (callF_succ x.d_add sc_add rfl fun f cdv A outer s H E hr => d_add g hr),
      (callF_succ x.d_negative sc_negative rfl fun f cdv A outer s H E hr => d_negative g hr),
      (callF_succ x.d_subtract sc_subtract rfl fun f cdv A outer s H E hr => d_subtract g hr),
      (callF_succ x.d_multiply sc_multiply rfl fun f cdv A outer s H E hr => d_multiply g hr),
      (callF_succ x.d_compare sc_compare rfl fun f cdv A outer s H E hr => d_compare g hr),
      (callF_succ x.d_quotient sc_quotient rfl fun f cdv A outer s H E hr => d_quotient g hr),
      (callF_succ x.d_units_at sc_units_at rfl fun f cdv A outer s H E hr => d_units_at g hr),
      (callF_succ x.d_fits sc_fits rfl fun f cdv A outer s H E hr => d_fits g hr),
      callF_trim (callF_succ x.d_figures_of sc_figures_of rfl fun f cdv A outer s H E hr => d_figures_of g hr),
      (callF_succ x.d_show sc_show rfl fun f cdv A outer s H E hr => d_show g hr),
      callF_trim (callF_succ x.d__law_draws sc__law_draws rfl fun f cdv A outer s H E hr => d__law_draws g hr),
      (callF_succ x.d__law_draw sc__law_draw rfl fun f cdv A outer s H E hr => d__law_draw g hr),
      (callF_succ x.d__law_same sc__law_same rfl fun f cdv A outer s H E hr => d__law_same g hr),
      (callF_succ x.d__law_ten sc__law_ten rfl fun f cdv A outer s H E hr => d__law_ten g hr),
      (callF_succ x.d__law_number sc__law_number rfl fun f cdv A outer s H E hr => d__law_number g hr),
      (callF_succ x.d__law_least sc__law_least rfl fun f cdv A outer s H E hr => d__law_least g hr),
      (callF_succ x.d__law_part sc__law_part rfl fun f cdv A outer s H E hr => d__law_part g hr),
      (callF_succ x.d__law_text sc__law_text rfl fun f cdv A outer s H E hr => d__law_text g hr),
      (callF_succ x.d_law sc_law rfl fun f cdv A outer s H E hr => d_law g hr),
      x.f_abs, x.f_bool, x.f_int, x.f_isinstance, x.f_len, x.f_list, x.f_max, x.f_range, x.f_str, x.f_tuple, x.k_CHUNK⟩
def e_normal : He.DefD := ⟨("normal", none), "normal", "normal", defArgs s_normal, defBody s_normal, defScope s_normal, [], []⟩
def e_power : He.DefD := ⟨("power", none), "power", "power", defArgs s_power, defBody s_power, defScope s_power, [], []⟩
def e_aligned : He.DefD := ⟨("aligned", none), "aligned", "aligned", defArgs s_aligned, defBody s_aligned, defScope s_aligned, [], []⟩
def e_add : He.DefD := ⟨("add", none), "add", "add", defArgs s_add, defBody s_add, defScope s_add, [], []⟩
def e_negative : He.DefD := ⟨("negative", none), "negative", "negative", defArgs s_negative, defBody s_negative, defScope s_negative, [], []⟩
def e_subtract : He.DefD := ⟨("subtract", none), "subtract", "subtract", defArgs s_subtract, defBody s_subtract, defScope s_subtract, [], []⟩
def e_multiply : He.DefD := ⟨("multiply", none), "multiply", "multiply", defArgs s_multiply, defBody s_multiply, defScope s_multiply, [], []⟩
def e_compare : He.DefD := ⟨("compare", none), "compare", "compare", defArgs s_compare, defBody s_compare, defScope s_compare, [], []⟩
def e_quotient : He.DefD := ⟨("quotient", none), "quotient", "quotient", defArgs s_quotient, defBody s_quotient, defScope s_quotient, [], []⟩
def e_units_at : He.DefD := ⟨("units_at", none), "units_at", "units_at", defArgs s_units_at, defBody s_units_at, defScope s_units_at, [], []⟩
def e_fits : He.DefD := ⟨("fits", none), "fits", "fits", defArgs s_fits, defBody s_fits, defScope s_fits, [], []⟩
def e_figures_of : He.DefD := ⟨("figures_of", none), "figures_of", "figures_of", defArgs s_figures_of, defBody s_figures_of, defScope s_figures_of, [], []⟩
def e_show : He.DefD := ⟨("show", none), "show", "show", defArgs s_show, defBody s_show, defScope s_show, [], []⟩
def e__law_draws : He.DefD := ⟨("_law_draws", none), "_law_draws", "_law_draws", defArgs s__law_draws, defBody s__law_draws, defScope s__law_draws, [], []⟩
def e__law_draw : He.DefD := ⟨("_law_draw", none), "_law_draw", "_law_draw", defArgs s__law_draw, defBody s__law_draw, defScope s__law_draw, [], []⟩
def e__law_same : He.DefD := ⟨("_law_same", none), "_law_same", "_law_same", defArgs s__law_same, defBody s__law_same, defScope s__law_same, [], []⟩
def e__law_ten : He.DefD := ⟨("_law_ten", none), "_law_ten", "_law_ten", defArgs s__law_ten, defBody s__law_ten, defScope s__law_ten, [], []⟩
def e__law_number : He.DefD := ⟨("_law_number", none), "_law_number", "_law_number", defArgs s__law_number, defBody s__law_number, defScope s__law_number, [], []⟩
def e__law_least : He.DefD := ⟨("_law_least", none), "_law_least", "_law_least", defArgs s__law_least, defBody s__law_least, defScope s__law_least, [], []⟩
def e__law_part : He.DefD := ⟨("_law_part", none), "_law_part", "_law_part", defArgs s__law_part, defBody s__law_part, defScope s__law_part, [], []⟩
def e__law_text : He.DefD := ⟨("_law_text", none), "_law_text", "_law_text", defArgs s__law_text, defBody s__law_text, defScope s__law_text, [], []⟩
def e_law : He.DefD := ⟨("law", none), "law", "law", defArgs s_law, defBody s_law, defScope s_law, [], []⟩
def fn : List He.DefD := [e_normal, e_power, e_aligned, e_add, e_negative, e_subtract, e_multiply, e_compare, e_quotient, e_units_at, e_fits, e_figures_of, e_show, e__law_draws, e__law_draw, e__law_same, e__law_ten, e__law_number, e__law_least, e__law_part, e__law_text, e_law]
def ex (K : PySem.W.Frag) : Bool := true
def fa : List He.Fa := [.glo "normal", .glo "power", .glo "aligned", .glo "add", .glo "negative", .glo "subtract", .glo "multiply", .glo "compare", .glo "quotient", .glo "units_at", .glo "fits", .glo "figures_of", .glo "show", .glo "_law_draws", .glo "_law_draw", .glo "_law_same", .glo "_law_ten", .glo "_law_number", .glo "_law_least", .glo "_law_part", .glo "_law_text", .glo "law", .free "abs", .free "bool", .free "int", .free "isinstance", .free "len", .free "list", .free "max", .free "range", .free "str", .free "tuple", .int "CHUNK" 1000]
abbrev R : PySem.W.OpenRow := PySem.W.OpenLaw.row PySem.Challenge.rw_cardwright_k05_decimals_without_bound
abbrev hk : PySem.W.Hook := PD.hookB 4 fa fn ex
def ob (s : PySem.W.SharedT) : He.AlD × Bool := PD.obsB 4 fa fn ex (HandSHeadRun.getT s)
theorem ob_eq (s : PySem.W.SharedT) : ob s = hk.obs s.abs := PD.obsB_eq (HandSHeadRun.getT_eq s)
def loose : List Str := ["normal", "power", "aligned", "add", "negative", "subtract", "multiply", "compare", "quotient", "units_at", "fits", "figures_of", "show", "_law_draws", "_law_draw", "_law_same", "_law_ten", "_law_number", "_law_least", "_law_part", "_law_text", "CHUNK"]
theorem run (w : World) : HandSHeadRun.RunEq R (PySem.W.view R.prog [24]) hk ob 2100 loose w := by
  intro os
  kernel_rfl
theorem facts {K : PySem.W.Frag} {h : Heap} {mg : Str → Option Value} (X : K.In h) (G : h.Ns mainGlobals mg) (c : He.SaysD fa fn K) (c2 : ex K = true) : Fx K mg := by
  refine ⟨?_, ?_, ?_, ?_, ?_, ?_, ?_, ?_, ?_, ?_, ?_, ?_, ?_, ?_, ?_, ?_, ?_, ?_, ?_, ?_, ?_, ?_, ?_, ?_, ?_, ?_, ?_, ?_, ?_, ?_, ?_, ?_, ?_⟩
  · obtain ⟨fd, F⟩ := c.def_ 0 (d := e_normal) rfl
    exact ⟨_, fd, F, He.glo_ok X G (c.fact 0 rfl), FunD.bindsN F fun _ _ _ _ _ _ us hl => match us, hl with | [_, _], _ => rfl⟩
  · obtain ⟨fd, F⟩ := c.def_ 1 (d := e_power) rfl
    exact ⟨_, fd, F, He.glo_ok X G (c.fact 1 rfl), FunD.bindsN F fun _ _ _ _ _ _ us hl => match us, hl with | [_], _ => rfl⟩
  · obtain ⟨fd, F⟩ := c.def_ 2 (d := e_aligned) rfl
    exact ⟨_, fd, F, He.glo_ok X G (c.fact 2 rfl), FunD.bindsN F fun _ _ _ _ _ _ us hl => match us, hl with | [_, _], _ => rfl⟩
  · obtain ⟨fd, F⟩ := c.def_ 3 (d := e_add) rfl
    exact ⟨_, fd, F, He.glo_ok X G (c.fact 3 rfl), FunD.bindsN F fun _ _ _ _ _ _ us hl => match us, hl with | [_, _], _ => rfl⟩
  · obtain ⟨fd, F⟩ := c.def_ 4 (d := e_negative) rfl
    exact ⟨_, fd, F, He.glo_ok X G (c.fact 4 rfl), FunD.bindsN F fun _ _ _ _ _ _ us hl => match us, hl with | [_], _ => rfl⟩
  · obtain ⟨fd, F⟩ := c.def_ 5 (d := e_subtract) rfl
    exact ⟨_, fd, F, He.glo_ok X G (c.fact 5 rfl), FunD.bindsN F fun _ _ _ _ _ _ us hl => match us, hl with | [_, _], _ => rfl⟩
  · obtain ⟨fd, F⟩ := c.def_ 6 (d := e_multiply) rfl
    exact ⟨_, fd, F, He.glo_ok X G (c.fact 6 rfl), FunD.bindsN F fun _ _ _ _ _ _ us hl => match us, hl with | [_, _], _ => rfl⟩
  · obtain ⟨fd, F⟩ := c.def_ 7 (d := e_compare) rfl
    exact ⟨_, fd, F, He.glo_ok X G (c.fact 7 rfl), FunD.bindsN F fun _ _ _ _ _ _ us hl => match us, hl with | [_, _], _ => rfl⟩
  · obtain ⟨fd, F⟩ := c.def_ 8 (d := e_quotient) rfl
    exact ⟨_, fd, F, He.glo_ok X G (c.fact 8 rfl), FunD.bindsN F fun _ _ _ _ _ _ us hl => match us, hl with | [_, _, _], _ => rfl⟩
  · obtain ⟨fd, F⟩ := c.def_ 9 (d := e_units_at) rfl
    exact ⟨_, fd, F, He.glo_ok X G (c.fact 9 rfl), FunD.bindsN F fun _ _ _ _ _ _ us hl => match us, hl with | [_, _, _], _ => rfl⟩
  · obtain ⟨fd, F⟩ := c.def_ 10 (d := e_fits) rfl
    exact ⟨_, fd, F, He.glo_ok X G (c.fact 10 rfl), FunD.bindsN F fun _ _ _ _ _ _ us hl => match us, hl with | [_, _], _ => rfl⟩
  · obtain ⟨fd, F⟩ := c.def_ 11 (d := e_figures_of) rfl
    exact ⟨_, fd, F, He.glo_ok X G (c.fact 11 rfl), FunD.bindsN F fun _ _ _ _ _ _ us hl => match us, hl with | [_], _ => rfl⟩
  · obtain ⟨fd, F⟩ := c.def_ 12 (d := e_show) rfl
    exact ⟨_, fd, F, He.glo_ok X G (c.fact 12 rfl), FunD.bindsN F fun _ _ _ _ _ _ us hl => match us, hl with | [_], _ => rfl⟩
  · obtain ⟨fd, F⟩ := c.def_ 13 (d := e__law_draws) rfl
    exact ⟨_, fd, F, He.glo_ok X G (c.fact 13 rfl), FunD.bindsN F fun _ _ _ _ _ _ us hl => match us, hl with | [_], _ => rfl⟩
  · obtain ⟨fd, F⟩ := c.def_ 14 (d := e__law_draw) rfl
    exact ⟨_, fd, F, He.glo_ok X G (c.fact 14 rfl), FunD.bindsN F fun _ _ _ _ _ _ us hl => match us, hl with | [_, _], _ => rfl⟩
  · obtain ⟨fd, F⟩ := c.def_ 15 (d := e__law_same) rfl
    exact ⟨_, fd, F, He.glo_ok X G (c.fact 15 rfl), FunD.bindsN F fun _ _ _ _ _ _ us hl => match us, hl with | [_, _], _ => rfl⟩
  · obtain ⟨fd, F⟩ := c.def_ 16 (d := e__law_ten) rfl
    exact ⟨_, fd, F, He.glo_ok X G (c.fact 16 rfl), FunD.bindsN F fun _ _ _ _ _ _ us hl => match us, hl with | [_], _ => rfl⟩
  · obtain ⟨fd, F⟩ := c.def_ 17 (d := e__law_number) rfl
    exact ⟨_, fd, F, He.glo_ok X G (c.fact 17 rfl), FunD.bindsN F fun _ _ _ _ _ _ us hl => match us, hl with | [_], _ => rfl⟩
  · obtain ⟨fd, F⟩ := c.def_ 18 (d := e__law_least) rfl
    exact ⟨_, fd, F, He.glo_ok X G (c.fact 18 rfl), FunD.bindsN F fun _ _ _ _ _ _ us hl => match us, hl with | [_, _], _ => rfl⟩
  · obtain ⟨fd, F⟩ := c.def_ 19 (d := e__law_part) rfl
    exact ⟨_, fd, F, He.glo_ok X G (c.fact 19 rfl), FunD.bindsN F fun _ _ _ _ _ _ us hl => match us, hl with | [_, _, _], _ => rfl⟩
  · obtain ⟨fd, F⟩ := c.def_ 20 (d := e__law_text) rfl
    exact ⟨_, fd, F, He.glo_ok X G (c.fact 20 rfl), FunD.bindsN F fun _ _ _ _ _ _ us hl => match us, hl with | [_], _ => rfl⟩
  · obtain ⟨fd, F⟩ := c.def_ 21 (d := e_law) rfl
    exact ⟨_, fd, F, He.glo_ok X G (c.fact 21 rfl), FunD.bindsN F fun _ _ _ _ _ _ us hl => match us, hl with | [_], _ => rfl⟩
  · exact He.free_ok X G (c.fact 22 rfl)
  · exact He.free_ok X G (c.fact 23 rfl)
  · exact He.free_ok X G (c.fact 24 rfl)
  · exact He.free_ok X G (c.fact 25 rfl)
  · exact He.free_ok X G (c.fact 26 rfl)
  · exact He.free_ok X G (c.fact 27 rfl)
  · exact He.free_ok X G (c.fact 28 rfl)
  · exact He.free_ok X G (c.fact 29 rfl)
  · exact He.free_ok X G (c.fact 30 rfl)
  · exact He.free_ok X G (c.fact 31 rfl)
  · obtain ⟨t, e⟩ := He.int_ok X G (c.fact 32 rfl)
    exact ⟨_, .int 1000, e, ⟨t, rfl⟩, fun _ _ => by simp [DV]⟩
local macro_rules | `(tactic| walk_at "ev") => `(tactic| simp only [g_ixLoc, g_lenLoc', ixD_0, ixD_1, ixD_2, ixD_3, Bool.true_and, Bool.false_and, Bool.and_true, Bool.and_false, Bool.or_true, Bool.true_or, Bool.or_false, Bool.false_or, a_sm, a_lm, a_iany, a_comp, a_yes, g_mulAI, g_mulAS, g_slS, g_slT, g_slL, g_slF, g_revL, g_revF, g_starts, g_ends, g_joinM, g_zfill, g_str, g_intAI, g_intAB, g_intAS, g_ord, g_inC, g_notInC, g_allM, g_anyM, g_append, g_pop, a_range3, a_int3, a_gI, g_listL, g_listF, g_listT, g_tupL, g_tupF, g_tupT, a_run, a_turn, a_seq, a_skip, a_break, a_cont, a_if, a_ret, a_retN, a_drop, a_set, a_asg, a_aug, a_for, a_var, a_c, a_bin, a_un, a_b, a_nil, a_cons, a_tup, a_lst, a_loc, a_call, a_and, a_or, a_not, a_andV, a_orV, a_notV, a_ifE, a_asB, a_sl, a_nopart, a_part, a_gN, a_gT, a_gsNil, a_gsCons, noex_ok, a_range1, a_range2, a_iseq, a_int1, a_int2, g_add, g_addA, g_addAS, g_addS, g_addT, g_addL, g_sub, g_mul, g_div, g_mod, g_pow, g_lt, g_gt, g_le, g_ge, g_ltS, g_gtS, g_leS, g_geS, g_eq, g_ne, g_eqS, g_neS, g_eqB, g_neB, g_neg, g_abs, g_max, g_min, g_int, g_intB, g_ixT, g_ixL, g_ixF, g_lenT, g_lenL, g_lenF, g_lenS, at_nat, at_0, at_1, at_2, at_3, at_4, bind_ok, toS_ok, bind_ex, toS_ex, decide_eq_true_eq, Bool.not_eq_true, decide_eq_false_iff_not, List.map, List.length, List.length_map, List.replicate, List.cons_append, List.nil_append, List.append_nil, List.set, List.getElem?_cons_succ, List.getElem?_cons_zero, Nat.sub_self, Nat.reduceSub, Nat.reduceAdd, Int.toNat_natCast, if_true, if_false, ite_true, ite_false, reduceIte, Bool.false_eq_true, Bool.true_eq_false, Bool.not_true, Bool.not_false, decide_true, decide_false, isi_non_int, isi_non_bool, isi_non_str, isi_non_tuple, isi_non_list, isi_non_dict, isi_bl_int, isi_bl_bool, isi_bl_str, isi_bl_tuple, isi_bl_list, isi_bl_dict, isi_int_int, isi_int_bool, isi_int_str, isi_int_tuple, isi_int_list, isi_int_dict, isi_str_int, isi_str_bool, isi_str_str, isi_str_tuple, isi_str_list, isi_str_dict, isi_tup_int, isi_tup_bool, isi_tup_str, isi_tup_tuple, isi_tup_list, isi_tup_dict, isi_lst_int, isi_lst_bool, isi_lst_str, isi_lst_tuple, isi_lst_list, isi_lst_dict, isi_fz_int, isi_fz_bool, isi_fz_str, isi_fz_tuple, isi_fz_list, isi_fz_dict, so0, so1, so2, so3, so4, so5, so6, so7, so8, so9, so10, do10, mo10])
local macro_rules | `(tactic| walk_at "ev*") => `(tactic| simp only [g_ixLoc, g_lenLoc', ixD_0, ixD_1, ixD_2, ixD_3, Bool.true_and, Bool.false_and, Bool.and_true, Bool.and_false, Bool.or_true, Bool.true_or, Bool.or_false, Bool.false_or, a_sm, a_lm, a_iany, a_comp, a_yes, g_mulAI, g_mulAS, g_slS, g_slT, g_slL, g_slF, g_revL, g_revF, g_starts, g_ends, g_joinM, g_zfill, g_str, g_intAI, g_intAB, g_intAS, g_ord, g_inC, g_notInC, g_allM, g_anyM, g_append, g_pop, a_range3, a_int3, a_gI, g_listL, g_listF, g_listT, g_tupL, g_tupF, g_tupT, a_run, a_turn, a_seq, a_skip, a_break, a_cont, a_if, a_ret, a_retN, a_drop, a_set, a_asg, a_aug, a_for, a_var, a_c, a_bin, a_un, a_b, a_nil, a_cons, a_tup, a_lst, a_loc, a_call, a_and, a_or, a_not, a_andV, a_orV, a_notV, a_ifE, a_asB, a_sl, a_nopart, a_part, a_gN, a_gT, a_gsNil, a_gsCons, noex_ok, a_range1, a_range2, a_iseq, a_int1, a_int2, g_add, g_addA, g_addAS, g_addS, g_addT, g_addL, g_sub, g_mul, g_div, g_mod, g_pow, g_lt, g_gt, g_le, g_ge, g_ltS, g_gtS, g_leS, g_geS, g_eq, g_ne, g_eqS, g_neS, g_eqB, g_neB, g_neg, g_abs, g_max, g_min, g_int, g_intB, g_ixT, g_ixL, g_ixF, g_lenT, g_lenL, g_lenF, g_lenS, at_nat, at_0, at_1, at_2, at_3, at_4, bind_ok, toS_ok, bind_ex, toS_ex, decide_eq_true_eq, Bool.not_eq_true, decide_eq_false_iff_not, List.map, List.length, List.length_map, List.replicate, List.cons_append, List.nil_append, List.append_nil, List.set, List.getElem?_cons_succ, List.getElem?_cons_zero, Nat.sub_self, Nat.reduceSub, Nat.reduceAdd, Int.toNat_natCast, if_true, if_false, ite_true, ite_false, reduceIte, Bool.false_eq_true, Bool.true_eq_false, Bool.not_true, Bool.not_false, decide_true, decide_false, isi_non_int, isi_non_bool, isi_non_str, isi_non_tuple, isi_non_list, isi_non_dict, isi_bl_int, isi_bl_bool, isi_bl_str, isi_bl_tuple, isi_bl_list, isi_bl_dict, isi_int_int, isi_int_bool, isi_int_str, isi_int_tuple, isi_int_list, isi_int_dict, isi_str_int, isi_str_bool, isi_str_str, isi_str_tuple, isi_str_list, isi_str_dict, isi_tup_int, isi_tup_bool, isi_tup_str, isi_tup_tuple, isi_tup_list, isi_tup_dict, isi_lst_int, isi_lst_bool, isi_lst_str, isi_lst_tuple, isi_lst_list, isi_lst_dict, isi_fz_int, isi_fz_bool, isi_fz_str, isi_fz_tuple, isi_fz_list, isi_fz_dict, so0, so1, so2, so3, so4, so5, so6, so7, so8, so9, so10, do10, mo10, *])
/-! numbers: bounds by figures, the least scale -/
def Bn (n : Nat) (i : Int) : Prop := i.natAbs < 10 ^ n
theorem bn_mono {n m : Nat} {i : Int} (h : Bn n i) (hm : n ≤ m) : Bn m i := Nat.lt_of_lt_of_le h (Nat.pow_le_pow_right (by decide) hm)
theorem bn_pow (n : Nat) : Bn (n + 1) ((10 : Int) ^ n) := by
  unfold Bn
  rw [Int.natAbs_pow, show Int.natAbs 10 = 10 from rfl]
  exact Nat.pow_lt_pow_right (by decide) (Nat.lt_succ_self n)
theorem bn_mul {n m : Nat} {i j : Int} (h : Bn n i) (g : Bn m j) : Bn (n + m) (i * j) := by
  unfold Bn at *
  rw [Int.natAbs_mul, Nat.pow_add]
  exact Nat.mul_lt_mul'' h g
theorem bn_add {n : Nat} {i j : Int} (h : Bn n i) (g : Bn n j) : Bn (n + 1) (i + j) := by
  unfold Bn at *
  have := Int.natAbs_add_le i j
  rw [Nat.pow_succ]
  omega
theorem bn_neg {n : Nat} {i : Int} (h : Bn n i) : Bn n (-i) := by
  unfold Bn at *
  rw [Int.natAbs_neg]; exact h
theorem bn_sub {n : Nat} {i j : Int} (h : Bn n i) (g : Bn n j) : Bn (n + 1) (i - j) := by
  rw [Int.sub_eq_add_neg]; exact bn_add h (bn_neg g)
theorem bn_of {n : Nat} {i : Int} {z : Nat} (hz : z = 10 ^ n) (h1 : -(z : Int) < i) (h2 : i < (z : Int)) : Bn n i := by
  unfold Bn
  rw [← hz]
  omega
theorem pow_bits (n : Nat) : (10 : Nat) ^ n ≤ 2 ^ (4 * n) := by
  rw [Nat.pow_mul]
  exact Nat.pow_le_pow_left (by decide) n
theorem mulOk_bn {n m : Nat} {i j : Int} (h : Bn n i) (g : Bn m j) (hl : n + m ≤ 100000) : mulOk i j := by
  refine mulOk_wide (a := 4 * n + 1) (b := 4 * m + 1) ?_ ?_ (by omega) (by omega) (by omega)
  · exact Nat.lt_of_lt_of_le h (Nat.le_trans (pow_bits n) (Nat.pow_le_pow_right (by decide) (by omega)))
  · exact Nat.lt_of_lt_of_le g (Nat.le_trans (pow_bits m) (Nat.pow_le_pow_right (by decide) (by omega)))
theorem pow10_pos (n : Nat) : (0 : Int) < 10 ^ n := Int.pow_pos (by decide)
theorem small62_nat {n : Nat} (h : n ≤ 1000000) : small62 n := ⟨by omega, by omega⟩
/-- a decimal as data -/
def dec (p : Int × Nat) : D := .tup [.int p.1, .int p.2]
/-- the least scale -/
def nrm : Nat → Int → Int × Nat
  | 0, u => (u, 0)
  | s + 1, u => if u / 10 * 10 = u then nrm s (u / 10) else (u, s + 1)
/-- least -/
def Lst (p : Int × Nat) : Prop := p.2 = 0 ∨ p.1 % 10 ≠ 0
theorem nrm_spec : ∀ (s : Nat) (u : Int), (nrm s u).2 ≤ s ∧ (nrm s u).1 * 10 ^ (s - (nrm s u).2) = u ∧ Lst (nrm s u)
  | 0, u => ⟨Nat.le_refl _, by simp [nrm], .inl rfl⟩
  | s + 1, u => by
    unfold nrm
    by_cases h : u / 10 * 10 = u
    · rw [if_pos h]
      obtain ⟨h1, h2, h3⟩ := nrm_spec s (u / 10)
      refine ⟨by omega, ?_, h3⟩
      rw [show s + 1 - (nrm s (u / 10)).2 = s - (nrm s (u / 10)).2 + 1 by omega, Int.pow_succ, ← Int.mul_assoc, h2, h]
    · rw [if_neg h]
      exact ⟨Nat.le_refl _, by simp, .inr fun e => h (by show u / 10 * 10 = u; have e : u % 10 = 0 := e; omega)⟩
theorem nrm_val (s : Nat) (u : Int) : (nrm s u).1 * 10 ^ s = u * 10 ^ (nrm s u).2 := by
  obtain ⟨h1, h2, h3⟩ := nrm_spec s u
  calc (nrm s u).1 * 10 ^ s = (nrm s u).1 * (10 ^ (s - (nrm s u).2) * 10 ^ (nrm s u).2) := by rw [← Int.pow_add, show s - (nrm s u).2 + (nrm s u).2 = s by omega]
    _ = u * 10 ^ (nrm s u).2 := by rw [← Int.mul_assoc, h2]
theorem nrm_bn {n s : Nat} {u : Int} (h : Bn n u) : Bn n (nrm s u).1 := by
  obtain ⟨h1, h2, h3⟩ := nrm_spec s u
  unfold Bn at *
  refine Nat.lt_of_le_of_lt ?_ h
  have e : u.natAbs = (nrm s u).1.natAbs * 10 ^ (s - (nrm s u).2) := by
    rw [← h2, Int.natAbs_mul, Int.natAbs_pow, h2]; rfl
  rw [e]
  exact Nat.le_mul_of_pos_right _ (Nat.pow_pos (by decide))
/-- a least decimal is told by its value -/
theorem lst_eq {p : Int × Nat} (h : Lst p) : ∀ (m : Nat), nrm (p.2 + m) (p.1 * 10 ^ m) = p
  | 0 => by
    obtain ⟨u, s⟩ := p
    simp only [Nat.add_zero, Int.pow_zero, Int.mul_one]
    cases s with
    | zero => rfl
    | succ s =>
      unfold nrm
      rw [if_neg]
      rcases h with h | h
      · cases h
      · intro e
        apply h
        show u % 10 = 0
        omega
  | m + 1 => by
    show nrm ((p.2 + m) + 1) _ = p
    unfold nrm
    have e : p.1 * 10 ^ (m + 1) / 10 = p.1 * 10 ^ m := by
      rw [Int.pow_succ, ← Int.mul_assoc]
      exact Int.mul_ediv_cancel _ (by decide)
    rw [if_pos (by rw [e, Int.pow_succ, Int.mul_assoc]), e]
    exact lst_eq h m
/-- from one value to the other -/
theorem nrm_eq_of {s t : Nat} {u v : Int} (h : u * 10 ^ t = v * 10 ^ s) : nrm s u = nrm t v := by
  obtain ⟨a1, a2, a3⟩ := nrm_spec s u
  have key : ∀ (s t : Nat) (u v : Int), s ≤ t → u * 10 ^ t = v * 10 ^ s → nrm s u = nrm t v := by
    intro s t u v hst h
    obtain ⟨a1, a2, a3⟩ := nrm_spec s u
    have e : v = u * 10 ^ (t - s) := by
      have h2 : u * 10 ^ (t - s) * 10 ^ s = v * 10 ^ s := by
        rw [Int.mul_assoc, ← Int.pow_add, show t - s + s = t by omega, h]
      exact (Int.eq_of_mul_eq_mul_right (Int.ne_of_gt (pow10_pos s)) h2).symm
    have e2 : v = (nrm s u).1 * 10 ^ (t - (nrm s u).2) := by
      calc v = u * 10 ^ (t - s) := e
        _ = (nrm s u).1 * 10 ^ (s - (nrm s u).2) * 10 ^ (t - s) := by rw [a2]
        _ = (nrm s u).1 * 10 ^ (t - (nrm s u).2) := by rw [Int.mul_assoc, ← Int.pow_add, show s - (nrm s u).2 + (t - s) = t - (nrm s u).2 by omega]
    have e3 := lst_eq a3 (t - (nrm s u).2)
    rw [← e2, show (nrm s u).2 + (t - (nrm s u).2) = t by omega] at e3
    exact e3.symm
  by_cases hst : s ≤ t
  · exact key s t u v hst h
  · exact (key t s v u (by omega) h.symm).symm
theorem t_normal {k : Nat} (hk : 1 ≤ k) (s : Nat) (u : Int) (S : Sto) : (T k).normal [.int u, .int s] S = .ok (dec (nrm s u)) S := by
  obtain ⟨k, rfl⟩ := Nat.exists_eq_add_of_le' hk
  have lp : ∀ (s : Nat) (u : Int), mWhile (w_normal_1 (T k)) (l_normal_1 (T k)) [some (.int u), some (.int s)] S = .nx [some (.int (nrm s u).1), some (.int (nrm s u).2)] S := by
    intro s
    induction s with
    | zero =>
      intro u
      refine mWhile_done ?_
      unfold w_normal_1
      walk_at "ev"
      simp
    | succ s ih =>
      intro u
      have e1 : (0 : Int) < ((s + 1 : Nat) : Int) := by omega
      have e2 : ((s + 1 : Nat) : Int) - 1 = s := by omega
      by_cases h : u / 10 * 10 = u
      · refine (mWhile_step (E2 := [some (.int (u / 10)), some (.int s)]) (S1 := S) (S2 := S) ?_ ?_).trans ?_
        · unfold w_normal_1; generalize ((s + 1 : Nat) : Int) = z at e1 e2 ⊢; walk_at "ev*"
        · unfold l_normal_1; generalize ((s + 1 : Nat) : Int) = z at e1 e2 ⊢; walk_at "ev*"
        · rw [ih (u / 10), nrm, if_pos h]
      · refine (mWhile_done (S1 := S) ?_).trans ?_
        · unfold w_normal_1; generalize ((s + 1 : Nat) : Int) = z at e1 e2 ⊢; walk_at "ev*"
        · rw [nrm, if_neg h]
  rw [T_normal]
  unfold b_normal
  simp only [a_run, a_seq, List.map, List.length, List.replicate, List.cons_append, List.nil_append, Nat.sub_self, List.append_nil, Nat.reduceAdd]
  rw [lp]
  walk_at "ev"
  rfl
theorem t_power {k : Nat} (hk : 1 ≤ k) (n : Nat) (hn : n ≤ 1000000) (S : Sto) : (T k).power [.int n] S = .ok (.int (10 ^ n)) S := by
  obtain ⟨k, rfl⟩ := Nat.exists_eq_add_of_le' hk
  have lp : ∀ (a : Option D) (l : List D) (r : Int) (z : Option D), ∃ z', forD none (gN 2) (l_power_1 (T k)) l [a, some (.int r), z] S = .nx [a, some (.int (r * 10 ^ l.length)), z'] S := by
    intro a l
    induction l with
    | nil => exact fun r z => ⟨z, by rw [forD_nil]; simp⟩
    | cons x l ih =>
      intro r z
      have h : turn (gN 2) (l_power_1 (T k)) x [a, some (D.int r), z] S = SO.nx [a, some (.int (r * 10)), some x] S := by
        unfold l_power_1; walk_at "ev"
      obtain ⟨z', h2⟩ := ih (r * 10) (some x)
      refine ⟨z', ?_⟩
      rw [forD_cons, h]
      simp only
      rw [h2, List.length_cons, Int.pow_succ, Int.mul_assoc, Int.mul_comm 10]
  rw [T_power]
  obtain ⟨z', h⟩ := lp (some (.int n)) (rngD 0 n) 1 none
  rw [rng_len, Int.one_mul] at h
  have hs := small62_nat hn
  generalize (10 : Int) ^ n = r at h ⊢
  unfold b_power
  walk_at "ev*"
theorem t_aligned {k : Nat} (hk : 2 ≤ k) (u : Int) (t s n : Nat) (hu : Bn n u) (hn : n ≤ 10000) (ht : t ≤ s) (hs : s ≤ 10000) (S : Sto) : (T k).aligned [dec (u, t), .int s] S = .ok (.int (u * 10 ^ (s - t))) S := by
  obtain ⟨k, rfl⟩ := Nat.exists_eq_add_of_le' hk
  have p := t_power (k := k + 1) (by omega) (s - t) (by omega) S
  have e : ((s : Int) - (t : Int)) = ((s - t : Nat) : Int) := by omega
  have m := mulOk_bn hu (bn_pow (s - t)) (by omega)
  rw [show k + 2 = (k + 1) + 1 from rfl, T_aligned]
  unfold b_aligned dec
  generalize (10 : Int) ^ (s - t) = r at p m ⊢
  walk_at "ev"
  rw [e, p]
  walk_at "ev*"
theorem t_negative {k : Nat} (hk : 1 ≤ k) (a : Int × Nat) (S : Sto) : (T k).negative [dec a] S = .ok (dec (-a.1, a.2)) S := by
  obtain ⟨k, rfl⟩ := Nat.exists_eq_add_of_le' hk
  rw [T_negative]
  unfold b_negative dec
  walk_at "ev"
/-- the sum at the greater scale -/
def sumAt (a b : Int × Nat) (s : Nat) : Int := a.1 * 10 ^ (s - a.2) + b.1 * 10 ^ (s - b.2)
theorem t_add {k : Nat} (hk : 3 ≤ k) (a b : Int × Nat) (n : Nat) (ha : Bn n a.1) (hb : Bn n b.1) (hn : n ≤ 10000) (h1 : a.2 ≤ 10000) (h2 : b.2 ≤ 10000) (S : Sto) :
    (T k).add [dec a, dec b] S = .ok (dec (nrm (max a.2 b.2) (sumAt a b (max a.2 b.2)))) S := by
  obtain ⟨k, rfl⟩ := Nat.exists_eq_add_of_le' hk
  have p := t_aligned (k := k + 2) (by omega) a.1 a.2 (max a.2 b.2) n ha hn (by omega) (by omega) S
  have q := t_aligned (k := k + 2) (by omega) b.1 b.2 (max a.2 b.2) n hb hn (by omega) (by omega) S
  have r := t_normal (k := k + 2) (by omega) (max a.2 b.2) (sumAt a b (max a.2 b.2)) S
  have e : (if (b.2 : Int) > (a.2 : Int) then (b.2 : Int) else (a.2 : Int)) = ((max a.2 b.2 : Nat) : Int) := by
    by_cases h : b.2 > a.2
    · rw [if_pos (by omega)]; omega
    · rw [if_neg (by omega)]; omega
  unfold sumAt at r ⊢
  rw [show k + 3 = (k + 2) + 1 from rfl, T_add]
  unfold b_add
  unfold dec at p q ⊢
  generalize nrm (max a.2 b.2) (a.1 * 10 ^ (max a.2 b.2 - a.2) + b.1 * 10 ^ (max a.2 b.2 - b.2)) = res at r ⊢
  generalize a.1 * 10 ^ (max a.2 b.2 - a.2) = x at p r ⊢
  generalize b.1 * 10 ^ (max a.2 b.2 - b.2) = y at q r ⊢
  walk_at "ev"
  rw [e]
  generalize ((max a.2 b.2 : Nat) : Int) = m at p q r ⊢
  walk_at "ev*"
  rfl
theorem sum_neg (a b : Int × Nat) (s : Nat) : sumAt a (-b.1, b.2) s = a.1 * 10 ^ (s - a.2) - b.1 * 10 ^ (s - b.2) := by
  unfold sumAt
  rw [Int.neg_mul, Int.sub_eq_add_neg]
theorem t_subtract {k : Nat} (hk : 4 ≤ k) (a b : Int × Nat) (n : Nat) (ha : Bn n a.1) (hb : Bn n b.1) (hn : n ≤ 10000) (h1 : a.2 ≤ 10000) (h2 : b.2 ≤ 10000) (S : Sto) :
    (T k).subtract [dec a, dec b] S = .ok (dec (nrm (max a.2 b.2) (sumAt a (-b.1, b.2) (max a.2 b.2)))) S := by
  obtain ⟨k, rfl⟩ := Nat.exists_eq_add_of_le' hk
  have p := t_negative (k := k + 3) (by omega) b S
  have q := t_add (k := k + 3) (by omega) a (-b.1, b.2) n ha (bn_neg hb) hn h1 h2 S
  rw [show k + 4 = (k + 3) + 1 from rfl, T_subtract]
  unfold b_subtract
  walk_at "ev*"
theorem t_multiply {k : Nat} (hk : 2 ≤ k) (a b : Int × Nat) (n : Nat) (ha : Bn n a.1) (hb : Bn n b.1) (hn : n ≤ 10000) (S : Sto) :
    (T k).multiply [dec a, dec b] S = .ok (dec (nrm (a.2 + b.2) (a.1 * b.1))) S := by
  obtain ⟨k, rfl⟩ := Nat.exists_eq_add_of_le' hk
  have m := mulOk_bn ha hb (by omega)
  have r := t_normal (k := k + 1) (by omega) (a.2 + b.2) (a.1 * b.1) S
  have e : (a.2 : Int) + (b.2 : Int) = ((a.2 + b.2 : Nat) : Int) := by omega
  rw [show k + 2 = (k + 1) + 1 from rfl, T_multiply]
  unfold b_multiply
  unfold dec at r ⊢
  generalize nrm (a.2 + b.2) (a.1 * b.1) = res at r ⊢
  walk_at "ev*"
/-- the sign of a number -/
def sgn (i : Int) : Int := if i = 0 then 0 else if i > 0 then 1 else -1
theorem t_compare {k : Nat} (hk : 5 ≤ k) (a b : Int × Nat) (n : Nat) (ha : Bn n a.1) (hb : Bn n b.1) (hn : n ≤ 10000) (h1 : a.2 ≤ 10000) (h2 : b.2 ≤ 10000) (S : Sto) :
    (T k).compare [dec a, dec b] S = .ok (.int (sgn (nrm (max a.2 b.2) (sumAt a (-b.1, b.2) (max a.2 b.2))).1)) S := by
  obtain ⟨k, rfl⟩ := Nat.exists_eq_add_of_le' hk
  have q := t_subtract (k := k + 4) (by omega) a b n ha hb hn h1 h2 S
  rw [show k + 5 = (k + 4) + 1 from rfl, T_compare]
  unfold b_compare
  generalize nrm (max a.2 b.2) (sumAt a (-b.1, b.2) (max a.2 b.2)) = res at q ⊢
  unfold sgn
  walk_at "ev"
  rw [q]
  unfold dec
  walk_at "ev"
  by_cases h0 : res.1 = 0
  · walk_at "ev*"
  · by_cases h1 : res.1 > 0
    · have h2 : (0 : Int) < res.1 := h1
      walk_at "ev*"
    · have h2 : ¬ (0 : Int) < res.1 := h1
      walk_at "ev*"
theorem t_fits {k : Nat} (hk : 2 ≤ k) (u : Int) (n : Nat) (hn : n ≤ 10000) (S : Sto) : (T k).fits [.int u, .int n] S = .ok (.bl (decide (ab u < 10 ^ n))) S := by
  obtain ⟨k, rfl⟩ := Nat.exists_eq_add_of_le' hk
  have p := t_power (k := k + 1) (by omega) n (by omega) S
  rw [show k + 2 = (k + 1) + 1 from rfl, T_fits]
  unfold b_fits
  generalize (10 : Int) ^ n = r at p ⊢
  walk_at "ev*"
theorem sgn_mul {i j : Int} (h : 0 < j) : sgn (i * j) = sgn i := by
  unfold sgn
  by_cases h0 : i = 0
  · subst h0; simp
  · have hne : i * j ≠ 0 := Int.mul_ne_zero h0 (Int.ne_of_gt h)
    rw [if_neg hne, if_neg h0]
    by_cases hp : i > 0
    · rw [if_pos hp, if_pos (Int.mul_pos hp h)]
    · have : i * j < 0 := Int.mul_neg_of_neg_of_pos (by omega) h
      rw [if_neg hp, if_neg (by omega)]
theorem sgn_nrm (s : Nat) (u : Int) : sgn (nrm s u).1 = sgn u := by
  obtain ⟨h1, h2, h3⟩ := nrm_spec s u
  have := sgn_mul (i := (nrm s u).1) (pow10_pos (s - (nrm s u).2))
  rw [h2] at this
  exact this.symm
/-! quotients -/
theorem ab_nn (i : Int) : 0 ≤ ab i := by unfold ab; split <;> omega
theorem ab_pos {i : Int} (h : i ≠ 0) : 0 < ab i := by unfold ab; split <;> omega
theorem ab_nat (i : Int) : ab i = (i.natAbs : Int) := by unfold ab; split <;> omega
theorem ab_mul (i j : Int) : ab (i * j) = ab i * ab j := by rw [ab_nat, ab_nat, ab_nat, Int.natAbs_mul, Int.natCast_mul]
theorem ab_neg (i : Int) : ab (-i) = ab i := by unfold ab; split <;> split <;> omega
theorem ab_of_nn {i : Int} (h : 0 ≤ i) : ab i = i := by unfold ab; rw [if_neg (by omega)]
theorem ab_bn {n : Nat} {i : Int} (h : Bn n i) : Bn n (ab i) := by
  unfold Bn at *
  rw [ab_nat, Int.natAbs_natCast]; exact h
theorem bn_le {n : Nat} {i j : Int} (h : Bn n j) (h0 : 0 ≤ i) (h1 : i ≤ ab j) : Bn n i := by
  unfold Bn at *
  rw [ab_nat] at h1
  omega
theorem divOk_bn {n : Nat} {j : Int} (h : Bn n j) (h0 : 0 < j) (hn : n ≤ 2000) : divOk j := by
  refine ⟨h0, Nat.lt_of_lt_of_le (PySem.Flt.log2_lt_of (k := 4 * n + 1) (by omega) ?_) (show 4 * n + 1 ≤ 9000 by omega)⟩
  exact Nat.lt_of_lt_of_le h (Nat.le_trans (pow_bits n) (Nat.pow_le_pow_right (by decide) (by omega)))
/-- the size of a quotient, cut off or rounded -/
def qsize (n d : Int) (r : Bool) : Int := if r = true ∧ 2 * (n - n / d * d) ≥ d then n / d + 1 else n / d
def quo (a b : Int) (r : Bool) : Int := if decide (a < 0) = decide (b < 0) then qsize (ab a) (ab b) r else -qsize (ab a) (ab b) r
theorem qsize_spec (n d : Int) (r : Bool) (hn : 0 ≤ n) (hd : 0 < d) :
    0 ≤ qsize n d r ∧ (r = false → qsize n d r * d ≤ n ∧ n < (qsize n d r + 1) * d) ∧ (r = true → (2 * qsize n d r - 1) * d ≤ 2 * n ∧ 2 * n < (2 * qsize n d r + 1) * d) := by
  have h1 := Int.emod_nonneg n (Int.ne_of_gt hd)
  have h2 := Int.emod_lt_of_pos n hd
  have h3 := Int.mul_ediv_add_emod n d
  have h4 : 0 ≤ n / d := Int.ediv_nonneg hn (by omega)
  rw [Int.mul_comm] at h3
  unfold qsize
  generalize n / d = q at *
  generalize n % d = m at *
  by_cases c : r = true ∧ 2 * (n - q * d) ≥ d
  · rw [if_pos c]
    refine ⟨by omega, fun e => ?_, fun _ => ?_⟩
    · rw [e] at c; exact absurd c.1 (by simp)
    · have e1 : (2 * (q + 1) - 1) * d = 2 * (q * d) + d := by rw [show 2 * (q + 1) - 1 = 2 * q + 1 by omega, Int.add_mul, Int.mul_assoc, Int.one_mul]
      have e2 : (2 * (q + 1) + 1) * d = 2 * (q * d) + 3 * d := by rw [show 2 * (q + 1) + 1 = 2 * q + 3 by omega, Int.add_mul, Int.mul_assoc]
      rw [e1, e2]
      have := c.2
      generalize q * d = p at *
      omega
  · rw [if_neg c]
    refine ⟨h4, fun _ => ?_, fun e => ?_⟩
    · have e1 : (q + 1) * d = q * d + d := by rw [Int.add_mul, Int.one_mul]
      rw [e1]
      generalize q * d = p at *
      omega
    · have e1 : (2 * q - 1) * d = 2 * (q * d) - d := by rw [Int.sub_mul, Int.mul_assoc, Int.one_mul]
      have e2 : (2 * q + 1) * d = 2 * (q * d) + d := by rw [Int.add_mul, Int.mul_assoc, Int.one_mul]
      rw [e1, e2]
      have : ¬ 2 * (n - q * d) ≥ d := fun z => c ⟨e, z⟩
      generalize q * d = p at *
      omega
/-- what the law asks -/
structure Rgt (v a b : Int) (r : Bool) : Prop where
  sg : v = 0 ∨ decide (v < 0) = !(decide (decide (a < 0) = decide (b < 0)))
  cut : r = false → ab v * ab b ≤ ab a ∧ ab a < (ab v + 1) * ab b
  rnd : r = true → (2 * ab v - 1) * ab b ≤ 2 * ab a ∧ 2 * ab a < (2 * ab v + 1) * ab b
theorem quo_right (a b : Int) (r : Bool) (hb : b ≠ 0) : Rgt (quo a b r) a b r := by
  obtain ⟨h0, h1, h2⟩ := qsize_spec (ab a) (ab b) r (ab_nn a) (ab_pos hb)
  have ha : ab (quo a b r) = qsize (ab a) (ab b) r := by
    unfold quo
    split
    · exact ab_of_nn h0
    · rw [ab_neg]; exact ab_of_nn h0
  refine ⟨?_, by rw [ha]; exact h1, by rw [ha]; exact h2⟩
  unfold quo
  generalize qsize (ab a) (ab b) r = s at *
  by_cases c : decide (a < 0) = decide (b < 0)
  · rw [if_pos c, c]
    simp
    omega
  · rw [if_neg c]
    have : decide (decide (a < 0) = decide (b < 0)) = false := by simpa using c
    rw [this]
    simp
    omega
/-- a common factor does not count -/
theorem rgt_scale {v a b c : Int} {r : Bool} (h : Rgt v a b r) (hc : 0 < c) : Rgt v (a * c) (b * c) r := by
  have s : ∀ x : Int, decide (x * c < 0) = decide (x < 0) := fun x => by
    by_cases hx : x < 0
    · have := Int.mul_neg_of_neg_of_pos hx hc
      simp [hx, this]
    · have : 0 ≤ x * c := Int.mul_nonneg (by omega) (by omega)
      have h2 : ¬ x * c < 0 := by omega
      simp [hx, h2]
  have e : ∀ x : Int, ab (x * c) = ab x * c := fun x => by rw [ab_mul, ab_of_nn (show 0 ≤ c by omega)]
  refine ⟨by rw [s, s]; exact h.sg, fun hr => ?_, fun hr => ?_⟩
  · rw [e, e, ← Int.mul_assoc, ← Int.mul_assoc]
    exact ⟨Int.mul_le_mul_of_nonneg_right (h.cut hr).1 (by omega), Int.mul_lt_mul_of_pos_right (h.cut hr).2 hc⟩
  · rw [e, e, ← Int.mul_assoc, ← Int.mul_assoc, ← Int.mul_assoc]
    exact ⟨Int.mul_le_mul_of_nonneg_right (h.rnd hr).1 (by omega), Int.mul_lt_mul_of_pos_right (h.rnd hr).2 hc⟩
/-- an exact value -/
theorem rgt_exact {v a b : Int} {r : Bool} (hb : 0 < b) (h : v * b = a) : Rgt v a b r := by
  have e : ab a = ab v * b := by rw [← h, ab_mul, ab_of_nn (show 0 ≤ b by omega)]
  have e2 : ab b = b := ab_of_nn (by omega)
  have hn := ab_nn v
  refine ⟨?_, fun _ => ?_, fun _ => ?_⟩
  · by_cases hv : v = 0
    · exact .inl hv
    · right
      have hb2 : decide (b < 0) = false := by simp; omega
      rw [hb2]
      by_cases hv2 : v < 0
      · have : a < 0 := by rw [← h]; exact Int.mul_neg_of_neg_of_pos hv2 hb
        simp [hv2, this]
      · have : 0 ≤ a := by rw [← h]; exact Int.mul_nonneg (by omega) (by omega)
        have h1 : decide (v < 0) = false := by simpa using hv2
        have h2 : decide (a < 0) = false := by simpa using this
        rw [h1, h2]
        rfl
  · rw [e, e2, Int.add_mul, Int.one_mul]
    generalize ab v * b = p
    omega
  · rw [e, e2, Int.add_mul, Int.sub_mul, Int.one_mul, Int.mul_assoc]
    generalize ab v * b = p
    omega
theorem t_quotient {k : Nat} (hk : 1 ≤ k) (a b : Int) (r : Bool) (n : Nat) (ha : Bn n a) (hb : Bn n b) (hn : n ≤ 2000) (h0 : b ≠ 0) (S : Sto) : (T k).quotient [.int a, .int b, .bl r] S = .ok (.int (quo a b r)) S := by
  obtain ⟨k, rfl⟩ := Nat.exists_eq_add_of_le' hk
  have d := divOk_bn (ab_bn hb) (ab_pos h0) hn
  have hq : 0 ≤ ab a / ab b := Int.ediv_nonneg (ab_nn a) (ab_nn b)
  have hq2 : ab a / ab b ≤ ab a := Int.ediv_le_self _ (ab_nn a)
  have m := mulOk_bn (bn_le ha hq hq2) (ab_bn hb) (by omega)
  have m2 : mulOk 2 (ab a - ab a / ab b * ab b) := mulOk_smallL (by decide)
  rw [T_quotient]
  unfold b_quotient quo qsize
  by_cases c2 : decide (a < 0) = decide (b < 0)
  · cases r with
    | false => walk_at "ev*"; simp
    | true =>
      by_cases c : ab b ≤ 2 * (ab a - ab a / ab b * ab b)
      · walk_at "ev*"
        simp [c]
      · walk_at "ev*"
        simp [c]
  · cases r with
    | false => walk_at "ev*"; simp
    | true =>
      by_cases c : ab b ≤ 2 * (ab a - ab a / ab b * ab b)
      · walk_at "ev*"
        simp [c]
      · walk_at "ev*"
        simp [c]
theorem t_units_at {k : Nat} (hk : 3 ≤ k) (a : Int × Nat) (s n : Nat) (r : Bool) (ha : Bn n a.1) (hn : n ≤ 900) (h1 : a.2 ≤ 1000) (h2 : s ≤ 1000) (S : Sto) :
    ∃ v, (T k).units_at [dec a, .int s, .bl r] S = .ok (.int v) S ∧ Rgt v (a.1 * 10 ^ s) (10 ^ a.2) r ∧ v = (if a.2 ≤ s then a.1 * 10 ^ (s - a.2) else quo a.1 (10 ^ (a.2 - s)) r) := by
  obtain ⟨k, rfl⟩ := Nat.exists_eq_add_of_le' hk
  rw [show k + 3 = (k + 2) + 1 from rfl, T_units_at]
  unfold b_units_at
  by_cases c : a.2 ≤ s
  · have al := t_aligned (k := k + 2) (by omega) a.1 a.2 s n ha (by omega) c (by omega) S
    refine ⟨a.1 * 10 ^ (s - a.2), ?_, rgt_exact (pow10_pos _) (by rw [Int.mul_assoc, ← Int.pow_add, show s - a.2 + a.2 = s by omega]), by rw [if_pos c]⟩
    have c' : (a.2 : Int) ≤ (s : Int) := by omega
    unfold dec at *
    generalize a.1 * 10 ^ (s - a.2) = v at *
    generalize (s : Int) = ss at *
    walk_at "ev*"
  · have p := t_power (k := k + 2) (by omega) (a.2 - s) (by omega) S
    have q := t_quotient (k := k + 2) (by omega) a.1 (10 ^ (a.2 - s)) r (n + 1001) (bn_mono ha (by omega)) (bn_mono (bn_pow _) (by omega)) (by omega) (Int.ne_of_gt (pow10_pos _)) S
    have e : ((a.2 : Int) - (s : Int)) = ((a.2 - s : Nat) : Int) := by omega
    have rg := rgt_scale (quo_right a.1 (10 ^ (a.2 - s)) r (Int.ne_of_gt (pow10_pos _))) (pow10_pos s)
    rw [← Int.pow_add, show a.2 - s + s = a.2 by omega] at rg
    refine ⟨quo a.1 (10 ^ (a.2 - s)) r, ?_, rg, by rw [if_neg c]⟩
    have c' : ¬ (a.2 : Int) ≤ (s : Int) := by omega
    unfold dec
    clear rg
    generalize (10 : Int) ^ (a.2 - s) = P at *
    generalize quo a.1 P r = v at *
    generalize (s : Int) = ss at *
    walk_at "ev*"
theorem forD_scan {g : MG} {b : MS} {S : Sto} {d : D} (P : Evn → Prop) (p : D → Bool) : ∀ (l : List D) (E : Evn), P E →
    (∀ x E, x ∈ l → P E → (p x = true → ∃ E2, turn g b x E S = .nx E2 S ∧ P E2) ∧ (p x = false → turn g b x E S = .rt d S)) →
    (l.all p = true → ∃ E2, forD none g b l E S = .nx E2 S ∧ P E2) ∧ (l.all p = false → forD none g b l E S = .rt d S)
  | [], E, h0, h => ⟨fun _ => ⟨E, forD_nil, h0⟩, fun z => by simp at z⟩
  | x :: l, E, h0, h => by
    obtain ⟨h1, h2⟩ := h x E List.mem_cons_self h0
    rw [forD_cons, List.all_cons]
    cases hp : p x with
    | false => rw [h2 hp]; exact ⟨fun z => by simp at z, fun _ => rfl⟩
    | true =>
      obtain ⟨E2, h3, h4⟩ := h1 hp
      rw [h3, Bool.true_and]
      exact forD_scan P p l E2 h4 fun y E hy => h y E (List.mem_cons_of_mem _ hy)
theorem str_scan {g : MG} {b : MS} {S : Sto} {d : D} (P : Evn → Prop) (q : Nat → Bool) (z : Tx) (E : Evn) (h0 : P E)
    (h : ∀ c E, c ∈ z → P E → (q c = true → ∃ E2, turn g b (.str [c]) E S = .nx E2 S ∧ P E2) ∧ (q c = false → turn g b (.str [c]) E S = .rt d S)) :
    (z.all q = true → ∃ E2, forD none g b (z.map fun c => .str [c]) E S = .nx E2 S ∧ P E2) ∧ (z.all q = false → forD none g b (z.map fun c => .str [c]) E S = .rt d S) := by
  have := forD_scan (g := g) (b := b) (S := S) (d := d) P (fun x => match x with | .str [c] => q c | _ => true) (z.map fun c => .str [c]) E h0 fun x E hx hP => by
    obtain ⟨c, hc, rfl⟩ := List.mem_map.mp hx
    exact h c E hc hP
  rw [List.all_map] at this
  exact this
theorem so_le {n : Nat} (h : n ≤ 16777216) : PD.sizeOk n := sizeOk_of h
theorem len_cutL {α : Type} (z : List α) (lo hi : Option Int) : (cutL z lo hi).length ≤ z.length := by
  unfold cutL
  rw [List.length_take, List.length_drop]
  omega
theorem lt1 {c d : Nat} : ([c] : List Nat) < [d] ↔ c < d := by
  rw [List.cons_lt_cons_iff]
  simp
theorem ixS_in {z : Tx} {i : Int} {S : Sto} (h0 : 0 ≤ i) (h1 : i < z.length) (hz : PD.sizeOk z.length) : ∃ c, gIx S (.str z) (.int i) = some (.str [c]) := by
  have h2 : i.toNat < z.length := by omega
  refine ⟨z[i.toNat], ?_⟩
  simp only [gIx]
  rw [if_pos hz, if_pos h0, List.getElem?_eq_getElem h2]
  rfl
theorem ixS_0 {c : Nat} {z : Tx} {S : Sto} (hz : PD.sizeOk (c :: z).length) : gIx S (.str (c :: z)) (.int 0) = some (.str [c]) := by
  simp only [gIx]
  rw [if_pos hz]
  rfl
theorem ixS_last {c : Nat} {z : Tx} {S : Sto} (hz : PD.sizeOk (c :: z).length) : gIx S (.str (c :: z)) (.int (-1)) = some (.str [(c :: z).getLast (by simp)]) := by
  have e : (-1 + ((c :: z).length : Int)).toNat = (c :: z).length - 1 := by simp only [List.length_cons]; omega
  have e2 : (c :: z)[(c :: z).length - 1]? = some ((c :: z).getLast (by simp)) := by
    rw [List.getLast_eq_getElem, List.getElem?_eq_getElem]
  have h1 : -((c :: z).length : Int) ≤ -1 := by simp; omega
  simp only [gIx]
  rw [if_pos hz, if_neg (by decide), if_pos h1, e, e2]
  rfl
theorem small62_le {n : Nat} (h : n ≤ 1000000) : small62 n := ⟨by omega, by omega⟩
def St (ns : List Int) (p : Nat) (v s : Int) : Sto := [.lst [.lst (ns.map D.int), .int p, .int v, .int s]]
inductive Dw (ns : List Int) : Sto → Prop where
  | mk (p : Nat) (v s : Int) (hv : 0 ≤ v) (hs : 0 ≤ s) : Dw ns (St ns p v s)
theorem t_draws {k : Nat} (hk : 1 ≤ k) (ns : List Int) : (T k)._law_draws [.fz (ns.map D.int)] [] = .ok (.loc 0) (St ns 0 0 1) := by
  obtain ⟨k, rfl⟩ := Nat.exists_eq_add_of_le' hk
  rw [T__law_draws]
  unfold b__law_draws
  have e : runB 1 (mRet (mLoc (mCons (mB gList (mCons (mVar 0) mNil)) (mCons (mC (.int 0)) (mCons (mC (.int 0)) (mCons (mC (.int 1)) mNil)))))) [.fz (ns.map D.int)] [] = .ok (.loc 0) (St ns 0 0 1) := by
    unfold St
    walk_at "ev*"
    rfl
  rw [a_runT, e]
  rfl
theorem t_draw {k : Nat} (hk : 1 ≤ k) (ns : List Int) (m : Int) (hm : 0 < m) (hd : divOk m) (S : Sto) (h : Dw ns S) : ∃ (d : Int) (S' : Sto), Dw ns S' ∧ 0 ≤ d ∧ d < m ∧ (T k)._law_draw [.loc 0, .int m] S = .ok (.int d) S' := by
  obtain ⟨k, rfl⟩ := Nat.exists_eq_add_of_le' hk
  rw [T__law_draw]
  unfold b__law_draw
  obtain ⟨p, v, s, hv, hs⟩ := h
  have mm : modOk m := modOk_of hm
  have p18 : powOk 10 18 := ⟨by decide, by decide, by decide⟩
  have e18 : (10 : Int) ^ (Int.toNat 18) = 1000000000000000000 := by decide
  have d1 : modOk 2147483647 := modOk_of (by decide)
  have d2 : modOk 2147483629 := modOk_of (by decide)
  have d11 : divOk 11 := divOk_of (by decide) (by decide)
  have ml : ∀ x : Int, mulOk x 48271 := fun x => mulOk_small (by decide)
  have ml2 : ∀ x : Int, mulOk x 69621 := fun x => mulOk_small (by decide)
  by_cases c1 : v = 0
  · subst c1
    by_cases c2 : p < ns.length
    · have h2 : (ns.map D.int)[p]? = some (D.int ns[p]) := by rw [List.getElem?_map, List.getElem?_eq_getElem c2]; rfl
      have h1 : (p : Int) < (ns.length : Int) := by omega
      generalize ns[p] = cell at *
      have ep : (p : Int) + 1 = ((p + 1 : Nat) : Int) := by omega
      have ml1 := ml s
      by_cases c3 : (1000000000000000000 : Int) ≤ cell
      · have hc : 0 < cell := by omega
        refine ⟨cell % m, St ns (p + 1) (cell / m) ((s * 48271 + cell + 13) % 2147483647), .mk _ _ _ (Int.ediv_nonneg (by omega) (by omega)) (Int.emod_nonneg _ (by decide)), Int.emod_nonneg _ (by omega), Int.emod_lt_of_pos _ hm, ?_⟩
        unfold St
        rw [← ep]
        clear ml ml2
        walk_at "ev"
        simp only [h1, h2, p18, e18, c3, d1, ml1, if_true]
        walk_at "ev*"
      · have hc : ¬ (0 : Int) < 0 := by decide
        generalize hs2 : (s * 48271 + cell + 13) % 2147483647 = s2 at *
        have hs3 : 0 ≤ s2 := by rw [← hs2]; exact Int.emod_nonneg _ (by decide)
        have ml3 := ml2 s2
        refine ⟨(s2 * 69621 + 7) % 2147483629 / 11 % m, St ns (p + 1) 0 ((s2 * 69621 + 7) % 2147483629), .mk _ _ _ (by decide) (Int.emod_nonneg _ (by decide)), Int.emod_nonneg _ (by omega), Int.emod_lt_of_pos _ hm, ?_⟩
        unfold St
        rw [← ep]
        clear ml ml2
        walk_at "ev"
        simp only [h1, h2, p18, e18, c3, d1, ml1, if_true]
        walk_at "ev*"
    · have h1 : ¬ (p : Int) < (ns.length : Int) := by omega
      have hc : ¬ (0 : Int) < 0 := by decide
      have ml3 := ml2 s
      refine ⟨(s * 69621 + 7) % 2147483629 / 11 % m, St ns p 0 ((s * 69621 + 7) % 2147483629), .mk _ _ _ (by decide) (Int.emod_nonneg _ (by decide)), Int.emod_nonneg _ (by omega), Int.emod_lt_of_pos _ hm, ?_⟩
      unfold St
      clear ml ml2
      walk_at "ev*"
  · have hv2 : 0 < v := by omega
    refine ⟨v % m, St ns p (v / m) s, .mk _ _ _ (Int.ediv_nonneg hv (by omega)) hs, Int.emod_nonneg _ (by omega), Int.emod_lt_of_pos _ hm, ?_⟩
    unfold St
    clear ml ml2
    walk_at "ev*"
theorem rep_flat (n : Nat) : (List.replicate n ([48] : Tx)).flatten = List.replicate n 48 := by
  induction n with
  | zero => rfl
  | succ n ih => rw [List.replicate_succ, List.flatten_cons, List.replicate_succ, ih]; rfl
theorem val_ten (n : Nat) : NumText.digitsVal ([49] ++ List.replicate n 48) = 10 ^ n := by
  induction n with
  | zero => rfl
  | succ n ih => rw [List.replicate_succ', ← List.append_assoc, NumText.digitsVal_snoc, ih, Nat.pow_succ]; rfl
theorem t_ten5 {k : Nat} (hk : 1 ≤ k) (n : Nat) (hn : n ≤ 600) (S : Sto) : (T k)._law_ten [.int n] S = .ok (.int (10 ^ n)) S := by
  obtain ⟨k, rfl⟩ := Nat.exists_eq_add_of_le' hk
  rw [T__law_ten]
  unfold b__law_ten
  have r1 : repOk ([48] : Tx).length (n : Int) := ⟨by omega, by omega, by simp; omega⟩
  have e0 : (n : Int).toNat = n := Int.toNat_natCast n
  have ef := rep_flat n
  have s1 : PD.sizeOk (([49] : Tx).length + (List.replicate n 48).length) := so_le (by simp; omega)
  have dg : digT ([49] ++ List.replicate n 48) := ⟨by simp [List.all_replicate], by simp, by simp; omega⟩
  have val : ((NumText.digitsVal ([49] ++ List.replicate n 48) : Nat) : Int) = 10 ^ n := by rw [val_ten, Int.natCast_pow]; rfl
  have g1 : gMulA S (.str [48]) (.int (n : Int)) = some (.str (List.replicate n 48)) := by rw [g_mulAS r1, e0, ef]
  have g2 : gAdd S (.str [49]) (.str (List.replicate n 48)) = some (.str ([49] ++ List.replicate n 48)) := by rw [g_addS, if_pos s1]
  have g3 : gIntA S [.str ([49] ++ List.replicate n 48)] = some (.int (10 ^ n)) := by rw [g_intAS dg, val]
  clear r1 e0 ef s1 dg val
  generalize [49] ++ List.replicate n 48 = z at *
  generalize List.replicate n 48 = z2 at *
  walk_at "ev"
  simp only [g1]
  walk_at "ev*"

theorem t_least {k : Nat} (hk : 1 ≤ k) (u : Int) (s : Nat) (hs : s ≤ 100000) (S : Sto) : (T k)._law_least [.int u, .int s] S = .ok (dec (nrm s u)) S := by
  obtain ⟨k, rfl⟩ := Nat.exists_eq_add_of_le' hk
  have m10 : modOk 10 := modOk_of (by decide)
  have d10 : divOk 10 := divOk_of (by decide) (by decide)
  have lp : ∀ (l : List D) (s : Nat) (u : Int) (z : Option D), l.length = s →
      (∃ z', forD none (gN 2) (l__law_least_1 (T k)) l [some (.int u), some (.int s), z] S = .nx [some (.int (nrm s u).1), some (.int (nrm s u).2), z'] S) ∨
      forD none (gN 2) (l__law_least_1 (T k)) l [some (.int u), some (.int s), z] S = .rt (dec (nrm s u)) S := by
    intro l
    induction l with
    | nil =>
      intro s u z e
      cases e
      exact .inl ⟨z, by rw [forD_nil]; rfl⟩
    | cons x l ih =>
      intro s u z e
      cases e
      have e2 : ((l.length + 1 : Nat) : Int) - 1 = l.length := by omega
      rw [forD_cons, List.length_cons]
      by_cases h : u % 10 = 0
      · have t : turn (gN 2) (l__law_least_1 (T k)) x [some (.int u), some (.int ((l.length + 1 : Nat) : Int)), z] S = .nx [some (.int (u / 10)), some (.int l.length), some x] S := by
          unfold l__law_least_1
          rw [← e2]
          generalize ((l.length + 1 : Nat) : Int) = q at *
          walk_at "ev*"
        have en : nrm (l.length + 1) u = nrm l.length (u / 10) := by
          rw [nrm, if_pos (by omega)]
        rw [t, en]
        exact ih _ _ _ rfl
      · right
        have t : turn (gN 2) (l__law_least_1 (T k)) x [some (.int u), some (.int ((l.length + 1 : Nat) : Int)), z] S = .rt (.tup [.int u, .int ((l.length + 1 : Nat) : Int)]) S := by
          unfold l__law_least_1
          generalize ((l.length + 1 : Nat) : Int) = q at *
          clear e2
          walk_at "ev*"
        have en : nrm (l.length + 1) u = (u, l.length + 1) := by
          rw [nrm, if_neg (by omega)]
        rw [t, en]
        rfl
  rw [T__law_least]
  unfold b__law_least
  have s62 : small62 (s : Int) := ⟨by omega, by omega⟩
  have e0 : (s : Int).toNat = s := Int.toNat_natCast s
  rcases lp (rngD 0 s) s u none rng_len with ⟨z', e⟩ | e
  · unfold dec
    generalize nrm s u = p at *
    generalize hq : rngD 0 s = rg at *
    walk_at "ev"
    simp only [s62, e0, if_true]
    walk_at "ev*"
  · generalize nrm s u = p at *
    generalize hq : rngD 0 s = rg at *
    walk_at "ev"
    simp only [s62, e0, if_true]
    walk_at "ev*"
theorem t_part {k : Nat} (hk : 1 ≤ k) (a b : Int) (r : Bool) (n : Nat) (ha : Bn n a) (hb : Bn n b) (hn : n ≤ 2000) (h0 : 0 < b) (S : Sto) : (T k)._law_part [.int a, .int b, .bl r] S = .ok (.int (quo a b r)) S := by
  obtain ⟨k, rfl⟩ := Nat.exists_eq_add_of_le' hk
  have hb2 := ab_of_nn (Int.le_of_lt h0)
  have dv := divOk_bn hb h0 (by omega)
  have hq : Bn n (ab a / b) := bn_le ha (Int.ediv_nonneg (ab_nn a) (by omega)) (Int.ediv_le_self _ (ab_nn a))
  have m1 := mulOk_bn hq hb (by omega)
  have m2 : mulOk 2 (ab a - ab a / b * b) := mulOk_smallL (by decide)
  rw [T__law_part]
  unfold b__law_part quo qsize
  rw [hb2]
  have hbn : decide (b < 0) = false := decide_eq_false (by omega)
  rw [hbn]
  clear hbn h0 hb hb2 hq
  by_cases c : a < 0
  · rw [decide_eq_true c, if_neg (by decide)]
    cases r with
    | false => walk_at "ev*"; simp
    | true =>
      by_cases c2 : b ≤ 2 * (ab a - ab a / b * b)
      · walk_at "ev*"
        simp [c2]
      · walk_at "ev*"
        simp [c2]
  · rw [decide_eq_false c, if_pos rfl]
    cases r with
    | false => walk_at "ev*"; simp
    | true =>
      by_cases c2 : b ≤ 2 * (ab a - ab a / b * b)
      · walk_at "ev*"
        simp [c2]
      · walk_at "ev*"
        simp [c2]
/-- one value only is right -/
theorem rgt_uniq {v w a b : Int} {r : Bool} (hb : b ≠ 0) (h : Rgt v a b r) (g : Rgt w a b r) : v = w := by
  have hp := ab_pos hb
  have key : ab v = ab w := by
    cases r with
    | false =>
      obtain ⟨a1, a2⟩ := h.cut rfl
      obtain ⟨b1, b2⟩ := g.cut rfl
      have x1 : ab v < ab w + 1 := Int.lt_of_mul_lt_mul_right (Int.lt_of_le_of_lt a1 b2) (Int.le_of_lt hp)
      have x2 : ab w < ab v + 1 := Int.lt_of_mul_lt_mul_right (Int.lt_of_le_of_lt b1 a2) (Int.le_of_lt hp)
      omega
    | true =>
      obtain ⟨a1, a2⟩ := h.rnd rfl
      obtain ⟨b1, b2⟩ := g.rnd rfl
      have x1 : 2 * ab v - 1 < 2 * ab w + 1 := Int.lt_of_mul_lt_mul_right (Int.lt_of_le_of_lt a1 b2) (Int.le_of_lt hp)
      have x2 : 2 * ab w - 1 < 2 * ab v + 1 := Int.lt_of_mul_lt_mul_right (Int.lt_of_le_of_lt b1 a2) (Int.le_of_lt hp)
      omega
  have e1 := ab_nat v
  have e2 := ab_nat w
  rcases h.sg with h1 | h1
  · subst h1
    have : ab (0 : Int) = 0 := rfl
    omega
  · rcases g.sg with g1 | g1
    · subst g1
      have : ab (0 : Int) = 0 := rfl
      omega
    · have := h1.trans g1.symm
      have : (v < 0) ↔ (w < 0) := by simpa using this
      omega
/-! texts -/
theorem numL_le {n k : Nat} (hk : 0 < k) (h : n < 10 ^ k) : (TL.numL n).length ≤ k := TL.numL_len hk h
theorem log_bn {n : Nat} {i : Int} (h : Bn n i) (hn : n ≤ 570) : strOkI i := by
  unfold strOkI
  have e : (10 : Nat) ^ 570 ≤ 2 ^ 1900 := by decide +kernel
  have h2 : i.natAbs < 2 ^ 1900 := Nat.lt_of_lt_of_le h (Nat.le_trans (Nat.pow_le_pow_right (by decide) hn) e)
  exact Nat.lt_of_lt_of_le (PySem.Flt.log2_lt_of (k := 1900) (by omega) h2) (by decide)
theorem numT_nn {i : Int} (h : 0 ≤ i) : numT i = TL.numL i.natAbs := by unfold numT; rw [if_neg (by omega)]
theorem cut_front {α : Type} {z : List α} {s : Nat} (h0 : 0 < s) (h1 : s ≤ z.length) : cutL z none (some (-(s : Int))) = z.take (z.length - s) := by
  unfold cutL
  rw [HT.sIx_none, List.drop_zero]
  show z.take ((if -(s : Int) < 0 then (-(s : Int) + (z.length : Int)).toNat else min (-(s : Int)).toNat z.length) - 0) = _
  rw [if_pos (by omega)]
  congr 1
  omega
theorem cut_back {α : Type} {z : List α} {s : Nat} (h0 : 0 < s) (h1 : s ≤ z.length) : cutL z (some (-(s : Int))) none = z.drop (z.length - s) := by
  unfold cutL
  have e : HT.sIx z.length 0 (some (-(s : Int))) = z.length - s := by
    show (if -(s : Int) < 0 then (-(s : Int) + (z.length : Int)).toNat else min (-(s : Int)).toNat z.length) = _
    rw [if_pos (by omega)]
    omega
  rw [e, HT.sIx_none]
  exact List.take_of_length_le (by rw [List.length_drop]; omega)
theorem cut_to {α : Type} {z : List α} {i : Int} (h0 : 0 ≤ i) : cutL z none (some i) = z.take i.toNat := by
  unfold cutL
  rw [HT.sIx_none, List.drop_zero]
  show z.take ((if i < 0 then (i + (z.length : Int)).toNat else min i.toNat z.length) - 0) = _
  rw [if_neg (by omega), Nat.sub_zero]
  by_cases h : i.toNat ≤ z.length
  · rw [Nat.min_eq_left h]
  · rw [Nat.min_eq_right (by omega), List.take_of_length_le (by omega), List.take_of_length_le (by omega)]
theorem cut_from {α : Type} {z : List α} {i : Int} (h0 : 0 ≤ i) : cutL z (some i) none = z.drop i.toNat := by
  unfold cutL
  have e : HT.sIx z.length 0 (some i) = min i.toNat z.length := by
    show (if i < 0 then (i + (z.length : Int)).toNat else min i.toNat z.length) = _
    rw [if_neg (by omega)]
  rw [e, HT.sIx_none]
  by_cases h : i.toNat ≤ z.length
  · rw [Nat.min_eq_left h]
    exact List.take_of_length_le (by rw [List.length_drop]; exact Nat.le_refl _)
  · rw [Nat.min_eq_right (by omega), List.drop_eq_nil_of_le (show z.length ≤ i.toNat by omega), Nat.sub_self, List.take_zero]
/-- the figures with zeros in front -/
def figs (u : Int) (s : Nat) : Tx := List.replicate (s + 1 - (TL.numL u.natAbs).length) 48 ++ TL.numL u.natAbs
theorem zfill_figs (u : Int) (s : Nat) : zfillD (TL.numL u.natAbs) ((s : Int) + 1) = figs u s := by
  unfold zfillD figs
  by_cases h : (s : Int) + 1 ≤ (TL.numL u.natAbs).length
  · rw [if_pos h, show s + 1 - (TL.numL u.natAbs).length = 0 by omega]; rfl
  · rw [if_neg h]
    have e : ((s : Int) + 1).toNat = s + 1 := by omega
    rw [e]
    have ne := TL.numL_digits u.natAbs
    generalize TL.numL u.natAbs = z at *
    split
    · rename_i r
      have := ne 43 List.mem_cons_self
      omega
    · rename_i r
      have := ne 45 List.mem_cons_self
      omega
    · rfl
theorem figs_len (u : Int) (s : Nat) : s < (figs u s).length := by
  unfold figs
  rw [List.length_append, List.length_replicate]
  omega
theorem figs_le {n : Nat} {u : Int} {s : Nat} (hn : 0 < n) (h : Bn n u) : (figs u s).length ≤ n + s + 1 := by
  unfold figs
  rw [List.length_append, List.length_replicate]
  have := numL_le hn h
  omega
def txt (p : Int × Nat) : Tx := (if p.1 < 0 then [45] else []) ++ (if 0 < p.2 then (figs p.1 p.2).take ((figs p.1 p.2).length - p.2) ++ [46] ++ (figs p.1 p.2).drop ((figs p.1 p.2).length - p.2) else figs p.1 p.2)
theorem t_figures_of {k : Nat} (hk : 2 ≤ k) (u : Int) (n : Nat) (h0 : 0 ≤ u) (hu : Bn n u) (hn : 0 < n) (hn2 : n ≤ 570) (S : Sto) : (T k).figures_of [.int u] S = .ok (.str (TL.numL u.natAbs)) S := by
  obtain ⟨k, rfl⟩ := Nat.exists_eq_add_of_le' hk
  have tp : (T (k + 1)).power [.int 1000] S = .ok (.int (10 ^ 1000)) S := t_power (k := k + 1) (by omega) 1000 (by decide) S
  have hlt : ¬ (10 : Int) ^ 1000 ≤ u := by
    intro q
    have h1 : u.natAbs < 10 ^ 1000 := Nat.lt_of_lt_of_le hu (Nat.pow_le_pow_right (by decide) (by omega))
    have h2 : ((10 ^ 1000 : Nat) : Int) = (10 : Int) ^ 1000 := Int.natCast_pow 10 1000
    rw [← h2] at q
    omega
  have so := log_bn hu hn2
  have nt := numT_nn h0
  have hl := numL_le hn hu
  have s1 : PD.sizeOk (([] : List D).length + 1) := so_le (by decide)
  have s0 : PD.sizeOk ([] : List D).length := so_le (by decide)
  have jo : joinOk [] [TL.numL u.natAbs] := by unfold joinOk; simp; omega
  have jl : TL.joinL [] [TL.numL u.natAbs] = TL.numL u.natAbs := rfl
  rw [show k + 2 = (k + 1) + 1 from rfl, T_figures_of, a_runT]
  have key : runB 3 (b_figures_of (T (k + 1))) [.int u] S = .ok (.str (TL.numL u.natAbs)) (S ++ [.lst [.str (TL.numL u.natAbs)]]) := by
    unfold b_figures_of
    generalize TL.numL u.natAbs = z at *
    generalize ((10 : Int) ^ 1000) = P at *
    have ew : ∀ E S, mWhile (w_figures_of_1 (T (k + 1))) (l_figures_of_1 (T (k + 1))) [some (.int u), some (.int P), E] S = .nx [some (.int u), some (.int P), E] S := fun E S => mWhile_done (S1 := S) (by
      unfold w_figures_of_1
      walk_at "ev*")
    have jg : ∀ S, gJoin S [] [.lst [.str z].reverse] = some (.str z) := fun S => by
      rw [show [D.str z].reverse = [z].map D.str from rfl, g_joinM jo, jl]
    have sl : ∀ x : Ob, (S ++ [x])[S.length]? = some x := fun x => sto_last
    have ss : ∀ x y : Ob, (S ++ [x]).set S.length y = S ++ [y] := fun x y => sto_set
    have gl : ∀ (S : Sto) (n : Nat), gRev S (.loc n) = (match S[n]? with
      | some (.lst xs) => some (.lst xs.reverse)
      | _ => none) := fun S n => by
      simp only [gRev, seqF]
      cases S[n]? with
      | none => rfl
      | some o => cases o <;> rfl
    clear hlt hl jo jl
    walk_at "ev*"
  rw [key]
  exact trim_ok rfl

theorem t_show {k : Nat} (hk : 3 ≤ k) (p : Int × Nat) (n : Nat) (hp : Bn n p.1) (hn : 0 < n) (hn2 : n ≤ 570) (hs : p.2 ≤ 1000) (S : Sto) : (T k).«show» [dec p] S = .ok (.str (txt p)) S := by
  obtain ⟨k, rfl⟩ := Nat.exists_eq_add_of_le' hk
  obtain ⟨u, s⟩ := p
  have f := t_figures_of (k := k + 2) (by omega) (ab u) n (ab_nn u) (ab_bn hp) hn hn2 S
  have e1 : (ab u).natAbs = u.natAbs := by rw [ab_nat, Int.natAbs_natCast]
  rw [e1] at f
  have z := zfill_figs u s
  have pk : padOk ((s : Int) + 1) := by
    unfold padOk PadOk fitsSsize Builtin.Str.tooLong
    have hs : s ≤ 1000 := hs
    have hz := sizeLine_eq
    rw [decide_eq_false (show ¬ ((s : Int) + 1 < -(2 ^ 63)) by omega), decide_eq_false (show ¬ ((s : Int) + 1 ≥ 2 ^ 63) by omega), decide_eq_false (show ¬ ((s : Int) + 1).toNat > sizeLine by omega)]
    rfl
  have l1 := figs_len u s
  have l2 := figs_le (s := s) hn hp
  have hs2 : s ≤ 1000 := hs
  unfold txt
  rw [show k + 3 = (k + 2) + 1 from rfl, T_show]
  unfold b_show dec
  dsimp only
  generalize TL.numL u.natAbs = N at *
  generalize figs u s = F at *
  have so : PD.sizeOk F.length := so_le (by omega)
  clear e1
  by_cases c : 0 < s
  · have ci : (0 : Int) < (s : Int) := by omega
    have cf := cut_front (z := F) c (by omega)
    have cb := cut_back (z := F) c (by omega)
    rw [if_pos c]
    have g1 : ∀ S, gSl S (.str F) none (some (-(s : Int))) = some (.str (F.take (F.length - s))) := fun S => by rw [g_slS so, cf]
    have g2 : ∀ S, gSl S (.str F) (some (-(s : Int))) none = some (.str (F.drop (F.length - s))) := fun S => by rw [g_slS so, cb]
    clear cf cb
    generalize hA : F.take (F.length - s) = A at *
    generalize hB : F.drop (F.length - s) = B at *
    have lA : A.length ≤ F.length := by rw [← hA, List.length_take]; omega
    have lB : B.length ≤ F.length := by rw [← hB, List.length_drop]; omega
    have s1 : PD.sizeOk (A.length + 1) := so_le (by omega)
    have s2 : PD.sizeOk ((A ++ [46]).length + B.length) := so_le (by rw [List.length_append, List.length_singleton]; omega)
    have s3 : PD.sizeOk (1 + (A ++ [46] ++ B).length) := so_le (by rw [List.length_append, List.length_append, List.length_singleton]; omega)
    clear hA hB lA lB c
    unfold q_show_1
    generalize (s : Int) = si at *
    by_cases c2 : u < 0
    · rw [if_pos c2]
      walk_at "ev*"
    · rw [if_neg c2]
      walk_at "ev*"
  · have c0 : s = 0 := by omega
    subst c0
    have ci : ¬ (0 : Int) < ((0 : Nat) : Int) := by decide
    have s3 : PD.sizeOk (1 + F.length) := so_le (by omega)
    rw [if_neg c]
    clear c
    unfold q_show_1
    generalize ((0 : Nat) : Int) = si at *
    by_cases c2 : u < 0
    · rw [if_pos c2]
      walk_at "ev*"
    · rw [if_neg c2]
      walk_at "ev*"

theorem t_text {k : Nat} (hk : 1 ≤ k) (p : Int × Nat) (n : Nat) (hp : Bn n p.1) (hn : 0 < n) (hn2 : n ≤ 570) (hs : p.2 ≤ 1000) (S : Sto) : (T k)._law_text [dec p] S = .ok (.str (txt p)) S := by
  obtain ⟨k, rfl⟩ := Nat.exists_eq_add_of_le' hk
  obtain ⟨u, s⟩ := p
  have e1 : (ab u).natAbs = u.natAbs := by rw [ab_nat, Int.natAbs_natCast]
  have so := log_bn (ab_bn hp) hn2
  have nt := numT_nn (ab_nn u)
  rw [e1] at nt
  have l0 := numL_le hn hp
  have l1 := figs_len u s
  have l2 := figs_le (s := s) hn hp
  have hs2 : s ≤ 1000 := hs
  have hF : List.replicate (s + 1 - (TL.numL u.natAbs).length) 48 ++ TL.numL u.natAbs = figs u s := rfl
  have r1 : repOk ([48] : Tx).length ((s : Int) + 1 - ((TL.numL u.natAbs).length : Int)) := ⟨by dsimp only at l0; omega, by omega, by simp only [List.length_singleton]; omega⟩
  have eN : ((s : Int) + 1 - ((TL.numL u.natAbs).length : Int)).toNat = s + 1 - (TL.numL u.natAbs).length := by omega
  have rf := rep_flat (s + 1 - (TL.numL u.natAbs).length)
  have lr : (List.replicate (s + 1 - (TL.numL u.natAbs).length) 48).length = s + 1 - (TL.numL u.natAbs).length := List.length_replicate
  unfold txt
  rw [T__law_text]
  unfold b__law_text dec
  dsimp only at l0 ⊢
  generalize TL.numL u.natAbs = N at *
  generalize figs u s = F at *
  have soF : PD.sizeOk F.length := so_le (by omega)
  have soN : PD.sizeOk N.length := so_le (by omega)
  generalize hQ : s + 1 - N.length = q at *
  generalize hR : List.replicate q 48 = R at *
  have gm : ∀ S, gMulA S (.str [48]) (.int ((s : Int) + 1 - (N.length : Int))) = some (.str R) := fun S => by rw [g_mulAS r1, eN, rf]
  have ga : ∀ S, gAdd S (.str R) (.str N) = some (.str F) := fun S => by rw [g_addS, if_pos (so_le (by omega)), hF]
  have gs : ∀ S, gStr S [.int (ab u)] = some (.str N) := fun S => by rw [g_str so, nt]
  clear r1 eN rf hR e1 hp l0 so nt
  by_cases c : 0 < s
  · have ci : (0 : Int) < (s : Int) := by omega
    have ei : ((F.length : Int) - (s : Int)).toNat = F.length - s := by omega
    have hi : 0 ≤ (F.length : Int) - (s : Int) := by omega
    have g1 : ∀ S, gSl S (.str F) none (some ((F.length : Int) - (s : Int))) = some (.str (F.take (F.length - s))) := fun S => by rw [g_slS soF, cut_to hi, ei]
    have g2 : ∀ S, gSl S (.str F) (some ((F.length : Int) - (s : Int))) none = some (.str (F.drop (F.length - s))) := fun S => by rw [g_slS soF, cut_from hi, ei]
    rw [if_pos c]
    generalize hA : F.take (F.length - s) = A at *
    generalize hB : F.drop (F.length - s) = B at *
    have lA : A.length ≤ F.length := by rw [← hA, List.length_take]; omega
    have lB : B.length ≤ F.length := by rw [← hB, List.length_drop]; omega
    have s1 : PD.sizeOk (A.length + 1) := so_le (by omega)
    have s2 : PD.sizeOk ((A ++ [46]).length + B.length) := so_le (by rw [List.length_append, List.length_singleton]; omega)
    have s3 : PD.sizeOk (1 + (A ++ [46] ++ B).length) := so_le (by rw [List.length_append, List.length_append, List.length_singleton]; omega)
    clear hA hB lA lB c ei hi hF lr l1 l2 hs hs2 hQ
    by_cases c2 : u < 0
    · rw [if_pos c2]
      walk_at "ev*"
    · rw [if_neg c2]
      walk_at "ev*"
  · have ci : ¬ (0 : Int) < (s : Int) := by omega
    have s3 : PD.sizeOk (1 + F.length) := so_le (by omega)
    rw [if_neg c]
    clear c hF lr l1 l2 hs hs2 hQ
    by_cases c2 : u < 0
    · rw [if_pos c2]
      walk_at "ev*"
    · rw [if_neg c2]
      walk_at "ev*"
theorem rg9 (f : Int) (h0 : 1 ≤ f) (h1 : f ≤ 400) : rgOk 0 f 9 ∧ rgN 0 f 9 ≤ 45 := by
  have e : Builtin.Range.rangeSize 0 f 9 = (f - 0 - 1) / 9 + 1 := by
    unfold Builtin.Range.rangeSize
    rw [if_pos (by decide), if_pos (by omega)]
  have h2 : 0 ≤ (f - 0 - 1) / 9 + 1 ∧ (f - 0 - 1) / 9 + 1 ≤ 45 := by omega
  constructor
  · refine ⟨by decide, by decide, ?_, ?_⟩
    · unfold Builtin.Range.small
      rw [e]
      unfold Builtin.Range.rangeFitsLong
      simp
      omega
    · unfold rgN
      rw [e]
      omega
  · unfold rgN
    rw [e]
    omega
theorem pick2 (a b : Int) (i : Int) (h0 : 0 ≤ i) (h1 : i < 2) : ∃ u : Int, (u = a ∨ u = b) ∧ atD [.int a, .int b] i = some (.int u) := by
  have : i = 0 ∨ i = 1 := by omega
  rcases this with rfl | rfl
  · exact ⟨a, .inl rfl, rfl⟩
  · exact ⟨b, .inr rfl, rfl⟩
theorem rngC_get {lo c : Int} {n i : Nat} {x : D} (h : (rngC lo c n)[i]? = some x) : i < n ∧ x = .int (lo + (i : Int) * c) := by
  unfold rngC at h
  rw [List.getElem?_map] at h
  by_cases hi : i < n
  · rw [List.getElem?_eq_getElem (by simpa using hi)] at h
    simp at h
    exact ⟨hi, h.symm⟩
  · rw [List.getElem?_eq_none (by simpa using hi)] at h
    cases h
theorem rngC_len {lo c : Int} {n : Nat} : (rngC lo c n).length = n := by simp [rngC]
theorem t_number5 {k : Nat} (hk : 2 ≤ k) (ns : List Int) (S : Sto) (h : Dw ns S) : ∃ (p : Int × Nat) (S' : Sto), Dw ns S' ∧ Bn 470 p.1 ∧ p.2 ≤ 300 ∧ (T k)._law_number [.loc 0] S = .ok (dec p) S' := by
  obtain ⟨k, rfl⟩ := Nat.exists_eq_add_of_le' hk
  have dr : ∀ (m : Int) (S : Sto), 0 < m → m.natAbs < 2 ^ 64 → Dw ns S → ∃ (d : Int) (S' : Sto), Dw ns S' ∧ 0 ≤ d ∧ d < m ∧ (T (k + 1))._law_draw [.loc 0, .int m] S = .ok (.int d) S' := fun m S h1 h2 h3 =>
    t_draw (k := k + 1) (by omega) ns m h1 (divOk_of h1 (by omega)) S h3
  obtain ⟨d1, S1, w1, a1, b1, q1⟩ := dr 2 S (by decide) (by decide) h
  obtain ⟨L1, hL1, i1⟩ := pick2 30 400 d1 a1 b1
  obtain ⟨d2, S2, w2, a2, b2, q2⟩ := dr L1 S1 (by omega) (by omega) w1
  obtain ⟨r1, r2⟩ := rg9 (1 + d2) (by omega) (by omega)
  have p9 : powOk 10 9 := ⟨by decide, by decide, by decide⟩
  have e9 : (10 : Int) ^ (Int.toNat 9) = 1000000000 := by decide
  obtain ⟨E3, S3, e3, u, y3, hE3, hu, w3⟩ := forD_inv (g := gN 3) (b := l__law_number_1 (T (k + 1))) (l := rngC 0 9 (rgN 0 (1 + d2) 9)) (E := [some (.loc 0), some (.int (1 + d2)), some (.int 0), none]) (S := S2)
    (fun i E S => ∃ (u : Int) (y : Option D), E = [some (.loc 0), some (.int (1 + d2)), some (.int u), y] ∧ Bn (9 * i) u ∧ Dw ns S) ⟨0, none, rfl, by unfold Bn; decide, w2⟩ (by
      rintro i x E S hx ⟨u, y, rfl, hu, w⟩
      obtain ⟨hi, rfl⟩ := rngC_get hx
      obtain ⟨d, S', w', a, b, q⟩ := dr 1000000000 S (by decide) (by decide) w
      have m1 : mulOk u 1000000000 := mulOk_small (by decide)
      refine ⟨[some (.loc 0), some (.int (1 + d2)), some (.int (u * 1000000000 + d)), some (.int (0 + (i : Int) * 9))], S', .inl ?_, u * 1000000000 + d, _, rfl, ?_, w'⟩
      · unfold l__law_number_1
        generalize (i : Int) * 9 = z at *
        clear hx
        walk_at "ev"
        simp only [p9, e9, m1, if_true]
        walk_at "ev*"
      · unfold Bn at *
        have e : 10 ^ (9 * (i + 1)) = 10 ^ (9 * i) * 1000000000 := by rw [Nat.mul_add, Nat.pow_add]
        rw [e]
        omega)
  rw [rngC_len] at hu
  subst hE3
  have hu2 : Bn 405 u := bn_mono hu (by omega)
  obtain ⟨d4, S4, w4, a4, b4, q4⟩ := dr 4 S3 (by decide) (by decide) w3
  obtain ⟨d5, S5, w5, a5, b5, q5⟩ := dr 20 S4 (by decide) (by decide) w4
  obtain ⟨x4, rfl⟩ : ∃ n : Nat, d4 = n := ⟨d4.toNat, by omega⟩
  obtain ⟨x5, rfl⟩ : ∃ n : Nat, d5 = n := ⟨d5.toNat, by omega⟩
  have hx : x4 * x5 ≤ 60 := by
    have : x4 * x5 ≤ 3 * 19 := Nat.mul_le_mul (by omega) (by omega)
    omega
  have m45 : mulOk (x4 : Int) (x5 : Int) := mulOk_small (by omega)
  have tt := t_ten5 (k := k + 1) (by omega) (x4 * x5) (by omega) S5
  have ec : (x4 : Int) * (x5 : Int) = ((x4 * x5 : Nat) : Int) := (Int.natCast_mul _ _).symm
  have hb := bn_mul hu2 (bn_pow (x4 * x5))
  have mu := mulOk_bn hu2 (bn_pow (x4 * x5)) (by omega)
  generalize hv : u * 10 ^ (x4 * x5) = v at *
  have hbv : Bn 470 v := bn_mono hb (by omega)
  obtain ⟨d6, S6, w6, a6, b6, q6⟩ := dr 2 S5 (by decide) (by decide) w5
  obtain ⟨d7, S7, w7, a7, b7, q7⟩ := dr 2 S6 (by decide) (by decide) w6
  obtain ⟨L7, hL7, i7⟩ := pick2 20 300 d7 a7 b7
  obtain ⟨d8, S8, w8, a8, b8, q8⟩ := dr L7 S7 (by omega) (by omega) w7
  obtain ⟨x8, rfl⟩ : ∃ n : Nat, d8 = n := ⟨d8.toNat, by omega⟩
  refine ⟨(if d6 = 0 then -v else v, x8), S8, w8, ?_, by dsimp only; omega, ?_⟩
  · dsimp only
    split
    · exact bn_neg hbv
    · exact hbv
  rw [show k + 2 = (k + 1) + 1 from rfl, T__law_number]
  unfold b__law_number q__law_number_1 dec
  generalize hP : (10 : Int) ^ (x4 * x5) = P at *
  clear dr hu hb hbv hu2 w1 w2 w3 w4 w5 w6 w7 w8 r2 hx
  rw [← ec] at tt
  clear ec
  by_cases c6 : d6 = 0
  · rw [if_pos c6]
    walk_at "ev*"
  · rw [if_neg c6]
    walk_at "ev*"

def okS : Nat → D → Bool
  | _, .int _ => true
  | _, .bl _ => true
  | _, .str _ => true
  | n + 1, .tup xs => decide (xs.length ≤ 1000) && xs.all (okS n)
  | _, _ => false
theorem t_same5 : ∀ (n : Nat) (d : D), okS n d = true → ∀ (k : Nat), n < k → ∀ S, (T k)._law_same [d, d] S = .ok (.bl true) S := by
  have base : ∀ (d : D), (∃ i, d = .int i) ∨ (∃ b, d = .bl b) ∨ (∃ z, d = .str z) → ∀ (k : Nat), 0 < k → ∀ S, (T k)._law_same [d, d] S = .ok (.bl true) S := by
    intro d h k hk S
    obtain ⟨k, rfl⟩ := Nat.exists_eq_add_of_le' hk
    rw [show k + (0 + 1) = k + 1 from rfl, T__law_same]
    unfold b__law_same
    have n1 : ∀ i, gIsN S (.int i) .non = some (.bl false) := fun i => rfl
    have n2 : ∀ i, gIsN S (.bl i) .non = some (.bl false) := fun i => rfl
    rcases h with ⟨i, rfl⟩ | ⟨b, rfl⟩ | ⟨z, rfl⟩
    · walk_at "ev*"
    · walk_at "ev*"
    · walk_at "ev*"
  intro n
  induction n with
  | zero =>
    intro d h k hk S
    cases d <;> first | exact base _ (.inl ⟨_, rfl⟩) k hk S | exact base _ (.inr (.inl ⟨_, rfl⟩)) k hk S | exact base _ (.inr (.inr ⟨_, rfl⟩)) k hk S | (simp [okS] at h)
  | succ n ih =>
    intro d h k hk S
    cases d with
    | int i => exact base _ (.inl ⟨_, rfl⟩) k (by omega) S
    | bl i => exact base _ (.inr (.inl ⟨_, rfl⟩)) k (by omega) S
    | str i => exact base _ (.inr (.inr ⟨_, rfl⟩)) k (by omega) S
    | tup xs =>
      simp only [okS, Bool.and_eq_true, decide_eq_true_eq] at h
      obtain ⟨hl, ha⟩ := h
      obtain ⟨k, rfl⟩ := Nat.exists_eq_add_of_le' (show 1 ≤ k by omega)
      obtain ⟨E2, S2, e, ⟨y, rfl⟩, rfl⟩ := forR_inv (g := gN 2) (b := l__law_same_1 (T k)) (lo := 0) (n := xs.length) (E := [some (.tup xs), some (.tup xs), none]) (S := S)
        (fun i E S' => (∃ y, E = [some (.tup xs), some (.tup xs), y]) ∧ S' = S) ⟨⟨none, rfl⟩, rfl⟩ (by
          rintro i E S' hi ⟨⟨y, rfl⟩, rfl⟩
          have hx : xs[i]? = some xs[i] := List.getElem?_eq_getElem hi
          have q := ih xs[i] (List.all_eq_true.mp ha _ (List.getElem_mem hi)) k (by omega) S'
          have e0 : (0 : Int) + (i : Int) = (i : Int) := Int.zero_add _
          refine ⟨[some (.tup xs), some (.tup xs), some (.int (i : Int))], S', .inl ?_, ⟨_, rfl⟩, rfl⟩
          unfold l__law_same_1
          generalize xs[i] = x at *
          clear ha hl
          walk_at "ev*")
      rw [T__law_same]
      unfold b__law_same
      have s62 : small62 (xs.length : Int) := small62_le (by omega)
      have e0 : (xs.length : Int).toNat = xs.length := Int.toNat_natCast _
      clear ha hl ih base
      walk_at "ev*"
    | _ => simp [okS] at h
/-! the law's statements, from the last -/
theorem dr5 {ns : List Int} (m : Int) (S : Sto) (h1 : 0 < m) (h2 : m.natAbs < 2 ^ 64) (h3 : Dw ns S) : ∃ (d : Nat) (S' : Sto), Dw ns S' ∧ (d : Int) < m ∧ (T 5)._law_draw [.loc 0, .int m] S = .ok (.int d) S' := by
  obtain ⟨d, S', w, a, b, q⟩ := t_draw (k := 5) (by omega) ns m h1 (divOk_of h1 (by omega)) S h3
  obtain ⟨n, rfl⟩ : ∃ n : Nat, d = n := ⟨d.toNat, by omega⟩
  exact ⟨n, S', w, b, q⟩
theorem same2 (x y : D) (h : okS 1 (.tup [x, y]) = true) (S : Sto) : (T 5)._law_same [.tup [x, y], .tup [x, y]] S = .ok (.bl true) S := t_same5 1 _ h 5 (by decide) S
theorem rest1 (ns : List Int) (S : Sto) (h : Dw ns S) (a : Int × Nat) (ha : Bn 470 a.1) (ha2 : a.2 ≤ 300) (mr fg : Nat) (hm : mr < 50) (hf : fg < 450) (e0 e2 e4 e5 e6 e7 e8 e9 e10 e11 e14 e15 e16 : Option D) :
    ∃ S', q_law_1 (T 5) [e0, some (.loc 0), e2, some (dec a), e4, e5, e6, e7, e8, e9, e10, e11, some (.int mr), some (.int fg), e14, e15, e16] S = .rt (.bl true) S' := by
  have al := t_aligned (k := 5) (by decide) a.1 a.2 (a.2 + mr) 470 ha (by decide) (by omega) (by omega) S
  rw [show a.2 + mr - a.2 = mr by omega] at al
  have ft := t_fits (k := 5) (by decide) a.1 fg (by omega) S
  have tm := t_ten5 (k := 5) (by decide) mr (by omega) S
  have tf := t_ten5 (k := 5) (by decide) fg (by omega) S
  have sm := same2 (.int (a.1 * 10 ^ mr)) (.bl (decide (ab a.1 < 10 ^ fg))) rfl S
  have ea : (a.2 : Int) + (mr : Int) = ((a.2 + mr : Nat) : Int) := by omega
  have mm := mulOk_bn ha (bn_pow mr) (by omega)
  obtain ⟨pl, S1, w1, hp, q1⟩ := dr5 300 S (by decide) (by decide) h
  have tp := t_ten5 (k := 5) (by decide) pl (by omega) S1
  have ta := t_ten5 (k := 5) (by decide) a.2 (by omega) S1
  have mp := mulOk_bn ha (bn_pow pl) (by omega)
  have btop := bn_mul ha (bn_pow pl)
  have pf := t_part (k := 5) (by decide) (a.1 * 10 ^ pl) (10 ^ a.2) false 900 (bn_mono btop (by omega)) (bn_mono (bn_pow _) (by omega)) (by decide) (pow10_pos _) S1
  have pt := t_part (k := 5) (by decide) (a.1 * 10 ^ pl) (10 ^ a.2) true 900 (bn_mono btop (by omega)) (bn_mono (bn_pow _) (by omega)) (by decide) (pow10_pos _) S1
  obtain ⟨v1, u1, rg1, hx1⟩ := t_units_at (k := 5) (by decide) a pl 470 false ha (by decide) (by omega) (by omega) S1
  obtain ⟨v2, u2, rg2, hx2⟩ := t_units_at (k := 5) (by decide) a pl 470 true ha (by decide) (by omega) (by omega) S1
  have ne : (10 : Int) ^ a.2 ≠ 0 := Int.ne_of_gt (pow10_pos _)
  have v1e := rgt_uniq ne rg1 (quo_right (a.1 * 10 ^ pl) (10 ^ a.2) false ne)
  have v2e := rgt_uniq ne rg2 (quo_right (a.1 * 10 ^ pl) (10 ^ a.2) true ne)
  rw [← v1e] at pf
  rw [← v2e] at pt
  have sm2 := same2 (.int v1) (.int v2) rfl S1
  clear hx1 hx2 v1e v2e ne rg1 rg2 btop w1 h ha
  refine ⟨S1, ?_⟩
  unfold q_law_1 dec at *
  rw [← ea] at al
  clear ea
  generalize (10 : Int) ^ mr = P1 at *
  generalize (10 : Int) ^ fg = P2 at *
  generalize (10 : Int) ^ pl = P3 at *
  generalize (10 : Int) ^ a.2 = P4 at *
  walk_at "ev*"

theorem sum_eq (a b : Int × Nat) (m : Nat) (h1 : a.2 ≤ m) (h2 : b.2 ≤ m) : sumAt a b m * 10 ^ (a.2 + b.2) = (a.1 * 10 ^ b.2 + b.1 * 10 ^ a.2) * 10 ^ m := by
  unfold sumAt
  rw [Int.add_mul, Int.add_mul]
  have e1 : a.1 * 10 ^ (m - a.2) * 10 ^ (a.2 + b.2) = a.1 * 10 ^ b.2 * 10 ^ m := by
    rw [Int.mul_assoc, Int.mul_assoc, ← Int.pow_add, ← Int.pow_add]
    congr 2
    omega
  have e2 : b.1 * 10 ^ (m - b.2) * 10 ^ (a.2 + b.2) = b.1 * 10 ^ a.2 * 10 ^ m := by
    rw [Int.mul_assoc, Int.mul_assoc, ← Int.pow_add, ← Int.pow_add]
    congr 2
    omega
  rw [e1, e2]
theorem cmp_sgn (a b : Int × Nat) : sgn (nrm (max a.2 b.2) (sumAt a (-b.1, b.2) (max a.2 b.2))).1 = sgn (a.1 * 10 ^ b.2 - b.1 * 10 ^ a.2) := by
  rw [sgn_nrm]
  have e := sum_eq a (-b.1, b.2) (max a.2 b.2) (by omega) (by dsimp only; omega)
  dsimp only at e
  have h1 := sgn_mul (i := sumAt a (-b.1, b.2) (max a.2 b.2)) (pow10_pos (a.2 + b.2))
  rw [← h1, e, sgn_mul (pow10_pos _), Int.neg_mul, Int.sub_eq_add_neg]
theorem sgn_two (l r : Int) : (if decide (r < l) = true then (1 : Int) else 0) - (if decide (l < r) = true then (1 : Int) else 0) = sgn (l - r) := by
  unfold sgn
  by_cases h1 : r < l
  · rw [decide_eq_true h1, decide_eq_false (show ¬ l < r by omega), if_neg (show ¬ l - r = 0 by omega), if_pos (show l - r > 0 by omega)]
    rfl
  · by_cases h2 : l < r
    · rw [decide_eq_false h1, decide_eq_true h2, if_neg (show ¬ l - r = 0 by omega), if_neg (show ¬ l - r > 0 by omega)]
      rfl
    · rw [decide_eq_false h1, decide_eq_false h2, if_pos (show l - r = 0 by omega)]
      rfl
theorem sgn_swap (l r : Int) : sgn (r - l) = -sgn (l - r) := by
  unfold sgn
  by_cases h0 : l - r = 0
  · rw [if_pos h0, if_pos (by omega)]; rfl
  · rw [if_neg h0, if_neg (by omega)]
    by_cases h1 : l - r > 0
    · rw [if_pos h1, if_neg (by omega)]
    · rw [if_neg h1, if_pos (by omega)]; rfl
theorem rest2 (ns : List Int) (S : Sto) (h : Dw ns S) (a b : Int × Nat) (ha : Bn 470 a.1) (ha2 : a.2 ≤ 300) (hb : Bn 480 b.1) (hb2 : b.2 ≤ 310) (e0 e2 e4 e8 e9 e10 e11 e12 e13 e14 e15 e16 : Option D) :
    ∃ S', q_law_2 (T 5) [e0, some (.loc 0), e2, some (dec a), e4, some (dec b), some (.int (a.1 * 10 ^ b.2)), some (.int (b.1 * 10 ^ a.2)), e8, e9, e10, e11, e12, e13, e14, e15, e16] S = .rt (.bl true) S' := by
  have c1 := t_compare (k := 5) (by decide) a b 480 (bn_mono ha (by decide)) hb (by decide) (by omega) (by omega) S
  have c2 := t_compare (k := 5) (by decide) b a 480 hb (bn_mono ha (by decide)) (by decide) (by omega) (by omega) S
  rw [cmp_sgn] at c1 c2
  rw [sgn_swap] at c2
  have s2 := sgn_two (a.1 * 10 ^ b.2) (b.1 * 10 ^ a.2)
  simp only [decide_eq_true_eq] at s2
  have sh := t_show (k := 5) (by decide) a 470 ha (by decide) (by decide) (by omega) S
  have tt := t_text (k := 5) (by decide) a 470 ha (by decide) (by decide) (by omega) S
  generalize sgn (a.1 * 10 ^ b.2 - b.1 * 10 ^ a.2) = sg at *
  generalize txt a = tx at *
  have sm := t_same5 1 (.tup [.int sg, .int (-sg), .str tx]) rfl 5 (by decide) S
  obtain ⟨mr, S1, w1, h1, q1⟩ := dr5 50 S (by decide) (by decide) h
  obtain ⟨fg, S2, w2, h2, q2⟩ := dr5 450 S1 (by decide) (by decide) w1
  obtain ⟨S3, r3⟩ := rest1 ns S2 w2 a ha ha2 mr fg (by omega) (by omega) e0 e2 e4 (some (dec b)) (some (.int (a.1 * 10 ^ b.2))) (some (.int (b.1 * 10 ^ a.2))) e8 e9 e10 (some (.int sg)) e14 e15 e16
  refine ⟨S3, ?_⟩
  clear w1 w2 h h1 h2 ha ha2 hb hb2
  unfold q_law_2
  generalize a.1 * 10 ^ b.2 = l at *
  generalize b.1 * 10 ^ a.2 = r at *
  generalize dec a = da at *
  generalize dec b = db at *
  generalize (mr : Int) = m1 at *
  generalize (fg : Int) = f1 at *
  walk_at "ev*"

theorem rest3 (ns : List Int) (S : Sto) (h : Dw ns S) (p a b : Int × Nat) (hp : a = nrm p.2 p.1) (ha : Bn 470 a.1) (ha2 : a.2 ≤ 300) (hb : Bn 480 b.1) (hb2 : b.2 ≤ 310) (e0 e4 e8 e9 e10 e11 e12 e13 e14 e15 e16 : Option D) :
    ∃ S', q_law_3 (T 5) [e0, some (.loc 0), some (dec p), some (dec a), e4, some (dec b), some (.int (a.1 * 10 ^ b.2)), some (.int (b.1 * 10 ^ a.2)), e8, e9, e10, e11, e12, e13, e14, e15, e16] S = .rt (.bl true) S' := by
  have tn := t_normal (k := 5) (by decide) p.2 p.1 S
  rw [← hp] at tn
  have t1 := t_add (k := 5) (by decide) a b 480 (bn_mono ha (by decide)) hb (by decide) (by omega) (by omega) S
  have t2 := t_subtract (k := 5) (by decide) a b 480 (bn_mono ha (by decide)) hb (by decide) (by omega) (by omega) S
  have t3 := t_multiply (k := 5) (by decide) a b 480 (bn_mono ha (by decide)) hb (by decide) S
  have t4 := t_negative (k := 5) (by decide) a S
  rw [nrm_eq_of (sum_eq a b (max a.2 b.2) (by omega) (by omega))] at t1
  have e2 := sum_eq a (-b.1, b.2) (max a.2 b.2) (by omega) (by dsimp only; omega)
  dsimp only at e2
  rw [Int.neg_mul, ← Int.sub_eq_add_neg] at e2
  rw [nrm_eq_of e2] at t2
  have l1 := t_least (k := 5) (by decide) (a.1 * 10 ^ b.2 + b.1 * 10 ^ a.2) (a.2 + b.2) (by omega) S
  have l2 := t_least (k := 5) (by decide) (a.1 * 10 ^ b.2 - b.1 * 10 ^ a.2) (a.2 + b.2) (by omega) S
  have l3 := t_least (k := 5) (by decide) (a.1 * b.1) (a.2 + b.2) (by omega) S
  have mm := mulOk_bn ha hb (by decide)
  have ea : (a.2 : Int) + (b.2 : Int) = ((a.2 + b.2 : Nat) : Int) := by omega
  have sm := t_same5 2 (.tup [dec a, dec (nrm (a.2 + b.2) (a.1 * 10 ^ b.2 + b.1 * 10 ^ a.2)), dec (nrm (a.2 + b.2) (a.1 * 10 ^ b.2 - b.1 * 10 ^ a.2)), dec (nrm (a.2 + b.2) (a.1 * b.1)), dec (-a.1, a.2)]) rfl 5 (by decide) S
  obtain ⟨S3, r3⟩ := rest2 ns S h a b ha ha2 hb hb2 e0 (some (dec p)) e4 (some (.int ((a.2 + b.2 : Nat) : Int))) (some (.tup [dec a, dec (nrm (a.2 + b.2) (a.1 * 10 ^ b.2 + b.1 * 10 ^ a.2)), dec (nrm (a.2 + b.2) (a.1 * 10 ^ b.2 - b.1 * 10 ^ a.2)), dec (nrm (a.2 + b.2) (a.1 * b.1)), dec (-a.1, a.2)])) (some (.tup [dec a, dec (nrm (a.2 + b.2) (a.1 * 10 ^ b.2 + b.1 * 10 ^ a.2)), dec (nrm (a.2 + b.2) (a.1 * 10 ^ b.2 - b.1 * 10 ^ a.2)), dec (nrm (a.2 + b.2) (a.1 * b.1)), dec (-a.1, a.2)])) e11 e12 e13 e14 e15 e16
  refine ⟨S3, ?_⟩
  clear h ha ha2 hb hb2 e2 hp
  have s5 : PD.sizeOk 5 := so_le (by decide)
  have s2 : PD.sizeOk 2 := so_le (by decide)
  unfold q_law_3
  generalize nrm (a.2 + b.2) (a.1 * 10 ^ b.2 + b.1 * 10 ^ a.2) = n1 at *
  generalize nrm (a.2 + b.2) (a.1 * 10 ^ b.2 - b.1 * 10 ^ a.2) = n2 at *
  generalize nrm (a.2 + b.2) (a.1 * b.1) = n3 at *
  generalize a.1 * 10 ^ b.2 = l at *
  generalize b.1 * 10 ^ a.2 = r at *
  unfold dec at *
  generalize hs : ((a.2 + b.2 : Nat) : Int) = sc at *
  clear hs
  walk_at "ev*"
theorem rest4 (ns : List Int) (S : Sto) (h : Dw ns S) (p q a : Int × Nat) (hp : a = nrm p.2 p.1) (ha : Bn 470 a.1) (ha2 : a.2 ≤ 300) (hq : Bn 470 q.1) (hq2 : q.2 ≤ 300) (e0 e5 e6 e7 e8 e9 e10 e11 e12 e13 e14 e15 e16 : Option D) :
    ∃ S', q_law_4 (T 5) [e0, some (.loc 0), some (dec p), some (dec a), some (dec q), e5, e6, e7, e8, e9, e10, e11, e12, e13, e14, e15, e16] S = .rt (.bl true) S' := by
  have tl := t_least (k := 5) (by decide) q.1 q.2 (by omega) S
  obtain ⟨d1, S1, w1, b1, q1⟩ := dr5 3 S (by decide) (by decide) h
  have go : ∀ (S : Sto) (b : Int × Nat) (e8 : Option D), Dw ns S → Bn 480 b.1 → b.2 ≤ 310 → ∃ S', (mSeq (mSet 6 (mBin gMul (mBin gIx (mVar 3) (mC (.int 0))) (mCall (T 5)._law_ten (mCons (mBin gIx (mVar 5) (mC (.int 1))) mNil))))
      (mSeq (mSet 7 (mBin gMul (mBin gIx (mVar 5) (mC (.int 0))) (mCall (T 5)._law_ten (mCons (mBin gIx (mVar 3) (mC (.int 1))) mNil))))
      (q_law_3 (T 5)))) [e0, some (.loc 0), some (dec p), some (dec a), some (dec q), some (dec b), e6, e7, e8, e9, e10, e11, e12, e13, e14, e15, e16] S = .rt (.bl true) S' := by
    intro S b e8 w hb hb2
    have ta := t_ten5 (k := 5) (by decide) a.2 (by omega) S
    have tb := t_ten5 (k := 5) (by decide) b.2 (by omega) S
    have ma := mulOk_bn ha (bn_pow b.2) (by omega)
    have mb := mulOk_bn hb (bn_pow a.2) (by omega)
    obtain ⟨S3, r3⟩ := rest3 ns S w p a b hp ha ha2 hb hb2 e0 (some (dec q)) e8 e9 e10 e11 e12 e13 e14 e15 e16
    refine ⟨S3, ?_⟩
    clear hp ha ha2 hb hb2 w
    unfold dec at *
    generalize (10 : Int) ^ a.2 = P1 at *
    generalize (10 : Int) ^ b.2 = P2 at *
    walk_at "ev*"
  have hn := nrm_spec q.2 q.1
  by_cases c : (d1 : Int) = 0
  · obtain ⟨d2, S2, w2, b2, q2⟩ := dr5 4 S1 (by decide) (by decide) w1
    obtain ⟨d3, S3, w3, b3, q3⟩ := dr5 3 S2 (by decide) (by decide) w2
    have tt := t_ten5 (k := 5) (by decide) d2 (by omega) S2
    have mu := mulOk_bn ha (bn_pow d2) (by omega)
    have hx := bn_mul ha (bn_pow d2)
    have hy : Bn 476 (a.1 * 10 ^ d2 + (d3 : Int) - 1) := by
      have h1 : Bn 475 ((d3 : Int) - 1) := bn_mono (show Bn 1 ((d3 : Int) - 1) by unfold Bn; omega) (by decide)
      have := bn_add (bn_mono hx (show 470 + (d2 + 1) ≤ 475 by omega)) h1
      rw [show a.1 * 10 ^ d2 + (d3 : Int) - 1 = a.1 * 10 ^ d2 + ((d3 : Int) - 1) by omega]
      exact this
    have t2 := t_least (k := 5) (by decide) (a.1 * 10 ^ d2 + (d3 : Int) - 1) (a.2 + d2) (by omega) S3
    have hs2 := (nrm_spec (a.2 + d2) (a.1 * 10 ^ d2 + (d3 : Int) - 1)).1
    obtain ⟨S4, r4⟩ := go S3 (nrm (a.2 + d2) (a.1 * 10 ^ d2 + (d3 : Int) - 1)) (some (.int ((a.2 : Int) + (d2 : Int)))) w3 (bn_mono (nrm_bn hy) (by decide)) (by omega)
    refine ⟨S4, ?_⟩
    rw [← r4]
    clear go hp ha ha2 hq hq2 w1 w2 w3 hx hy hn hs2 r4
    have ec : (a.2 : Int) + (d2 : Int) = ((a.2 + d2 : Nat) : Int) := by omega
    have ed : ((a.2 : Int) + (d2 : Int)) - (a.2 : Int) = (d2 : Int) := by omega
    rw [← ec] at t2
    clear ec
    unfold q_law_4
    generalize nrm (a.2 + d2) (a.1 * 10 ^ d2 + (d3 : Int) - 1) = B at *
    generalize nrm q.2 q.1 = B0 at *
    unfold dec at *
    generalize (10 : Int) ^ d2 = P at *
    generalize (d1 : Int) = i1 at *
    generalize (d3 : Int) = i3 at *
    walk_at "ev*"
  · obtain ⟨S4, r4⟩ := go S1 (nrm q.2 q.1) e8 w1 (bn_mono (nrm_bn hq) (by decide)) (by omega)
    refine ⟨S4, ?_⟩
    rw [← r4]
    clear go hp ha ha2 hq hq2 w1 hn r4
    unfold q_law_4
    generalize nrm q.2 q.1 = B0 at *
    unfold dec at *
    generalize (d1 : Int) = i1 at *
    walk_at "ev*"
theorem law_true (ns : List Int) (hn : ns.length ≤ 63) : ∃ S', (T 6).law [.fz (ns.map D.int)] [] = .ok (.bl true) S' := by
  have t0 := t_draws (k := 5) (by decide) ns
  obtain ⟨p, S1, w1, b1, c1, q1⟩ := t_number5 (k := 5) (by decide) ns (St ns 0 0 1) (.mk _ _ _ (by decide) (by decide))
  have tl := t_least (k := 5) (by decide) p.1 p.2 (by omega) S1
  obtain ⟨q, S2, w2, b2, c2, q2⟩ := t_number5 (k := 5) (by decide) ns S1 w1
  have hs := nrm_spec p.2 p.1
  obtain ⟨S3, r3⟩ := rest4 ns S2 w2 p q (nrm p.2 p.1) rfl (nrm_bn b1) (by omega) b2 c2 (some (.fz (ns.map D.int))) none none none none none none none none none none none none
  refine ⟨S3, ?_⟩
  rw [show 6 = 5 + 1 from rfl, T_law]
  unfold b_law
  clear w1 w2 b1 b2 c1 c2 hs
  generalize nrm p.2 p.1 = a at *
  unfold dec at *
  generalize St ns 0 0 1 = S0 at *
  walk_at "ev*"
end Law
open PySem PySem.W PySem.Calls PyProof.Rows
set_option maxRecDepth 100000 in
set_option maxHeartbeats 0 in
theorem PySem.Challenge.cw_cardwright_k05_decimals_without_bound_holds : PySem.Challenge.rw_cardwright_k05_decimals_without_bound.Holds := by
  w_on; o_law
  refine HandSHeadRun.head_any (r := OpenLaw.row PySem.Challenge.rw_cardwright_k05_decimals_without_bound) (q := view (OpenLaw.row PySem.Challenge.rw_cardwright_k05_decimals_without_bound).prog [24]) (H := Law.hk) (ob := Law.ob) (M := 2100) (loose := Law.loose) (d := HandSHeadRun.topDef (OpenLaw.row PySem.Challenge.rw_cardwright_k05_decimals_without_bound).prog 24) (kwd := []) Law.ob_eq
    (by kernel_rfl) (fun s => by kernel_rfl) Law.run (by kernel_rfl) (by kernel_rfl) (by kernel_rfl) (by rfl) (by first | assumption | decide +kernel) (by decide +kernel) ⟨rfl, rfl, rfl, rfl, rfl, by decide +kernel⟩ ?hw ?hc
  case hw => w_witness2
  case hc =>
    refine PD.walk_W (l := PySem.Challenge.rw_cardwright_k05_decimals_without_bound) (n := 63) (k := 5 + 1) (x := "script") (m := (Law.T (5 + 1)).law) rfl (by decide) (by kernel_rfl) ⟨rfl, by decide, by decide⟩ ?F Law.law_true
    intro w mg fa h Y G hmg0
    obtain ⟨K, KX, c, c2⟩ := Y
    have hmg : mg ("law" : PySem.Str) = some (.ref fa) := by
      have e : (HandSHeadRun.topDef (OpenLaw.row PySem.Challenge.rw_cardwright_k05_decimals_without_bound).prog 24).name = ("law" : PySem.Str) := by kernel_rfl
      rw [← e]
      exact hmg0
    have x := Law.facts KX G c c2
    obtain ⟨fd, F⟩ := c.def_ 21 (d := Law.e_law) rfl
    refine ⟨K, fd, KX, fun s u => L2.FunD.bindsA (ps := ["script"]) F (fun _ _ _ _ _ _ us hl => match us, hl with | [_], _ => rfl) s [u] rfl, fun base _ _ => ?_⟩
    exact PD.law_fn F (He.glo_ok KX G (c.fact 21 rfl)) hmg Law.sc_law fun f cdv A outer s H E hr => Law.d_law (Law.gs_all x 5) hr
#print axioms PySem.Challenge.cw_cardwright_k05_decimals_without_bound_holds
