/- From a law's walk to its row: arguments that read as before, one bool. Over any program. Plain data of the program, and what the document says of ops: no program in sight. No conditions. Plain data: replies, sessions, tables; what the document says of them. No program in sight. No conditions. Sessions and tables in memory. No conditions. How arguments are read. No conditions. How slices, sessions, tables are read. No conditions. -/
import Derived.ProofKit
import Derived.OpenShut
import Derived.Lib.SmallJoins
import Derived.Below
import Derived.Carry
import Derived.ChangeSame
import Derived.Test.YtfpmcmhihhnfgaaGreatKE4
import Derived.Test.YtfpmcmhihhnfgaaGreatRows
import Derived.Test.YtfpmcmhihhnfgaaGreatProg
import Derived.KernelRfl
import Derived.Deep.Slices
set_option linter.unusedVariables false
set_option linter.unusedSimpArgs false
namespace Go.Proofs.YtfpmcmhihhnfgaaGreat
open Go.ChangeShapes Go.WideShapes Go.ChangeAt Go.RowKit

theorem trodAll_stays {H : Type} {enc : TypeId × Value → H} {P : Program} (hl : laidOutB P = true) {W W' : World} {sp' : Nat → Bool} : ∀ {ts : List TypeId} {vs : List Value} {ds : List (DataW H)} {ps : List MemPlace},
    (∀ t ∈ ts, P.readableRec t = true ∧ t < P.types.size) → DataW.TrodAll enc P W 0 (fun _ => true) true ts vs ds ps → (∀ p ∈ ps, W.sameAt W' p) → (∀ p ∈ ps, sp' p.block = true) → DataW.TrodAll enc P W' 0 sp' true ts vs ds ps
  | [], vs, ds, ps, _, h, _, _ => by
    obtain ⟨rfl, rfl, rfl⟩ := trodAll_nil h
    exact trodAll_mk0
  | t :: ts, vs, ds, ps, hr, h, hsame, hs => by
    obtain ⟨v, vs', d, ds', p, q, rfl, rfl, rfl, h0, h1⟩ := trodAll_cons h
    refine trodAll_cons_mk (WideElems.Trod_stays hl (hr t (by simp)).1 (hr t (by simp)).2 h0 (fun x hx => hsame x (by simp [hx])) (fun x hx => hs x (by simp [hx])))
      (trodAll_stays hl (fun u hu => hr u (by simp [hu])) h1 (fun x hx => hsame x (by simp [hx])) (fun x hx => hs x (by simp [hx])))

/-- behind a walk that gives true and leaves what was there: the row's post -/
theorem law_post {H : Type} {enc : TypeId × Value → H} {P : Program} (hl : laidOutB P = true) {f : Func} {s : ChangeSpec} {W W' : World} {args : Array Value} {ds gs : List (DataW H)} {before : List MemPlace}
    (hr : ∀ t ∈ f.params.toList, P.readableRec t = true ∧ t < P.types.size) {t : TypeId} (hrt : f.resultTypes = #[t]) (hb : P.underlying t = some .bool) (hvars : s.vars = [])
    (hspec : (s.fn H (ds ++ gs)).results = [.lit (.bool true)]) (hargs : (s.fn H (ds ++ gs)).args = ds) (hv : (s.fn H (ds ++ gs)).vars = [])
    (hW : DataW.Whole enc P f.params.toList s.vars false W args.toList ds gs before) (hbel : Below W.heap.size W W') :
    s.post enc P f false true false false W args (.bool true) W' := by
  have hlt : ∀ p ∈ before, p.block < W.heap.size := fun p hp => hW.lt p hp
  have hW0 := hW
  obtain ⟨p, q, hA, hV, rfl, hz, hn⟩ := hW
  have hq : q = [] := by
    rw [hvars] at hV
    have := trodVars_none hV
    simp_all
  subst hq
  have hstay : ∀ sp : Nat → Bool, (∀ x ∈ p, sp x.block = true) → DataW.TrodAll enc P W' 0 sp true f.params.toList args.toList ds p := fun sp hsp =>
    trodAll_stays hl hr hA (fun x hx => hbel.same (hlt x (by simp [hx]))) hsp
  have hres : ∀ (b : Nat) (sp : Nat → Bool) (hd : Bool), DataW.TrodAll enc P W' b sp hd f.resultTypes.toList ((Value.bool true).resultList f.resultTypes.size) (s.fn H (ds ++ gs)).results [] := fun b sp hd => by
    rw [hspec, hrt]
    exact trodAll_mk1 (shut_bool hb true)
  have hvv : ∀ sp : Nat → Bool, DataW.TrodVars enc P W' sp s.vars (s.fn H (ds ++ gs)).vars [] := fun sp => by
    rw [hvars, hv]
    rfl
  refine ⟨ds, gs, p ++ [], [], p, [], hW0, hres _ _ _, ?_, hvv _, World.keptBut_mono (fun x hx => ⟨hx, ?_⟩) (hbel.frame (· ∈ p ++ [])), fun h => by cases h⟩
  · rw [hargs]
    exact hstay _ (fun x hx => by simpa using hlt x (by simp [hx]))
  · simpa using hx
end Go.Proofs.YtfpmcmhihhnfgaaGreat
namespace Go.Proofs.YtfpmcmhihhnfgaaGreat

/-- four values -/
structure V4 where
  a : Int
  b : Int
  c : Int
  d : Int
  deriving DecidableEq
def V4.zero : V4 := ⟨0, 0, 0, 0⟩
def V4.get (v : V4) (k : Int) : Int := if k = 0 then v.a else if k = 1 then v.b else if k = 2 then v.c else v.d
def V4.set (v : V4) (k n : Int) : V4 := if k = 0 then { v with a := n } else if k = 1 then { v with b := n } else if k = 2 then { v with c := n } else { v with d := n }
def inR (n lo hi : Int) : Bool := decide (lo ≤ n) && decide (n ≤ hi)
def V4.ok (v : V4) : Bool := inR v.a 0 999 && inR v.b 0 999 && inR v.c 0 999 && inR v.d 0 999
theorem inR_iff (n lo hi : Int) : inR n lo hi = true ↔ lo ≤ n ∧ n ≤ hi := by simp [inR]
theorem inR_not (n lo hi : Int) : inR n lo hi = false ↔ n < lo ∨ hi < n := by
  rw [← Bool.not_eq_true, inR_iff]; omega
theorem V4.ok_iff (v : V4) : v.ok = true ↔ (0 ≤ v.a ∧ v.a ≤ 999) ∧ (0 ≤ v.b ∧ v.b ≤ 999) ∧ (0 ≤ v.c ∧ v.c ≤ 999) ∧ (0 ≤ v.d ∧ v.d ≤ 999) := by
  simp [V4.ok, inR, and_assoc]

structure POp where
  kind : Int
  key : Int
  to : Int
  n : Int
  deriving DecidableEq
/-- Check of an op. -/
def POp.err (x : POp) : Int :=
  if x.kind < 1 ∨ 4 < x.kind then 4
  else if x.key < 0 ∨ 3 < x.key ∨ (x.kind = 3 ∧ (x.to < 0 ∨ 3 < x.to)) ∨ (x.kind = 2 ∧ (x.n < -999 ∨ 999 < x.n)) ∨ ((x.kind = 1 ∨ x.kind = 3) ∧ (x.n < 0 ∨ 999 < x.n)) then 3
  else if (x.kind ≠ 3 ∧ x.to ≠ 0) ∨ (x.kind = 4 ∧ x.n ≠ 0) then 1
  else 0
/-- Turn of right values by a right op: the values, the answer. -/
def POp.turn (x : POp) (v : V4) : V4 × Int :=
  if x.kind = 1 then (if (v.set x.key x.n).ok then (v.set x.key x.n, (v.set x.key x.n).get x.key) else (v, -1))
  else if x.kind = 2 then (if (v.set x.key (v.get x.key + x.n)).ok then (v.set x.key (v.get x.key + x.n), (v.set x.key (v.get x.key + x.n)).get x.key) else (v, -1))
  else if x.kind = 3 then
    (if (v.set x.key (v.get x.key - x.n)).ok then
      (if ((v.set x.key (v.get x.key - x.n)).set x.to ((v.set x.key (v.get x.key - x.n)).get x.to + x.n)).ok then
        ((v.set x.key (v.get x.key - x.n)).set x.to ((v.set x.key (v.get x.key - x.n)).get x.to + x.n), ((v.set x.key (v.get x.key - x.n)).set x.to ((v.set x.key (v.get x.key - x.n)).get x.to + x.n)).get x.key)
      else (v, -1))
    else (v, -1))
  else (v, v.get x.key)
/-- Do: the values, the answer, the error. -/
def POp.does (x : POp) (v : V4) : V4 × Int × Int :=
  if x.err ≠ 0 then (V4.zero, 0, x.err) else if v.ok = false then (V4.zero, 0, 3) else ((x.turn v).1, (x.turn v).2, 0)
end Go.Proofs.YtfpmcmhihhnfgaaGreat
namespace Go.Proofs.YtfpmcmhihhnfgaaGreat

structure Rep where
  seq : Int
  val : Int
  deriving DecidableEq
structure Ses where
  client : Int
  acked : Int
  seen : Int
  kept : List Rep
  deriving DecidableEq
def Ses.zero : Ses := ⟨0, 0, 0, []⟩
/-- answers that are kept: in order, from last on -/
def keptOk (acked : Int) : Int → List Rep → Bool
  | _, [] => true
  | last, r :: t => decide (last < r.seq ∧ r.seq ≤ acked + 3 ∧ r.seq ≤ 60 ∧ -1 ≤ r.val ∧ r.val ≤ 999) && keptOk acked r.seq t
def Ses.err (s : Ses) : Int :=
  if s.client < 1 ∨ 5 < s.client ∨ s.acked < 0 ∨ 60 < s.acked ∨ s.seen < 0 ∨ 999 < s.seen then 3 else if keptOk s.acked s.acked s.kept = true then 0 else 1
def firstErr : List Ses → Int
  | [] => 0
  | s :: t => if s.err = 0 then firstErr t else s.err
/-- clients in order, from last on -/
def ordered : Int → List Ses → Bool
  | _, [] => true
  | last, s :: t => decide (last < s.client) && ordered s.client t
def tabErr (l : List Ses) : Int := if 3 < l.length then 2 else if firstErr l = 0 then (if ordered 0 l = true then 0 else 1) else firstErr l
/-- a right table -/
structure TabOk (l : List Ses) : Prop where
  len : l.length ≤ 3
  one : ∀ s ∈ l, s.err = 0
  ord : l.Pairwise fun a b => a.client < b.client
theorem Ses.err_ok {s : Ses} (h : s.err = 0) : (1 ≤ s.client ∧ s.client ≤ 5) ∧ (0 ≤ s.acked ∧ s.acked ≤ 60) ∧ (0 ≤ s.seen ∧ s.seen ≤ 999) ∧ keptOk s.acked s.acked s.kept = true := by
  unfold Ses.err at h
  split at h
  · cases h
  · split at h
    · rename_i h1 h2
      exact ⟨by omega, by omega, by omega, h2⟩
    · cases h
theorem firstErr_ok {l : List Ses} : firstErr l = 0 ↔ ∀ s ∈ l, s.err = 0 := by
  induction l with
  | nil => simp [firstErr]
  | cons s t ih =>
    simp only [firstErr, List.mem_cons, forall_eq_or_imp]
    split
    · rename_i h; rw [ih]; exact ⟨fun hh => ⟨h, hh⟩, fun hh => hh.2⟩
    · rename_i h; exact ⟨fun hh => absurd hh h, fun hh => absurd hh.1 h⟩
theorem ordered_ok {l : List Ses} : ∀ {a : Int}, ordered a l = true ↔ (∀ s ∈ l, a < s.client) ∧ l.Pairwise fun a b => a.client < b.client := by
  induction l with
  | nil => simp [ordered]
  | cons s t ih =>
    intro a
    simp only [ordered, Bool.and_eq_true, decide_eq_true_eq, ih, List.pairwise_cons, List.mem_cons, forall_eq_or_imp]
    constructor
    · rintro ⟨h1, h2, h3⟩
      exact ⟨⟨h1, fun u hu => by have := h2 u hu; omega⟩, h2, h3⟩
    · rintro ⟨⟨h1, h2⟩, h3, h4⟩
      exact ⟨h1, h3, h4⟩
theorem tabErr_ok {l : List Ses} : tabErr l = 0 ↔ TabOk l := by
  unfold tabErr
  constructor
  · intro h
    split at h
    · cases h
    · split at h
      · split at h
        · rename_i h1 h2 h3
          exact ⟨by omega, firstErr_ok.1 h2, (ordered_ok.1 h3).2⟩
        · cases h
      · rename_i h1 h2; exact absurd h h2
  · intro h
    rw [if_neg (by have := h.len; omega), if_pos (firstErr_ok.2 h.one), if_pos (ordered_ok.2 ⟨fun s hs => by have := (Ses.err_ok (h.one s hs)).1; omega, h.ord⟩)]
/-- how many come before a client -/
def posT (l : List Ses) (c : Int) : Nat := (l.filter fun s => decide (s.client < c)).length
def hasT (l : List Ses) (c : Int) : Bool := l.any fun s => decide (s.client = c)
def findT (l : List Ses) (c : Int) : Ses := (l.find? fun s => decide (s.client = c)).getD Ses.zero
def putT (l : List Ses) (s : Ses) : List Ses := (l.filter fun x => decide (x.client < s.client)) ++ s :: l.filter fun x => decide (s.client < x.client)
def dropT (l : List Ses) (c : Int) : List Ses := l.filter fun x => decide (x.client ≠ c)
def freshT (l : List Ses) (clock : Int) : List Ses := l.filter fun x => decide (clock - 20 ≤ x.seen)
def sPut (l : List Ses) (s : Ses) : List Ses × Int :=
  if tabErr l = 0 then (if s.err = 0 then (if 3 < (putT l s).length then ([], 2) else (putT l s, 0)) else ([], s.err)) else ([], tabErr l)
end Go.Proofs.YtfpmcmhihhnfgaaGreat
namespace Go.Proofs.YtfpmcmhihhnfgaaGreat
open Go.RowKit

/-- pair by pair -/
inductive All2 {α β : Type} (R : α → β → Prop) : List α → List β → Prop where
  | nil : All2 R [] []
  | cons (a : α) (b : β) (l : List α) (m : List β) (h : R a b) (t : All2 R l m) : All2 R (a :: l) (b :: m)
namespace All2
variable {α β : Type} {R S : α → β → Prop}
theorem length {l : List α} {m : List β} (h : All2 R l m) : l.length = m.length := by
  induction h with
  | nil => rfl
  | cons a b l m h t ih => simp [ih]
theorem get {l : List α} {m : List β} (h : All2 R l m) : ∀ {i : Nat} {a : α}, l[i]? = some a → ∃ b, m[i]? = some b ∧ R a b := by
  induction h with
  | nil => intro i a hi; simp at hi
  | cons a b l m h t ih =>
    intro i x hi
    cases i with
    | zero => simp at hi; subst hi; exact ⟨b, by simp, h⟩
    | succ i => simpa using ih (by simpa using hi)
theorem get' {l : List α} {m : List β} (h : All2 R l m) : ∀ {i : Nat} {b : β}, m[i]? = some b → ∃ a, l[i]? = some a ∧ R a b := by
  induction h with
  | nil => intro i a hi; simp at hi
  | cons a b l m h t ih =>
    intro i x hi
    cases i with
    | zero => simp at hi; subst hi; exact ⟨a, by simp, h⟩
    | succ i => simpa using ih (by simpa using hi)
theorem mono {l : List α} {m : List β} (h : All2 R l m) (hs : ∀ a b, R a b → S a b) : All2 S l m := by
  induction h with
  | nil => exact .nil
  | cons a b l m h t ih => exact .cons a b l m (hs a b h) ih
theorem append {l l' : List α} {m m' : List β} (h : All2 R l m) (h' : All2 R l' m') : All2 R (l ++ l') (m ++ m') := by
  induction h with
  | nil => exact h'
  | cons a b l m h t ih => exact .cons a b _ _ h ih
theorem take {l : List α} {m : List β} (h : All2 R l m) : ∀ (i : Nat), All2 R (l.take i) (m.take i) := by
  induction h with
  | nil => intro i; simp; exact .nil
  | cons a b l m h t ih =>
    intro i
    cases i with
    | zero => exact .nil
    | succ i => exact .cons a b _ _ h (ih i)
theorem drop {l : List α} {m : List β} (h : All2 R l m) : ∀ (i : Nat), All2 R (l.drop i) (m.drop i) := by
  induction h with
  | nil => intro i; simp; exact .nil
  | cons a b l m h t ih =>
    intro i
    cases i with
    | zero => exact .cons a b _ _ h t
    | succ i => exact ih i
theorem one {a : α} {b : β} (h : R a b) : All2 R [a] [b] := .cons a b _ _ h .nil
end All2

def Rep.row (r : Rep) : List Value := [vi r.seq, vi r.val]
def Kept (H : Hp) (p : Option Loc) (n c : Nat) (l : List Rep) : Prop := n ≤ c ∧ c ≤ maxLen ∧ Rows H p n 2 (l.map Rep.row)
def SesRow (H : Hp) (row : List Value) (s : Ses) : Prop := ∃ p n c, row = [vi s.client, vi s.acked, vi s.seen, vsl p n c] ∧ Kept H p n c s.kept
def Tab (H : Hp) (p : Option Loc) (n c : Nat) (l : List Ses) : Prop := n ≤ c ∧ c ≤ maxLen ∧ ∃ rows, Rows H p n 4 rows ∧ All2 (SesRow H) rows l
section
variable {H K : Hp} {p : Option Loc} {n c : Nat}
theorem Kept.mono {l : List Rep} (h : Kept H p n c l) (hk : H.le K) : Kept K p n c l := ⟨h.1, h.2.1, h.2.2.mono hk⟩
theorem SesRow.mono {row : List Value} {s : Ses} (h : SesRow H row s) (hk : H.le K) : SesRow K row s := by
  obtain ⟨p, n, c, h1, h2⟩ := h
  exact ⟨p, n, c, h1, h2.mono hk⟩
theorem Tab.mono {l : List Ses} (h : Tab H p n c l) (hk : H.le K) : Tab K p n c l := by
  obtain ⟨h1, h2, rows, h3, h4⟩ := h
  exact ⟨h1, h2, rows, h3.mono hk, h4.mono fun _ _ h => h.mono hk⟩
theorem Kept.len {l : List Rep} (h : Kept H p n c l) : n = l.length := by simpa using h.2.2.len
theorem Kept.lt63 {l : List Rep} (h : Kept H p n c l) : (n : Int) ≤ 9223372036854775807 := by have := h.1; have := h.2.1; simp only [maxLen] at this; omega
theorem Tab.len {l : List Ses} (h : Tab H p n c l) : n = l.length := by
  obtain ⟨_, _, rows, h3, h4⟩ := h
  rw [h3.len, h4.length]
theorem Tab.lt63 {l : List Ses} (h : Tab H p n c l) : (n : Int) ≤ 9223372036854775807 := by have := h.1; have := h.2.1; simp only [maxLen] at this; omega
/-- the reply at k -/
theorem Kept.at {l : List Rep} (h : Kept H p n c l) {k : Nat} (hk : k < n) : ∃ r : Rep, l[k]? = some r ∧ ∀ off : Int, off = k * 2 → RowAt H p off [vi r.seq, vi r.val] ∧ RowAt H p off [vi r.seq] ∧ RowAt H p (off + 1) [vi r.val] := by
  obtain ⟨row, h1, _, _⟩ := h.2.2.at hk (off := k * 2) rfl
  rw [List.getElem?_map, Option.map_eq_some_iff] at h1
  obtain ⟨r, hr, rfl⟩ := h1
  refine ⟨r, hr, fun off ho => ?_⟩
  obtain ⟨row', h1', _, h3⟩ := h.2.2.at hk ho
  rw [List.getElem?_map, hr] at h1'
  simp only [Option.map_some, Option.some.injEq] at h1'
  subst h1'
  exact ⟨h3, h3.sub (by omega) (j := 0) rfl (by simp), h3.sub (by omega) (j := 1) rfl (by simp)⟩
/-- the session at k -/
theorem Tab.at {l : List Ses} (h : Tab H p n c l) {k : Nat} (hk : k < n) : ∃ (s : Ses) (q : Option Loc) (m d : Nat), l[k]? = some s ∧ Kept H q m d s.kept ∧ ∀ off : Int, off = k * 4 →
    RowAt H p off [vi s.client, vi s.acked, vi s.seen, vsl q m d] ∧ RowAt H p off [vi s.client] ∧ RowAt H p (off + 1) [vi s.acked] ∧ RowAt H p (off + 2) [vi s.seen] ∧ RowAt H p (off + 3) [vsl q m d] := by
  obtain ⟨_, _, rows, h3, h4⟩ := h
  obtain ⟨row, h5, _, _⟩ := h3.at hk (off := k * 4) rfl
  obtain ⟨s, hs, q, m, d, rfl, hq⟩ := h4.get h5
  refine ⟨s, q, m, d, hs, hq, fun off ho => ?_⟩
  obtain ⟨row', h1', _, h6⟩ := h3.at hk ho
  rw [h5] at h1'
  simp only [Option.some.injEq] at h1'
  subst h1'
  exact ⟨h6, h6.sub (by omega) (j := 0) rfl (by simp), h6.sub (by omega) (j := 1) rfl (by simp), h6.sub (by omega) (j := 2) rfl (by simp), h6.sub (by omega) (j := 3) rfl (by simp)⟩
end
theorem drop_cons {α : Type} {l : List α} {k : Nat} {x : α} (h : l[k]? = some x) : l.drop k = x :: l.drop (k + 1) := by
  obtain ⟨h1, h2⟩ := List.getElem?_eq_some_iff.1 h
  rw [List.drop_eq_getElem_cons h1, h2]
theorem Rt.gv' {W0 : World} {H : Hp} {kn : World → Prop} {v v' : Value} (h : v = v') : Rt (fun z W' => z = .returned v' ∧ Ext W0 W') W0 noM H kn v := h ▸ Rt.gv
end Go.Proofs.YtfpmcmhihhnfgaaGreat
namespace Go.Proofs.YtfpmcmhihhnfgaaGreat
open Go.ChangeShapes Go.WideShapes Go.ChangeAt Go.RowKit
set_option maxRecDepth 100000
theorem own : ownKnob Tryz.prog.godebug = none := by kernel_rfl
theorem laidOut : laidOutB Tryz.prog = true := by kernel_rfl
theorem cellsOfV4 : Tryz.prog.cellsOf 22 = 4 := by kernel_rfl
theorem cellsOfOp : Tryz.prog.cellsOf 33 = 4 := by kernel_rfl
theorem cellsOfInt : Tryz.prog.cellsOf 3 = 1 := by kernel_rfl

section
variable {H : Type} {enc : TypeId × Value → H} {w : World} {base : Nat} {spare : Nat → Bool} {held : Bool} {fuel : Nat} {cs : List Value} {x : DataW H × List MemPlace}
/-- four values, read -/
theorem rd_v4 (h : DataW.trod enc Tryz.prog w base spare held fuel 22 cs = some x) : ∃ a b c d : Int, cs = [.int .i64 a, .int .i64 b, .int .i64 c, .int .i64 d] := by
  obtain ⟨xs, m, _, _, hl, hn, hf⟩ := DataW.trod_array Tryz.underlying22 h
  rw [cellsOfV4] at hl
  match cs, hl with
  | [c0, c1, c2, c3], _ =>
    match xs, hn with
    | [y0, y1, y2, y3], _ =>
      have h0 := hf 0 (by omega)
      have h1 := hf 1 (by omega)
      have h2 := hf 2 (by omega)
      have h3 := hf 3 (by omega)
      rw [cellsOfInt] at h0 h1 h2 h3
      obtain ⟨a, e0, _⟩ := DataW.trod_int Tryz.underlying3 (h0.trans rfl)
      obtain ⟨b, e1, _⟩ := DataW.trod_int Tryz.underlying3 (h1.trans rfl)
      obtain ⟨c, e2, _⟩ := DataW.trod_int Tryz.underlying3 (h2.trans rfl)
      obtain ⟨d, e3, _⟩ := DataW.trod_int Tryz.underlying3 (h3.trans rfl)
      simp at e0 e1 e2 e3
      exact ⟨a, b, c, d, by rw [e0, e1, e2, e3]⟩
theorem rd_op (h : DataW.trod enc Tryz.prog w base spare held fuel 33 cs = some x) : ∃ a b c d : Int, cs = [.int .i64 a, .int .i64 b, .int .i64 c, .int .i64 d] := by
  obtain ⟨xs, m, _, _, hl, hn, hf⟩ := DataW.trod_struct Tryz.underlying33 h
  rw [cellsOfOp] at hl
  match cs, hl with
  | [c0, c1, c2, c3], _ =>
    match xs, hn with
    | [y0, y1, y2, y3], _ =>
      have h0 : DataW.trod enc Tryz.prog w base spare held m 3 (([c0, c1, c2, c3].drop 0).take (Tryz.prog.cellsOf 3)) = some y0 := hf 0 _ rfl
      have h1 : DataW.trod enc Tryz.prog w base spare held m 3 (([c0, c1, c2, c3].drop 1).take (Tryz.prog.cellsOf 3)) = some y1 := hf 1 _ rfl
      have h2 : DataW.trod enc Tryz.prog w base spare held m 3 (([c0, c1, c2, c3].drop 2).take (Tryz.prog.cellsOf 3)) = some y2 := hf 2 _ rfl
      have h3 : DataW.trod enc Tryz.prog w base spare held m 3 (([c0, c1, c2, c3].drop 3).take (Tryz.prog.cellsOf 3)) = some y3 := hf 3 _ rfl
      rw [cellsOfInt] at h0 h1 h2 h3
      obtain ⟨a, e0, _⟩ := DataW.trod_int Tryz.underlying3 h0
      obtain ⟨b, e1, _⟩ := DataW.trod_int Tryz.underlying3 h1
      obtain ⟨c, e2, _⟩ := DataW.trod_int Tryz.underlying3 h2
      obtain ⟨d, e3, _⟩ := DataW.trod_int Tryz.underlying3 h3
      simp at e0 e1 e2 e3
      exact ⟨a, b, c, d, by rw [e0, e1, e2, e3]⟩
end
end Go.Proofs.YtfpmcmhihhnfgaaGreat
namespace Go.Proofs.YtfpmcmhihhnfgaaGreat
open Go.ChangeShapes Go.WideShapes Go.ChangeAt Go.RowKit
set_option maxRecDepth 100000

def pOf (a : Addr) : Option Loc := some (⟨a.block, a.spot⟩, a.off)
theorem cell_row {W : World} {a : Addr} {v : Value} (h : W.cell? a = some v) : a.spot = none ∧ ∃ C T fz, W.heap[a.block]? = some (.cells C T fz) ∧ C[a.off]? = some v := by
  unfold World.cell? at h
  split at h
  · rename_i C T fz hb
    split at h
    · cases h
    · rename_i hs
      exact ⟨by simpa using hs, C, T, fz, hb, h⟩
  · cases h
theorem unfz_of {W : World} {b i : Nat} {C : Array Value} {T : Nat} {fz : Nat × Nat} (hb : W.heap[b]? = some (.cells C T fz)) (h : W.frozen? ⟨b, i, none⟩ = false) : unfz fz i := by
  obtain ⟨lo, hi⟩ := fz
  simp only [World.frozen?, hb, Bool.and_eq_false_iff, decide_eq_false_iff_not] at h
  unfold unfz
  simp only
  omega
theorem rowAt_cells {W : World} {a : Addr} {n : Nat} {cs : List Value} (ha : a.spot = none) {k : Nat} (hn : 0 < n) (hz : ∀ j, j < n → W.frozen? ⟨a.block, a.off + (k + j), none⟩ = false) (h : W.cells? 0 (a.add k) n = some cs) : RowAt (hpOf W) (pOf a) ((k : Nat) : Int) cs := by
  obtain ⟨_, hl, hc⟩ := World.cells?_some h
  obtain ⟨b, o, s⟩ := a
  simp only at ha
  subst ha
  have h0 := hc 0 hn
  rw [add_at, add_at, List.getElem?_eq_getElem (by omega)] at h0
  obtain ⟨_, C, T, fz, hb, _⟩ := cell_row h0
  refine ⟨b, o, rfl, C, T, fz, hb, fun j hj => ⟨?_, unfz_of hb (by have := hz j (by omega); simp only [Int.toNat_natCast]; rw [Nat.add_assoc]; exact this)⟩⟩
  have hj' := hc j (by omega)
  rw [add_at, add_at, List.getElem?_eq_getElem hj] at hj'
  obtain ⟨_, C', T', fz', hb', h1⟩ := cell_row hj'
  simp only at hb hb' h1
  rw [hb] at hb'
  cases hb'
  rw [List.getElem?_eq_getElem hj, ← h1]
  rfl
section
variable {H : Type} {enc : TypeId × Value → H} {P : Program} {W : World} {fuel : Nat} {held : Bool} {cs : List Value} {x : DataW H × List MemPlace}
/-- a slice, read: rows in memory, each read too -/
theorem rd_slice {t e w : Nat} (ht : P.underlying t = some (.slice e)) (hw : P.cellsOf e = w) (h0 : 0 < w) (h : DataW.trod enc P W 0 (fun _ => true) held fuel t cs = some x) (hz : W.noneFrozen x.2) :
    ∃ p n c rows, cs = [vsl p n c] ∧ n ≤ c ∧ c ≤ maxLen ∧ Rows (hpOf W) p n w rows ∧ ∀ r ∈ rows, ∃ m y, DataW.trod enc P W 0 (fun _ => true) held m e r = some y ∧ W.noneFrozen y.2 := by
  rcases Go.Deep.open_slice ht h with ⟨rfl, _⟩ | ⟨a, len, cap, m, n, D, Pl, rfl, _, hl, hc, hm, hxe, hx⟩
  · exact ⟨none, 0, 0, [], rfl, Nat.le_refl _, by simp [maxLen], Rows.nil _ _ _, fun r hr => by cases hr⟩
  simp only [if_true] at hm
  rw [hw] at hx hxe
  rw [hxe] at hz
  have hz1 : ∀ k, k < m * w → W.frozen? ⟨a.block, a.off + k, none⟩ = false := fun k hk => hz _ _ (List.mem_append_left _ (by unfold MemPlace.row; exact List.mem_map.2 ⟨k, List.mem_range.2 hk, rfl⟩))
  have hz2 : ∀ i, i < m → W.noneFrozen (Pl i) := fun i hi b off hb => hz b off (List.mem_append_right _ (List.mem_flatMap.2 ⟨i, List.mem_range.2 hi, hb⟩))
  have hx' : ∀ i, i < len → ∃ r : List Value, W.cells? 0 (a.add (i * w)) w = some r ∧ DataW.trod enc P W 0 (fun _ => true) held n e r = some (D i, Pl i) := fun i hi => hx i (by omega)
  obtain ⟨f, hf⟩ := Go.Deep.choose_lt hx'
  have hfl : ∀ i, i < len → (f i).length = w := fun i hi => (World.cells?_some (hf i hi).1).2.1
  refine ⟨pOf a, len, cap, (List.range len).map f, rfl, hl, hc, ⟨by simp, fun r hr => ?_, fun i r hr => ?_⟩, fun r hr => ?_⟩
  · obtain ⟨i, hi, rfl⟩ := List.mem_map.1 hr
    exact hfl i (List.mem_range.1 hi)
  · obtain ⟨hi, rfl⟩ := List.getElem?_eq_some_iff.1 hr
    simp only [List.length_map, List.length_range] at hi
    simp only [List.getElem_map, List.getElem_range]
    have ha : a.spot = none := by
      have h1 := (hf 0 (by omega)).1
      obtain ⟨_, hl1, hc1⟩ := World.cells?_some h1
      have h2 := hc1 0 h0
      rw [List.getElem?_eq_getElem (by omega), add2] at h2
      simp only [Nat.zero_mul, Nat.zero_add, add0] at h2
      exact (cell_row h2).1
    refine rowAt_cells ha h0 (fun j hj => hz1 (i * w + j) ?_) (hf i hi).1
    calc i * w + j < i * w + w := by omega
      _ = (i + 1) * w := (Nat.succ_mul i w).symm
      _ ≤ m * w := Nat.mul_le_mul_right _ (by omega)
  · obtain ⟨i, hi, rfl⟩ := List.mem_map.1 hr
    exact ⟨n, _, (hf i (List.mem_range.1 hi)).2, hz2 i (by have := List.mem_range.1 hi; omega)⟩
end
theorem sub_free {H : Type} {W : World} {d : DataW H} {xs : List (DataW H × List MemPlace)} {x y : DataW H × List MemPlace} (hx : x = (d, xs.flatMap (·.2))) (h : W.noneFrozen x.2) (hy : y ∈ xs) : W.noneFrozen y.2 := fun b off hb => h b off (by rw [hx]; exact List.mem_flatMap.2 ⟨y, hy, hb⟩)
theorem cellsOfReply : Tryz.prog.cellsOf 77 = 2 := by kernel_rfl
theorem cellsOfSession : Tryz.prog.cellsOf 75 = 4 := by kernel_rfl
theorem cellsOfReplies : Tryz.prog.cellsOf 73 = 1 := by kernel_rfl
/-- a list, each by what it says -/
theorem all2_of {α β : Type} {R : α → β → Prop} : ∀ {l : List α}, (∀ a ∈ l, ∃ b, R a b) → ∃ m, All2 R l m
  | [], _ => ⟨[], .nil⟩
  | a :: l, h => by
    obtain ⟨b, hb⟩ := h a (List.mem_cons_self ..)
    obtain ⟨m, hm⟩ := all2_of (l := l) fun x hx => h x (List.mem_cons_of_mem _ hx)
    exact ⟨b :: m, .cons _ _ _ _ hb hm⟩
section
variable {H : Type} {enc : TypeId × Value → H} {W : World} {fuel : Nat} {held : Bool} {cs : List Value} {x : DataW H × List MemPlace}
theorem rd_int (h : DataW.trod enc Tryz.prog W 0 (fun _ => true) held fuel 3 cs = some x) : ∃ a : Int, cs = [vi a] ∧ -9223372036854775808 ≤ a ∧ a ≤ 9223372036854775807 := by
  obtain ⟨a, e0, _, hw⟩ := DataW.trod_int Tryz.underlying3 h
  refine ⟨a, e0, ?_⟩
  simp [Lit.wf] at hw
  exact ⟨hw.1, hw.2⟩
theorem rd_reply (h : DataW.trod enc Tryz.prog W 0 (fun _ => true) held fuel 77 cs = some x) : ∃ r : Rep, cs = r.row := by
  obtain ⟨xs, m, _, _, hl, hn, hf⟩ := DataW.trod_struct Tryz.underlying77 h
  rw [cellsOfReply] at hl
  match cs, hl with
  | [c0, c1], _ =>
    match xs, hn with
    | [y0, y1], _ =>
      have h0 : DataW.trod enc Tryz.prog W 0 (fun _ => true) held m 3 (([c0, c1].drop 0).take (Tryz.prog.cellsOf 3)) = some y0 := hf 0 _ rfl
      have h1 : DataW.trod enc Tryz.prog W 0 (fun _ => true) held m 3 (([c0, c1].drop 1).take (Tryz.prog.cellsOf 3)) = some y1 := hf 1 _ rfl
      rw [cellsOfInt] at h0 h1
      obtain ⟨a, e0, _⟩ := rd_int h0
      obtain ⟨b, e1, _⟩ := rd_int h1
      simp at e0 e1
      exact ⟨⟨a, b⟩, by rw [e0, e1]; rfl⟩
theorem rd_kept (h : DataW.trod enc Tryz.prog W 0 (fun _ => true) held fuel 73 cs = some x) (hz : W.noneFrozen x.2) : ∃ p n c l, cs = [vsl p n c] ∧ Kept (hpOf W) p n c l := by
  obtain ⟨p, n, c, rows, rfl, h1, h2, hr, ht⟩ := rd_slice Tryz.underlying73 cellsOfReply (by omega) h hz
  have : ∃ l : List Rep, rows = l.map Rep.row := by
    clear hr h
    induction rows with
    | nil => exact ⟨[], rfl⟩
    | cons r t ih =>
      obtain ⟨l, rfl⟩ := ih fun r hr => ht r (List.mem_cons_of_mem _ hr)
      obtain ⟨m, y, hy, _⟩ := ht r (List.mem_cons_self ..)
      obtain ⟨a, rfl⟩ := rd_reply hy
      exact ⟨a :: l, rfl⟩
  obtain ⟨l, rfl⟩ := this
  exact ⟨p, n, c, l, rfl, h1, h2, hr⟩
theorem rd_ses (h : DataW.trod enc Tryz.prog W 0 (fun _ => true) held fuel 75 cs = some x) (hz : W.noneFrozen x.2) : ∃ s : Ses, SesRow (hpOf W) cs s := by
  obtain ⟨xs, m, _, hxe, hl, hn, hf⟩ := DataW.trod_struct Tryz.underlying75 h
  rw [cellsOfSession] at hl
  match cs, hl with
  | [c0, c1, c2, c3], _ =>
    match xs, hn with
    | [y0, y1, y2, y3], _ =>
      have h0 : DataW.trod enc Tryz.prog W 0 (fun _ => true) held m 3 (([c0, c1, c2, c3].drop 0).take (Tryz.prog.cellsOf 3)) = some y0 := hf 0 _ rfl
      have h1 : DataW.trod enc Tryz.prog W 0 (fun _ => true) held m 3 (([c0, c1, c2, c3].drop 1).take (Tryz.prog.cellsOf 3)) = some y1 := hf 1 _ rfl
      have h2 : DataW.trod enc Tryz.prog W 0 (fun _ => true) held m 3 (([c0, c1, c2, c3].drop 2).take (Tryz.prog.cellsOf 3)) = some y2 := hf 2 _ rfl
      have h3 : DataW.trod enc Tryz.prog W 0 (fun _ => true) held m 73 (([c0, c1, c2, c3].drop 3).take (Tryz.prog.cellsOf 73)) = some y3 := hf 3 _ rfl
      rw [cellsOfInt] at h0 h1 h2
      rw [cellsOfReplies] at h3
      obtain ⟨a, e0, _⟩ := rd_int h0
      obtain ⟨b, e1, _⟩ := rd_int h1
      obtain ⟨c, e2, _⟩ := rd_int h2
      obtain ⟨p, n, d, l, e3, hk⟩ := rd_kept h3 (sub_free hxe hz (by simp))
      simp at e0 e1 e2 e3
      exact ⟨⟨a, b, c, l⟩, p, n, d, by rw [e0, e1, e2, e3], hk⟩
theorem rd_tab (h : DataW.trod enc Tryz.prog W 0 (fun _ => true) held fuel 23 cs = some x) (hz : W.noneFrozen x.2) : ∃ p n c l, cs = [vsl p n c] ∧ Tab (hpOf W) p n c l := by
  obtain ⟨p, n, c, rows, rfl, h1, h2, hr, ht⟩ := rd_slice Tryz.underlying23 cellsOfSession (by omega) h hz
  obtain ⟨l, hl⟩ := all2_of (R := SesRow (hpOf W)) (l := rows) fun r hr => by
    obtain ⟨m, y, hy, hy2⟩ := ht r hr
    exact rd_ses hy hy2
  exact ⟨p, n, c, l, rfl, h1, h2, rows, hr, hl⟩
end
end Go.Proofs.YtfpmcmhihhnfgaaGreat
