import PyProof.Rows.All
import Wide.All
import OpenK.AllK
import Wide.FinOn
import HandS.ForMost
import HandS.Evl
import HandS.IsInst
import PySem.Challenge.RW_gossipcount_k02_shares_beside
set_option Elab.async false
set_option linter.all false
set_option maxRecDepth 100000
set_option maxHeartbeats 4000000
namespace Gc
open PySem L2 Evl
/-! ### heaps that grow; small words -/
theorem tup_new {H : Hp} {xs : List V} {Q : VK} (h : ∀ p H', H p = none → Ex H H' → H' p = some (.tup xs) → Q (.ref p) H') : ∀ p, H p = none → Q (.ref p) (upd H p (.tup xs)) := fun p hp => h p _ hp (Ex.new hp) upd_same
theorem lst_new {H : Hp} {xs : List V} {Q : VK} (h : ∀ p H', H p = none → Ex H H' → H' p = some (.lst xs) → Q (.ref p) H') : ∀ p, H p = none → Q (.ref p) (upd H p (.lst xs)) := fun p hp => h p _ hp (Ex.new hp) upd_same
theorem dct_new {H : Hp} {xs : List (Key × V)} {Q : VK} (h : ∀ p H', H p = none → Ex H H' → H' p = some (.dK xs) → Q (.ref p) H') : ∀ p, H p = none → Q (.ref p) (upd H p (.dK xs)) := fun p hp => h p _ hp (Ex.new hp) upd_same
theorem ex_at {H H' : Hp} {a : Addr} {o : HO} (e : Ex H H') (h : H a = some o) : H' a = some o := e a o h
theorem ex_same {H H' : Hp} (e : Ex H H') : Same H H' := e
theorem bne_self {b : Bool} : (!b) = (if b = true then false else true) := by cases b <;> rfl
theorem sz (n : Nat) (h : Nat.ble n 100000 = true := by rfl) : n ≤ sizeLine := sz_of (Nat.le_of_ble_eq_true h)
/-- a share at t: the pair (a, b) -/
abbrev ShAt (K : PySem.W.Frag) (H : Hp) (t : Addr) (a b : Int) : Prop := SqT K H t [.int a, .int b]
theorem tyx_t {K : PySem.W.Frag} {H : Hp} {a : Addr} {xs : List V} (h : SqT K H a xs) : TyX K H (.ref a) (.type "tuple") := by
  rcases h with (h | ⟨o, h⟩) | ⟨o, its, n, hk, hc, _⟩
  · exact .base (.tup h)
  · exact .fTuple h
  · exact .kTuple hk hc
theorem tyx_l {K : PySem.W.Frag} {H : Hp} {a : Addr} {xs : List V} (h : SqL K H a xs) : TyX K H (.ref a) (.type "list") := by
  rcases h with (h | ⟨o, h⟩) | ⟨o, its, n, hk, hc, _⟩
  · exact .base (.lst h)
  · exact .base (.frz h)
  · exact .kList hk hc
theorem tyx_d {K : PySem.W.Frag} {H : Hp} {a : Addr} {kvs : List (Key × V)} (h : Rd H a (.dK kvs)) : TyX K H (.ref a) (.type "dict") := by
  rcases h with h | ⟨o, h⟩
  · exact .base (.dK h)
  · exact .fDict h
theorem ab_ex {H H1 : Hp} {p : Addr} {o : HO} (hp : H p = none) (h : upd H p o = H1) : Ex H H1 := h ▸ Ex.new hp
theorem ab_at {H H1 : Hp} {p : Addr} {o : HO} (h : upd H p o = H1) : H1 p = some o := h ▸ upd_same
theorem pos60 : (0 : Int) < 10 ^ (60 : Int).toNat := by decide
theorem ite_refl {x : V} {A B : Prop} (h : A) : if decide (x = x) = true then A else B := by
  rw [if_pos (decide_eq_true rfl)]; exact h
theorem ite_nrefl {x : V} {A B : Prop} (h : B) : if (!decide (x = x)) = true then A else B := by
  rw [decide_eq_true (rfl : x = x)]; exact iteF h
theorem ite_pos {c : Bool} {A B : Prop} (hc : c = true) (h : A) : if c = true then A else B := by
  rw [if_pos hc]; exact h
theorem ite_neg {c : Bool} {A B : Prop} (hc : c = false) (h : B) : if c = true then A else B := by
  rw [hc]; exact iteF h
theorem lt_t {i j : Int} {A B : Prop} (hc : i < j) (h : A) : if decide (i < j) = true then A else B := ite_pos (decide_eq_true hc) h
theorem lt_f {i j : Int} {A B : Prop} (hc : ¬ i < j) (h : B) : if decide (i < j) = true then A else B := ite_neg (decide_eq_false hc) h
theorem le_t {i j : Int} {A B : Prop} (hc : i ≤ j) (h : A) : if decide (i ≤ j) = true then A else B := ite_pos (decide_eq_true hc) h
theorem le_f {i j : Int} {A B : Prop} (hc : ¬ i ≤ j) (h : B) : if decide (i ≤ j) = true then A else B := ite_neg (decide_eq_false hc) h
theorem eqI_t {i j : Int} {A B : Prop} (hc : i = j) (h : A) : if decide (V.int i = V.int j) = true then A else B := ite_pos (decide_eq_true (by rw [hc])) h
theorem eqI_f {i j : Int} {A B : Prop} (hc : ¬ i = j) (h : B) : if decide (V.int i = V.int j) = true then A else B := ite_neg (decide_eq_false (fun e => hc (V.int.inj e))) h
theorem neI_t {i j : Int} {A B : Prop} (hc : ¬ i = j) (h : A) : if (!decide (V.int i = V.int j)) = true then A else B := ite_pos (by rw [decide_eq_false (fun e => hc (V.int.inj e))]; rfl) h
theorem neI_f {i j : Int} {A B : Prop} (hc : i = j) (h : B) : if (!decide (V.int i = V.int j)) = true then A else B := ite_neg (by rw [decide_eq_true (by rw [hc])]; rfl) h
theorem iteN_t {c : Bool} {A B : Prop} (hc : c = false) (h : A) : if (!c) = true then A else B := ite_pos (by rw [hc]; rfl) h
theorem iteN_f {c : Bool} {A B : Prop} (hc : c = true) (h : B) : if (!c) = true then A else B := ite_neg (by rw [hc]; rfl) h
/-- a and b, b without a new thing -/
theorem and_ev {te : TE} {σ : L2.St} {H : Hp} {Q : VK} {b1 : Bool} (b2 : Bool) (hv : b1 = true → ∀ Q' : VK, Q' (.bl b2) H → te σ H Q') (h : Q (.bl (b1 && b2)) H) : if b1 = true then te σ H Q else Q (.bl false) H := by
  cases b1 with
  | true => exact iteT (hv rfl Q h)
  | false => exact iteF h
theorem or_ev {te : TE} {σ : L2.St} {H : Hp} {Q : VK} {b1 : Bool} (b2 : Bool) (hv : b1 = false → ∀ Q' : VK, Q' (.bl b2) H → te σ H Q') (h : Q (.bl (b1 || b2)) H) : if b1 = true then Q (.bl true) H else te σ H Q := by
  cases b1 with
  | true => exact iteT h
  | false => exact iteF (hv rfl Q h)
theorem bl_eq {H : Hp} {Q : VK} {b c : Bool} (e : b = c) (h : Q (.bl c) H) : Q (.bl b) H := e ▸ h
theorem eqI_b {i j : Int} (h : i = j) : decide (V.int i = V.int j) = true := decide_eq_true (by rw [h])
/-- an open test on two whole numbers -/
theorem lt_2 {i j : Int} {A B : Prop} (h1 : i < j → A) (h2 : ¬ i < j → B) : if decide (i < j) = true then A else B := by
  by_cases hc : i < j
  · exact lt_t hc (h1 hc)
  · exact lt_f hc (h2 hc)
theorem le_2 {i j : Int} {A B : Prop} (h1 : i ≤ j → A) (h2 : ¬ i ≤ j → B) : if decide (i ≤ j) = true then A else B := by
  by_cases hc : i ≤ j
  · exact le_t hc (h1 hc)
  · exact le_f hc (h2 hc)
theorem eqI_2 {i j : Int} {A B : Prop} (h1 : i = j → A) (h2 : ¬ i = j → B) : if decide (V.int i = V.int j) = true then A else B := by
  by_cases hc : i = j
  · exact eqI_t hc (h1 hc)
  · exact eqI_f hc (h2 hc)
theorem neI_2 {i j : Int} {A B : Prop} (h1 : ¬ i = j → A) (h2 : i = j → B) : if (!decide (V.int i = V.int j)) = true then A else B := by
  by_cases hc : i = j
  · exact neI_f hc (h2 hc)
  · exact neI_t hc (h1 hc)
theorem kit_int_int {K : PySem.W.Frag} : PySem.W.kitOne K (.type "int") (.type "int") = some true := kit_ty (by decide +kernel)
theorem kit_int_bool {K : PySem.W.Frag} : PySem.W.kitOne K (.type "int") (.type "bool") = some false := kit_ty (by decide +kernel)
theorem kit_int_str {K : PySem.W.Frag} : PySem.W.kitOne K (.type "int") (.type "str") = some false := kit_ty (by decide +kernel)
theorem kit_int_tuple {K : PySem.W.Frag} : PySem.W.kitOne K (.type "int") (.type "tuple") = some false := kit_ty (by decide +kernel)
theorem kit_int_dict {K : PySem.W.Frag} : PySem.W.kitOne K (.type "int") (.type "dict") = some false := kit_ty (by decide +kernel)
theorem kit_int_list {K : PySem.W.Frag} : PySem.W.kitOne K (.type "int") (.type "list") = some false := kit_ty (by decide +kernel)
theorem kit_bool_int {K : PySem.W.Frag} : PySem.W.kitOne K (.type "bool") (.type "int") = some true := kit_ty (by decide +kernel)
theorem kit_bool_bool {K : PySem.W.Frag} : PySem.W.kitOne K (.type "bool") (.type "bool") = some true := kit_ty (by decide +kernel)
theorem kit_bool_str {K : PySem.W.Frag} : PySem.W.kitOne K (.type "bool") (.type "str") = some false := kit_ty (by decide +kernel)
theorem kit_bool_tuple {K : PySem.W.Frag} : PySem.W.kitOne K (.type "bool") (.type "tuple") = some false := kit_ty (by decide +kernel)
theorem kit_bool_dict {K : PySem.W.Frag} : PySem.W.kitOne K (.type "bool") (.type "dict") = some false := kit_ty (by decide +kernel)
theorem kit_bool_list {K : PySem.W.Frag} : PySem.W.kitOne K (.type "bool") (.type "list") = some false := kit_ty (by decide +kernel)
theorem kit_str_int {K : PySem.W.Frag} : PySem.W.kitOne K (.type "str") (.type "int") = some false := kit_ty (by decide +kernel)
theorem kit_str_bool {K : PySem.W.Frag} : PySem.W.kitOne K (.type "str") (.type "bool") = some false := kit_ty (by decide +kernel)
theorem kit_str_str {K : PySem.W.Frag} : PySem.W.kitOne K (.type "str") (.type "str") = some true := kit_ty (by decide +kernel)
theorem kit_str_tuple {K : PySem.W.Frag} : PySem.W.kitOne K (.type "str") (.type "tuple") = some false := kit_ty (by decide +kernel)
theorem kit_str_dict {K : PySem.W.Frag} : PySem.W.kitOne K (.type "str") (.type "dict") = some false := kit_ty (by decide +kernel)
theorem kit_str_list {K : PySem.W.Frag} : PySem.W.kitOne K (.type "str") (.type "list") = some false := kit_ty (by decide +kernel)
theorem kit_NoneType_int {K : PySem.W.Frag} : PySem.W.kitOne K (.type "NoneType") (.type "int") = some false := kit_ty (by decide +kernel)
theorem kit_NoneType_bool {K : PySem.W.Frag} : PySem.W.kitOne K (.type "NoneType") (.type "bool") = some false := kit_ty (by decide +kernel)
theorem kit_NoneType_str {K : PySem.W.Frag} : PySem.W.kitOne K (.type "NoneType") (.type "str") = some false := kit_ty (by decide +kernel)
theorem kit_NoneType_tuple {K : PySem.W.Frag} : PySem.W.kitOne K (.type "NoneType") (.type "tuple") = some false := kit_ty (by decide +kernel)
theorem kit_NoneType_dict {K : PySem.W.Frag} : PySem.W.kitOne K (.type "NoneType") (.type "dict") = some false := kit_ty (by decide +kernel)
theorem kit_NoneType_list {K : PySem.W.Frag} : PySem.W.kitOne K (.type "NoneType") (.type "list") = some false := kit_ty (by decide +kernel)
theorem kit_tuple_int {K : PySem.W.Frag} : PySem.W.kitOne K (.type "tuple") (.type "int") = some false := kit_ty (by decide +kernel)
theorem kit_tuple_bool {K : PySem.W.Frag} : PySem.W.kitOne K (.type "tuple") (.type "bool") = some false := kit_ty (by decide +kernel)
theorem kit_tuple_str {K : PySem.W.Frag} : PySem.W.kitOne K (.type "tuple") (.type "str") = some false := kit_ty (by decide +kernel)
theorem kit_tuple_tuple {K : PySem.W.Frag} : PySem.W.kitOne K (.type "tuple") (.type "tuple") = some true := kit_ty (by decide +kernel)
theorem kit_tuple_dict {K : PySem.W.Frag} : PySem.W.kitOne K (.type "tuple") (.type "dict") = some false := kit_ty (by decide +kernel)
theorem kit_tuple_list {K : PySem.W.Frag} : PySem.W.kitOne K (.type "tuple") (.type "list") = some false := kit_ty (by decide +kernel)
theorem kit_list_int {K : PySem.W.Frag} : PySem.W.kitOne K (.type "list") (.type "int") = some false := kit_ty (by decide +kernel)
theorem kit_list_bool {K : PySem.W.Frag} : PySem.W.kitOne K (.type "list") (.type "bool") = some false := kit_ty (by decide +kernel)
theorem kit_list_str {K : PySem.W.Frag} : PySem.W.kitOne K (.type "list") (.type "str") = some false := kit_ty (by decide +kernel)
theorem kit_list_tuple {K : PySem.W.Frag} : PySem.W.kitOne K (.type "list") (.type "tuple") = some false := kit_ty (by decide +kernel)
theorem kit_list_dict {K : PySem.W.Frag} : PySem.W.kitOne K (.type "list") (.type "dict") = some false := kit_ty (by decide +kernel)
theorem kit_list_list {K : PySem.W.Frag} : PySem.W.kitOne K (.type "list") (.type "list") = some true := kit_ty (by decide +kernel)
theorem kit_dict_int {K : PySem.W.Frag} : PySem.W.kitOne K (.type "dict") (.type "int") = some false := kit_ty (by decide +kernel)
theorem kit_dict_bool {K : PySem.W.Frag} : PySem.W.kitOne K (.type "dict") (.type "bool") = some false := kit_ty (by decide +kernel)
theorem kit_dict_str {K : PySem.W.Frag} : PySem.W.kitOne K (.type "dict") (.type "str") = some false := kit_ty (by decide +kernel)
theorem kit_dict_tuple {K : PySem.W.Frag} : PySem.W.kitOne K (.type "dict") (.type "tuple") = some false := kit_ty (by decide +kernel)
theorem kit_dict_dict {K : PySem.W.Frag} : PySem.W.kitOne K (.type "dict") (.type "dict") = some true := kit_ty (by decide +kernel)
theorem kit_dict_list {K : PySem.W.Frag} : PySem.W.kitOne K (.type "dict") (.type "list") = some false := kit_ty (by decide +kernel)
end Gc
/- what is known of an earlier heap, at a later one -/
local macro_rules | `(tactic| walk_at "gc_ex") => `(tactic| first
  | assumption
  | exact Evl.Ex.refl _
  | (refine Evl.Ex.trans ?_ (by assumption); walk_at "gc_ex"))
local macro_rules | `(tactic| walk_at "gc_at") => `(tactic| first
  | assumption
  | exact Evl.st_of (by assumption)
  | exact Evl.sq_of (by assumption)
  | exact L2.Rd.of (by assumption)
  | (refine Evl.ex_t (by assumption) ?_; walk_at "gc_at")
  | (refine Evl.ex_l (by assumption) ?_; walk_at "gc_at")
  | (refine Evl.ex_rd (by assumption) ?_; walk_at "gc_at")
  | (refine Gc.ex_at (by assumption) ?_; walk_at "gc_at"))
local macro_rules | `(tactic| walk_at "gc_ty") => `(tactic| first
  | exact L2.TyX.base (L2.TyOf.int _)
  | exact L2.TyX.base (L2.TyOf.bl _)
  | exact L2.TyX.base (L2.TyOf.str _)
  | exact L2.TyX.base L2.TyOf.non
  | assumption
  | (refine' Gc.tyx_t ?h; (case h => walk_at "gc_at"))
  | (refine' Gc.tyx_l ?h; (case h => walk_at "gc_at"))
  | (refine' Gc.tyx_d ?h; (case h => walk_at "gc_at")))
local macro_rules | `(tactic| walk_at "gc_kit") => `(tactic| first
  | exact Gc.kit_int_int
  | exact Gc.kit_int_bool
  | exact Gc.kit_int_str
  | exact Gc.kit_int_tuple
  | exact Gc.kit_int_dict
  | exact Gc.kit_int_list
  | exact Gc.kit_bool_int
  | exact Gc.kit_bool_bool
  | exact Gc.kit_bool_str
  | exact Gc.kit_bool_tuple
  | exact Gc.kit_bool_dict
  | exact Gc.kit_bool_list
  | exact Gc.kit_str_int
  | exact Gc.kit_str_bool
  | exact Gc.kit_str_str
  | exact Gc.kit_str_tuple
  | exact Gc.kit_str_dict
  | exact Gc.kit_str_list
  | exact Gc.kit_NoneType_int
  | exact Gc.kit_NoneType_bool
  | exact Gc.kit_NoneType_str
  | exact Gc.kit_NoneType_tuple
  | exact Gc.kit_NoneType_dict
  | exact Gc.kit_NoneType_list
  | exact Gc.kit_tuple_int
  | exact Gc.kit_tuple_bool
  | exact Gc.kit_tuple_str
  | exact Gc.kit_tuple_tuple
  | exact Gc.kit_tuple_dict
  | exact Gc.kit_tuple_list
  | exact Gc.kit_list_int
  | exact Gc.kit_list_bool
  | exact Gc.kit_list_str
  | exact Gc.kit_list_tuple
  | exact Gc.kit_list_dict
  | exact Gc.kit_list_list
  | exact Gc.kit_dict_int
  | exact Gc.kit_dict_bool
  | exact Gc.kit_dict_str
  | exact Gc.kit_dict_tuple
  | exact Gc.kit_dict_dict
  | exact Gc.kit_dict_list)
/- the answers that need no thought -/
local macro_rules | `(tactic| walk_at "gc_sd") => `(tactic| first
  | rfl
  | walk_at "gc_at"
  | exact L2.ClsV.ty _
  | walk_at "gc_ty"
  | walk_at "gc_kit"
  | exact Gc.sz _
  | exact Gc.pos60
  | exact ⟨by decide, by decide⟩
  | exact Or.inl (by walk_at "gc_at")
  | exact Or.inr (by walk_at "gc_at")
  | exact Or.inr ⟨by decide, by decide⟩
  | exact Or.inl ⟨by decide, by decide⟩
  | exact Or.inr ⟨by omega, by omega⟩
  | exact Or.inl ⟨by omega, by omega⟩
  | exact ⟨by decide, by decide, by decide⟩
  | decide
  | omega)
local macro_rules | `(tactic| walk_at "gc_e") => `(tactic| (apply Exists.intro; first | refine And.intro rfl ?_ | walk_at "gc_e"))
/- one step of a reading -/
local macro_rules | `(tactic| walk_at "gc_1") => `(tactic| first
  | (refine And.intro rfl ?_)
  | walk_at "gc_e"
  | (refine L2.iteT ?_)
  | (refine L2.iteF ?_)
  | (refine Gc.ite_refl ?_)
  | (refine Gc.ite_nrefl ?_)
  | (intro p hp; generalize hX : L2.upd _ p _ = H1; have e1 := Gc.ab_ex hp hX; have f1 := Gc.ab_at hX; clear hX)
  | (refine' And.intro ?s ?_; (case s => walk_at "gc_sd"))
  | intro _)
local macro_rules | `(tactic| walk_at "gc") => `(tactic| repeat walk_at "gc_1")

namespace Gc
open PySem L2 Evl
/-! ### the laws' numbers -/
/-- the greater one, as the program's max takes it -/
def gmax (i j : Int) : Int := if j > i then j else i
/-- the lesser one, as the program's min takes it -/
def gmin (i j : Int) : Int := if j < i then j else i
theorem gmax_comm (i j : Int) : gmax i j = gmax j i := by unfold gmax; split <;> split <;> omega
theorem gmax_back (i j : Int) : gmax (gmax i j) i = gmax i j := by unfold gmax; split <;> split <;> omega
theorem gmax_in (i j : Int) : gmax i (gmax j i) = gmax j i := by unfold gmax; split <;> split <;> omega
/-- whether (a, b) reaches (c, d) -/
def reachB (a b c d : Int) : Bool := decide (c ≤ a) && decide (d ≤ b)
theorem reachB_self (a b : Int) : reachB a b a b = true := by unfold reachB; simp
/-- a cell of the script, 0 behind its end -/
def cellI (ns : List Int) (k : Int) : Int := ns.getD k.toNat 0
/-- a def of whole numbers that makes nothing -/
def sp_i1 (f : Int → Int) : Sp := fun vs H Q _ => ∃ c : Int, vs = [.int c] ∧ Q (.int (f c)) H
def sp_i2 (f : Int → Int → Int) : Sp := fun vs H Q _ => ∃ c e : Int, vs = [.int c, .int e] ∧ Q (.int (f c e)) H
def numberBy (c : Int) : Int :=
  if c % 5 < 2 then c / 5 % 3 * (c % 5) else if c % 5 = 2 then c / 5 % 1000 else if c % 5 = 3 then c / 5 % 10 ^ 60 else 10 ^ 60 - 1 - c / 5 % 1000
/-- what a law promises: True -/
def sp_law (K : PySem.W.Frag) : Sp := fun vs H Q _ => ∃ (a : Addr) (ns : List Int), vs = [.ref a] ∧ SqL K H a (ns.map V.int) ∧ ns.length ≤ 63 ∧ ∀ H', Q (.bl true) H'
end Gc

namespace Gc
open PySem L2 Evl
def top (i : Nat) : Stmt := PySem.Challenge.pw_gossipcount_k02_shares_beside.main.body.getD i (.Pass ⟨0, 0, 0, 0⟩)
abbrev s_l_number_by : Stmt := top 6
abbrev s_l_cell_at : Stmt := top 4
abbrev s_net : Stmt := top 2
abbrev s_l_truth : Stmt := top 7
abbrev s_l_whole : Stmt := top 5
abbrev s_reaches : Stmt := top 1
abbrev s_law_k02 : Stmt := top 8
theorem sc_l_number_by : FnScope ["_law_cell", "_law_kind"] ["_law_cell"] (defScope s_l_number_by) := ⟨rfl, rfl, rfl, by decide +kernel, rfl, by decide +kernel, by decide +kernel⟩
theorem sc_l_cell_at : FnScope ["_law_script", "_law_k"] ["_law_script", "_law_k"] (defScope s_l_cell_at) := ⟨rfl, rfl, rfl, by decide +kernel, rfl, by decide +kernel, by decide +kernel⟩
theorem sc_net : FnScope ["share"] ["share"] (defScope s_net) := ⟨rfl, rfl, rfl, by decide +kernel, rfl, by decide +kernel, by decide +kernel⟩
theorem sc_l_truth : FnScope ["_law_found", "_law_due"] ["_law_found", "_law_due"] (defScope s_l_truth) := ⟨rfl, rfl, rfl, by decide +kernel, rfl, by decide +kernel, by decide +kernel⟩
theorem sc_l_whole : FnScope ["_law_found"] ["_law_found"] (defScope s_l_whole) := ⟨rfl, rfl, rfl, by decide +kernel, rfl, by decide +kernel, by decide +kernel⟩
theorem sc_reaches : FnScope ["one", "other"] ["one", "other"] (defScope s_reaches) := ⟨rfl, rfl, rfl, by decide +kernel, rfl, by decide +kernel, by decide +kernel⟩
theorem sc_law_k02 : FnScope ["_law_script", "_law_a", "_law_b", "_law_c", "_law_d", "_law_kind", "_law_one", "_law_other"] ["_law_script"] (defScope s_law_k02) := ⟨rfl, rfl, rfl, by decide +kernel, rfl, by decide +kernel, by decide +kernel⟩
structure Tx (K : PySem.W.Frag) (mg : Str → Option Value) where
  f_l_number_by : Addr
  fd_l_number_by : FuncData
  f_l_cell_at : Addr
  fd_l_cell_at : FuncData
  f_net : Addr
  fd_net : FuncData
  f_l_truth : Addr
  fd_l_truth : FuncData
  f_l_whole : Addr
  fd_l_whole : FuncData
  f_reaches : Addr
  fd_reaches : FuncData
  f_law_k02 : Addr
  fd_law_k02 : FuncData
  F_l_number_by : Fun K "_law_number_by" "_law_number_by" s_l_number_by f_l_number_by fd_l_number_by
  b_l_number_by : Binds K fd_l_number_by ["_law_cell"] []
  m_l_number_by : mg "_law_number_by" = some (.ref f_l_number_by)
  F_l_cell_at : Fun K "_law_cell_at" "_law_cell_at" s_l_cell_at f_l_cell_at fd_l_cell_at
  b_l_cell_at : Binds K fd_l_cell_at ["_law_script", "_law_k"] []
  m_l_cell_at : mg "_law_cell_at" = some (.ref f_l_cell_at)
  F_net : Fun K "net" "net" s_net f_net fd_net
  b_net : Binds K fd_net ["share"] []
  m_net : mg "net" = some (.ref f_net)
  F_l_truth : Fun K "_law_truth" "_law_truth" s_l_truth f_l_truth fd_l_truth
  b_l_truth : Binds K fd_l_truth ["_law_found", "_law_due"] []
  m_l_truth : mg "_law_truth" = some (.ref f_l_truth)
  F_l_whole : Fun K "_law_whole" "_law_whole" s_l_whole f_l_whole fd_l_whole
  b_l_whole : Binds K fd_l_whole ["_law_found"] []
  m_l_whole : mg "_law_whole" = some (.ref f_l_whole)
  F_reaches : Fun K "reaches" "reaches" s_reaches f_reaches fd_reaches
  b_reaches : Binds K fd_reaches ["one", "other"] []
  m_reaches : mg "reaches" = some (.ref f_reaches)
  F_law_k02 : Fun K "law" "law" s_law_k02 f_law_k02 fd_law_k02
  b_law_k02 : Binds K fd_law_k02 ["_law_script"] []
  m_law_k02 : mg "law" = some (.ref f_law_k02)
  n_bool : mg "bool" = none
  n_int : mg "int" = none
  n_isinstance : mg "isinstance" = none
  n_len : mg "len" = none
  n_max : mg "max" = none
  n_min : mg "min" = none
section
variable {P : Program} {w : World} {K : PySem.W.Frag} {mg : Str → Option Value} {base : Heap}
theorem ok_l_number_by (T : Tx K mg) : FnOk P w K mg base CX0 1 T.f_l_number_by T.fd_l_number_by ["_law_cell"] (sp_i1 numberBy) := by
  refine T.F_l_number_by.ok sc_l_number_by (fun vs H Q E h => ?_) (fun cdv A outer s H vs Q E hr h => ?_)
  · first | (obtain ⟨rfl, _⟩ := h; rfl) | (obtain ⟨_, rfl, _⟩ := h; rfl) | (obtain ⟨_, _, rfl, _⟩ := h; rfl) | (obtain ⟨_, _, _, rfl, _⟩ := h; rfl) | (obtain ⟨_, _, _, _, rfl, _⟩ := h; rfl) | (obtain ⟨_, _, _, _, _, rfl, _⟩ := h; rfl) | (obtain ⟨_, _, _, _, _, _, rfl, _⟩ := h; rfl) | (obtain ⟨_, _, _, _, _, _, _, rfl, _⟩ := h; rfl) | (obtain ⟨_, _, _, _, _, _, _, _, rfl, _⟩ := h; rfl)
  · obtain ⟨c, rfl, k⟩ := h
    refine ⟨_, (pss_cons (ps_set (i := 1) sc_l_number_by.nd rfl (Or.inl rfl) (pe_op op_mod (pv 0) pe_int)) (pss_cons (ps_if (pt_cmpR op_lt (pv 1) pe_int (nomark _)) (pss_one (ps_ret (pe_op op_mul (pe_op op_mod (pe_op op_fdiv (pv 0) pe_int) pe_int) (pv 1)))) pss_nil) (pss_cons (ps_if (pt_cmpR op_eq (pv 1) pe_int (nomark _)) (pss_one (ps_ret (pe_op op_mod (pe_op op_fdiv (pv 0) pe_int) pe_int))) pss_nil) (pss_cons (ps_if (pt_cmpR op_eq (pv 1) pe_int (nomark _)) (pss_one (ps_ret (pe_op op_mod (pe_op op_fdiv (pv 0) pe_int) (pe_op op_pow pe_int pe_int)))) pss_nil) (pss_one (ps_ret (pe_op op_sub (pe_op op_sub (pe_op op_pow pe_int pe_int) pe_int) (pe_op op_mod (pe_op op_fdiv (pv 0) pe_int) pe_int)))))))), ?_⟩
    walk_at "gc"
    refine Gc.lt_2 (fun h1 => ?_) (fun h1 => ?_)
    · walk_at "gc"
      have e : numberBy c = c / 5 % 3 * (c % 5) := if_pos h1
      rw [e] at k
      exact k
    walk_at "gc"
    refine Gc.eqI_2 (fun h2 => ?_) (fun h2 => ?_)
    · walk_at "gc"
      have e : numberBy c = c / 5 % 1000 := (if_neg h1).trans (if_pos h2)
      rw [e] at k
      exact k
    walk_at "gc"
    refine Gc.eqI_2 (fun h3 => ?_) (fun h3 => ?_)
    · walk_at "gc"
      have e : numberBy c = c / 5 % 10 ^ 60 := (if_neg h1).trans ((if_neg h2).trans (if_pos h3))
      rw [e] at k
      exact k
    walk_at "gc"
    have e : numberBy c = 10 ^ 60 - 1 - c / 5 % 1000 := (if_neg h1).trans ((if_neg h2).trans (if_neg h3))
    rw [e] at k
    exact k
/-- cell_at(script, k) -/
def sp_cell_at (K : PySem.W.Frag) : Sp := fun vs H Q _ => ∃ (a : Addr) (ns : List Int) (j : Int), vs = [.ref a, .int j] ∧ SqL K H a (ns.map V.int) ∧ 0 ≤ j ∧ Q (.int (cellI ns j)) H
theorem ok_l_cell_at (T : Tx K mg) : FnOk P w K mg base CX0 1 T.f_l_cell_at T.fd_l_cell_at ["_law_script", "_law_k"] (sp_cell_at K) := by
  refine T.F_l_cell_at.ok sc_l_cell_at (fun vs H Q E h => ?_) (fun cdv A outer s H vs Q E hr h => ?_)
  · first | (obtain ⟨rfl, _⟩ := h; rfl) | (obtain ⟨_, rfl, _⟩ := h; rfl) | (obtain ⟨_, _, rfl, _⟩ := h; rfl) | (obtain ⟨_, _, _, rfl, _⟩ := h; rfl) | (obtain ⟨_, _, _, _, rfl, _⟩ := h; rfl) | (obtain ⟨_, _, _, _, _, rfl, _⟩ := h; rfl) | (obtain ⟨_, _, _, _, _, _, rfl, _⟩ := h; rfl) | (obtain ⟨_, _, _, _, _, _, _, rfl, _⟩ := h; rfl) | (obtain ⟨_, _, _, _, _, _, _, _, rfl, _⟩ := h; rfl)
  · obtain ⟨a, ns, j, rfl, hs, h0, k⟩ := h
    refine ⟨_, (pss_cons (ps_if (pt_cmpR op_lt (pv 1) (pe_callB call_len_seq (by rfl) T.n_len PySem.boot_len (pa_cons (pv 0) pa_nil)) (nomark _)) (pss_one (ps_ret (pe_ix ix_list (pv 0) (pv 1) (fun _ _ => rfl)))) pss_nil) (pss_one (ps_ret pe_int))), ?_⟩
    walk_at "gc"
    rw [List.length_map]
    refine Gc.lt_2 (fun hc => ?_) (fun hc => ?_)
    · have hj : j.toNat < ns.length := by omega
      have ej : j = ((j.toNat : Nat) : Int) := by omega
      refine ⟨_, rfl, _, rfl, _, _, _, _, rfl, rfl, hs, (by rw [ej]; exact atI_nat (by rw [List.getElem?_map, List.getElem?_eq_getElem hj]; rfl)), ?_⟩
      have e : cellI ns j = ns[j.toNat] := by unfold cellI; simp [hj]
      rw [e] at k
      exact k
    · have hj : ns.length ≤ j.toNat := by omega
      have e : cellI ns j = 0 := by unfold cellI; simp [hj]
      rw [e] at k
      exact k
/-- net((a, b)) -/
def sp_net (K : PySem.W.Frag) : Sp := fun vs H Q _ => ∃ (t : Addr) (a b : Int), vs = [.ref t] ∧ ShAt K H t a b ∧ Q (.int (a - b)) H
theorem ok_net (T : Tx K mg) : FnOk P w K mg base CX0 1 T.f_net T.fd_net ["share"] (sp_net K) := by
  refine T.F_net.ok sc_net (fun vs H Q E h => ?_) (fun cdv A outer s H vs Q E hr h => ?_)
  · first | (obtain ⟨rfl, _⟩ := h; rfl) | (obtain ⟨_, rfl, _⟩ := h; rfl) | (obtain ⟨_, _, rfl, _⟩ := h; rfl) | (obtain ⟨_, _, _, rfl, _⟩ := h; rfl) | (obtain ⟨_, _, _, _, rfl, _⟩ := h; rfl) | (obtain ⟨_, _, _, _, _, rfl, _⟩ := h; rfl) | (obtain ⟨_, _, _, _, _, _, rfl, _⟩ := h; rfl) | (obtain ⟨_, _, _, _, _, _, _, rfl, _⟩ := h; rfl) | (obtain ⟨_, _, _, _, _, _, _, _, rfl, _⟩ := h; rfl)
  · obtain ⟨t, a, b, rfl, h1, k⟩ := h
    refine ⟨_, (pss_one (ps_ret (pe_op op_sub (pe_ix ix_tup (pv 0) pe_int (fun _ _ => rfl)) (pe_ix ix_tup (pv 0) pe_int (fun _ _ => rfl))))), ?_⟩
    walk_at "gc"
    exact k
/-- truth(b, b) -/
def sp_truth : Sp := fun vs H Q _ => ∃ b : Bool, vs = [.bl b, .bl b] ∧ Q (.bl true) H
theorem ok_l_truth (T : Tx K mg) : FnOk P w K mg base CX0 1 T.f_l_truth T.fd_l_truth ["_law_found", "_law_due"] (sp_truth) := by
  refine T.F_l_truth.ok sc_l_truth (fun vs H Q E h => ?_) (fun cdv A outer s H vs Q E hr h => ?_)
  · first | (obtain ⟨rfl, _⟩ := h; rfl) | (obtain ⟨_, rfl, _⟩ := h; rfl) | (obtain ⟨_, _, rfl, _⟩ := h; rfl) | (obtain ⟨_, _, _, rfl, _⟩ := h; rfl) | (obtain ⟨_, _, _, _, rfl, _⟩ := h; rfl) | (obtain ⟨_, _, _, _, _, rfl, _⟩ := h; rfl) | (obtain ⟨_, _, _, _, _, _, rfl, _⟩ := h; rfl) | (obtain ⟨_, _, _, _, _, _, _, rfl, _⟩ := h; rfl) | (obtain ⟨_, _, _, _, _, _, _, _, rfl, _⟩ := h; rfl)
  · obtain ⟨b, rfl, k⟩ := h
    refine ⟨_, (pss_one (ps_ret (pe_and (pe_callB call_isi (by rfl) T.n_isinstance PyProof.Rows.boot_isinstance (pa_cons (pv 0) (pa_cons (pe_bltn (v := .ty "bool") (by rfl) T.n_bool PyProof.Rows.boot_bool rfl) pa_nil))) (pe_one (pe_cmpR op_eq (pv 0) (pv 1) (nomark _)))))), ?_⟩
    walk_at "gc"
    exact Gc.bl_eq (decide_eq_true rfl) k
/-- whole(i), i a whole number -/
def sp_whole : Sp := fun vs H Q _ => ∃ i : Int, vs = [.int i] ∧ Q (.bl true) H
theorem ok_l_whole (T : Tx K mg) : FnOk P w K mg base CX0 1 T.f_l_whole T.fd_l_whole ["_law_found"] (sp_whole) := by
  refine T.F_l_whole.ok sc_l_whole (fun vs H Q E h => ?_) (fun cdv A outer s H vs Q E hr h => ?_)
  · first | (obtain ⟨rfl, _⟩ := h; rfl) | (obtain ⟨_, rfl, _⟩ := h; rfl) | (obtain ⟨_, _, rfl, _⟩ := h; rfl) | (obtain ⟨_, _, _, rfl, _⟩ := h; rfl) | (obtain ⟨_, _, _, _, rfl, _⟩ := h; rfl) | (obtain ⟨_, _, _, _, _, rfl, _⟩ := h; rfl) | (obtain ⟨_, _, _, _, _, _, rfl, _⟩ := h; rfl) | (obtain ⟨_, _, _, _, _, _, _, rfl, _⟩ := h; rfl) | (obtain ⟨_, _, _, _, _, _, _, _, rfl, _⟩ := h; rfl)
  · obtain ⟨i, rfl, k⟩ := h
    refine ⟨_, (pss_one (ps_ret (pe_and (pe_callB call_isi (by rfl) T.n_isinstance PyProof.Rows.boot_isinstance (pa_cons (pv 0) (pa_cons (pe_bltn (v := .ty "int") (by rfl) T.n_int PyProof.Rows.boot_int rfl) pa_nil))) (pe_one (pe_not (pe_callB call_isi (by rfl) T.n_isinstance PyProof.Rows.boot_isinstance (pa_cons (pv 0) (pa_cons (pe_bltn (v := .ty "bool") (by rfl) T.n_bool PyProof.Rows.boot_bool rfl) pa_nil)))))))), ?_⟩
    walk_at "gc"
    exact k
/-- reaches((a, b), (c, d)) -/
def sp_reaches (K : PySem.W.Frag) : Sp := fun vs H Q _ => ∃ (t u : Addr) (a b c d : Int), vs = [.ref t, .ref u] ∧ ShAt K H t a b ∧ ShAt K H u c d ∧ Q (.bl (reachB a b c d)) H
theorem ok_reaches (T : Tx K mg) : FnOk P w K mg base CX0 1 T.f_reaches T.fd_reaches ["one", "other"] (sp_reaches K) := by
  refine T.F_reaches.ok sc_reaches (fun vs H Q E h => ?_) (fun cdv A outer s H vs Q E hr h => ?_)
  · first | (obtain ⟨rfl, _⟩ := h; rfl) | (obtain ⟨_, rfl, _⟩ := h; rfl) | (obtain ⟨_, _, rfl, _⟩ := h; rfl) | (obtain ⟨_, _, _, rfl, _⟩ := h; rfl) | (obtain ⟨_, _, _, _, rfl, _⟩ := h; rfl) | (obtain ⟨_, _, _, _, _, rfl, _⟩ := h; rfl) | (obtain ⟨_, _, _, _, _, _, rfl, _⟩ := h; rfl) | (obtain ⟨_, _, _, _, _, _, _, rfl, _⟩ := h; rfl) | (obtain ⟨_, _, _, _, _, _, _, _, rfl, _⟩ := h; rfl)
  · obtain ⟨t, u, a, b, c, d, rfl, h1, h2, k⟩ := h
    refine ⟨_, (pss_one (ps_ret (pe_and (pe_cmpR op_ge (pe_ix ix_tup (pv 0) pe_int (fun _ _ => rfl)) (pe_ix ix_tup (pv 1) pe_int (fun _ _ => rfl)) (nomark _)) (pe_one (pe_cmpR op_ge (pe_ix ix_tup (pv 0) pe_int (fun _ _ => rfl)) (pe_ix ix_tup (pv 1) pe_int (fun _ _ => rfl)) (nomark _)))))), ?_⟩
    walk_at "gc"
    refine Gc.and_ev (decide (d ≤ b)) (fun _ Q' q => by walk_at "gc"; exact q) ?_
    exact k
theorem ok_law_k02 (T : Tx K mg) : FnOk P w K mg base CX0 2 T.f_law_k02 T.fd_law_k02 ["_law_script"] (sp_law K) := by
  refine T.F_law_k02.ok sc_law_k02 (fun vs H Q E h => ?_) (fun cdv A outer s H vs Q E hr h => ?_)
  · first | (obtain ⟨rfl, _⟩ := h; rfl) | (obtain ⟨_, rfl, _⟩ := h; rfl) | (obtain ⟨_, _, rfl, _⟩ := h; rfl) | (obtain ⟨_, _, _, rfl, _⟩ := h; rfl) | (obtain ⟨_, _, _, _, rfl, _⟩ := h; rfl) | (obtain ⟨_, _, _, _, _, rfl, _⟩ := h; rfl) | (obtain ⟨_, _, _, _, _, _, rfl, _⟩ := h; rfl) | (obtain ⟨_, _, _, _, _, _, _, rfl, _⟩ := h; rfl) | (obtain ⟨_, _, _, _, _, _, _, _, rfl, _⟩ := h; rfl)
  · obtain ⟨a, ns, rfl, hs, hl, k⟩ := h
    refine ⟨_, (pss_cons (ps_set (i := 1) sc_law_k02.nd rfl (Or.inl rfl) (pe_call (ok_l_number_by T) (hr.mono (by decide)) rfl T.m_l_number_by T.F_l_number_by.kp T.b_l_number_by .nil pass0 (pa_cons (pe_call (ok_l_cell_at T) (hr.mono (by decide)) rfl T.m_l_cell_at T.F_l_cell_at.kp T.b_l_cell_at .nil pass0 (pa_cons (pv 0) (pa_cons pe_int pa_nil))) pa_nil))) (pss_cons (ps_set (i := 2) sc_law_k02.nd rfl (Or.inl rfl) (pe_call (ok_l_number_by T) (hr.mono (by decide)) rfl T.m_l_number_by T.F_l_number_by.kp T.b_l_number_by .nil pass0 (pa_cons (pe_call (ok_l_cell_at T) (hr.mono (by decide)) rfl T.m_l_cell_at T.F_l_cell_at.kp T.b_l_cell_at .nil pass0 (pa_cons (pv 0) (pa_cons pe_int pa_nil))) pa_nil))) (pss_cons (ps_set (i := 3) sc_law_k02.nd rfl (Or.inl rfl) (pe_call (ok_l_number_by T) (hr.mono (by decide)) rfl T.m_l_number_by T.F_l_number_by.kp T.b_l_number_by .nil pass0 (pa_cons (pe_call (ok_l_cell_at T) (hr.mono (by decide)) rfl T.m_l_cell_at T.F_l_cell_at.kp T.b_l_cell_at .nil pass0 (pa_cons (pv 0) (pa_cons pe_int pa_nil))) pa_nil))) (pss_cons (ps_set (i := 4) sc_law_k02.nd rfl (Or.inl rfl) (pe_call (ok_l_number_by T) (hr.mono (by decide)) rfl T.m_l_number_by T.F_l_number_by.kp T.b_l_number_by .nil pass0 (pa_cons (pe_call (ok_l_cell_at T) (hr.mono (by decide)) rfl T.m_l_cell_at T.F_l_cell_at.kp T.b_l_cell_at .nil pass0 (pa_cons (pv 0) (pa_cons pe_int pa_nil))) pa_nil))) (pss_cons (ps_set (i := 5) sc_law_k02.nd rfl (Or.inl rfl) (pe_call (ok_l_cell_at T) (hr.mono (by decide)) rfl T.m_l_cell_at T.F_l_cell_at.kp T.b_l_cell_at .nil pass0 (pa_cons (pv 0) (pa_cons pe_int pa_nil)))) (pss_cut (ps_if (pt_cmpR op_gt (pe_op op_mod (pv 5) pe_int) pe_int (nomark _)) (pss_cons (ps_set (i := 3) sc_law_k02.nd rfl (Or.inl rfl) (pe_callB (call_min2 rfl) (by rfl) T.n_min PyProof.Rows.boot_min (pa_cons (pe_callB (call_max2 rfl) (by rfl) T.n_max PyProof.Rows.boot_max (pa_cons (pe_op op_sub (pe_op op_add (pv 1) (pe_op op_mod (pv 5) pe_int)) pe_int) (pa_cons pe_int pa_nil))) (pa_cons (pe_op op_sub (pe_op op_pow pe_int pe_int) pe_int) pa_nil)))) (pss_one (ps_set (i := 4) sc_law_k02.nd rfl (Or.inl rfl) (pe_callB (call_min2 rfl) (by rfl) T.n_min PyProof.Rows.boot_min (pa_cons (pe_callB (call_max2 rfl) (by rfl) T.n_max PyProof.Rows.boot_max (pa_cons (pe_op op_sub (pe_op op_add (pv 2) (pe_op op_mod (pe_op op_fdiv (pv 5) pe_int) pe_int)) pe_int) (pa_cons pe_int pa_nil))) (pa_cons (pe_op op_sub (pe_op op_pow pe_int pe_int) pe_int) pa_nil)))))) pss_nil) (pss_cons (ps_if (PW.pt (pw_or (pt_not (pt_val (pe_call (ok_l_truth T) (hr.mono (by decide)) rfl T.m_l_truth T.F_l_truth.kp T.b_l_truth .nil pass0 (pa_cons (pe_call (ok_reaches T) (hr.mono (by decide)) rfl T.m_reaches T.F_reaches.kp T.b_reaches .nil pass0 (pa_cons (pe_tup (pa_cons (pv 1) (pa_cons (pv 2) pa_nil))) (pa_cons (pe_tup (pa_cons (pv 3) (pa_cons (pv 4) pa_nil))) pa_nil))) (pa_cons (pe_and (pe_cmpR op_le (pv 3) (pv 1) (nomark _)) (pe_one (pe_cmpR op_le (pv 4) (pv 2) (nomark _)))) pa_nil))))) (pw_or1 (pt_not (pt_val (pe_call (ok_l_truth T) (hr.mono (by decide)) rfl T.m_l_truth T.F_l_truth.kp T.b_l_truth .nil pass0 (pa_cons (pe_call (ok_reaches T) (hr.mono (by decide)) rfl T.m_reaches T.F_reaches.kp T.b_reaches .nil pass0 (pa_cons (pe_tup (pa_cons (pv 1) (pa_cons (pv 2) pa_nil))) (pa_cons (pe_tup (pa_cons (pv 1) (pa_cons (pv 2) pa_nil))) pa_nil))) (pa_cons pe_bl pa_nil)))))))) (pss_one (ps_ret pe_bl)) pss_nil) (pss_cons (ps_if (pt_not (pt_val (pe_call (ok_l_truth T) (hr.mono (by decide)) rfl T.m_l_truth T.F_l_truth.kp T.b_l_truth .nil pass0 (pa_cons (pe_call (ok_reaches T) (hr.mono (by decide)) rfl T.m_reaches T.F_reaches.kp T.b_reaches .nil pass0 (pa_cons (pe_tup (pa_cons (pv 3) (pa_cons (pv 4) pa_nil))) (pa_cons (pe_tup (pa_cons (pv 1) (pa_cons (pv 2) pa_nil))) pa_nil))) (pa_cons (pe_and (pe_cmpR op_le (pv 1) (pv 3) (nomark _)) (pe_one (pe_cmpR op_le (pv 2) (pv 4) (nomark _)))) pa_nil))))) (pss_one (ps_ret pe_bl)) pss_nil) (pss_cons (ps_set (i := 6) sc_law_k02.nd rfl (Or.inl rfl) (pe_call (ok_net T) (hr.mono (by decide)) rfl T.m_net T.F_net.kp T.b_net .nil pass0 (pa_cons (pe_tup (pa_cons (pv 1) (pa_cons (pv 2) pa_nil))) pa_nil))) (pss_cons (ps_set (i := 7) sc_law_k02.nd rfl (Or.inl rfl) (pe_call (ok_net T) (hr.mono (by decide)) rfl T.m_net T.F_net.kp T.b_net .nil pass0 (pa_cons (pe_tup (pa_cons (pv 3) (pa_cons (pv 4) pa_nil))) pa_nil))) (pss_one (ps_ret (pe_and (pe_call (ok_l_whole T) (hr.mono (by decide)) rfl T.m_l_whole T.F_l_whole.kp T.b_l_whole .nil pass0 (pa_cons (pv 6) pa_nil)) (pe_and (pe_call (ok_l_whole T) (hr.mono (by decide)) rfl T.m_l_whole T.F_l_whole.kp T.b_l_whole .nil pass0 (pa_cons (pv 7) pa_nil)) (pe_and (pe_cmpR op_eq (pe_op op_add (pv 6) (pv 2)) (pv 1) (nomark _)) (pe_one (pe_cmpR op_eq (pe_op op_add (pv 7) (pv 4)) (pv 3) (nomark _)))))))))))))))))), ?_⟩
    walk_at "gc"
    generalize numberBy (cellI ns 0) = A
    generalize numberBy (cellI ns 1) = B
    refine ⟨fun σ' H' => ∃ c d : Int, σ' = [some (.ref a), some (.int A), some (.int B), some (.int c), some (.int d), some (.int (cellI ns 4)), none, none], ?_, fun σ' H' hm => ?_⟩
    · walk_at "gc"
      refine Gc.lt_2 (fun h1 => ?_) (fun h1 => ?_)
      · walk_at "gc"
        exact ⟨_, _, rfl⟩
      · exact ⟨_, _, rfl⟩
    obtain ⟨c, d, rfl⟩ := hm
    walk_at "gc"
    refine Gc.and_ev (decide (d ≤ B)) (fun _ Q' q => by walk_at "gc"; exact q) ?_
    walk_at "gc"
    refine ⟨true, by rw [reachB_self]; rfl, ?_⟩
    walk_at "gc"
    refine Gc.and_ev (decide (B ≤ d)) (fun _ Q' q => by walk_at "gc"; exact q) ?_
    walk_at "gc"
    refine Gc.eqI_t (by omega) ?_
    walk_at "gc"
    exact Gc.bl_eq (Gc.eqI_b (by omega)) (k _)
end
section
theorem all_mk {l : PySem.W.OpenLaw} {w : World} {K : PySem.W.Frag} {h : Heap} {mg : Str → Option Value} {fa : Addr} (X : K.In h) (G : h.Ns mainGlobals mg) (hfa : mg "law" = some (.ref fa))
    {f_l_number_by f_l_cell_at f_net f_l_truth f_l_whole f_reaches f_law_k02 : Addr}
    {od_l_number_by an_l_number_by od_l_cell_at an_l_cell_at od_net an_net od_l_truth an_l_truth od_l_whole an_l_whole od_reaches an_reaches od_law_k02 an_law_k02 : Option Addr} {sl_l_number_by sl_l_cell_at sl_net sl_l_truth sl_l_whole sl_reaches sl_law_k02 : Array (Option Value)} {oc_l_number_by kV_l_number_by dc_l_number_by pm_l_number_by cd_l_number_by ct_l_number_by oc_l_cell_at kV_l_cell_at dc_l_cell_at pm_l_cell_at cd_l_cell_at ct_l_cell_at oc_net kV_net dc_net pm_net cd_net ct_net oc_l_truth kV_l_truth dc_l_truth pm_l_truth cd_l_truth ct_l_truth oc_l_whole kV_l_whole dc_l_whole pm_l_whole cd_l_whole ct_l_whole oc_reaches kV_reaches dc_reaches pm_reaches cd_reaches ct_reaches oc_law_k02 kV_law_k02 dc_law_k02 pm_law_k02 cd_law_k02 ct_law_k02 : Value}
    (a_l_number_by : PySem.W.nsIn K mainGlobals "_law_number_by" = some (some (.ref f_l_number_by)))
    (l_l_number_by : K.lookup f_l_number_by = some ⟨oc_l_number_by, od_l_number_by, .func (PySem.W.fnOf "_law_number_by" "_law_number_by" (defArgs s_l_number_by) (defBody s_l_number_by) (defScope s_l_number_by) .none kV_l_number_by dc_l_number_by pm_l_number_by an_l_number_by cd_l_number_by ct_l_number_by), sl_l_number_by⟩)
    (cI_l_number_by : PySem.W.codeIn K cd_l_number_by "_law_number_by" = true)
    (kk_l_number_by : PySem.W.keepIn K (.ref f_l_number_by) = true)
    (a_l_cell_at : PySem.W.nsIn K mainGlobals "_law_cell_at" = some (some (.ref f_l_cell_at)))
    (l_l_cell_at : K.lookup f_l_cell_at = some ⟨oc_l_cell_at, od_l_cell_at, .func (PySem.W.fnOf "_law_cell_at" "_law_cell_at" (defArgs s_l_cell_at) (defBody s_l_cell_at) (defScope s_l_cell_at) .none kV_l_cell_at dc_l_cell_at pm_l_cell_at an_l_cell_at cd_l_cell_at ct_l_cell_at), sl_l_cell_at⟩)
    (cI_l_cell_at : PySem.W.codeIn K cd_l_cell_at "_law_cell_at" = true)
    (kk_l_cell_at : PySem.W.keepIn K (.ref f_l_cell_at) = true)
    (a_net : PySem.W.nsIn K mainGlobals "net" = some (some (.ref f_net)))
    (l_net : K.lookup f_net = some ⟨oc_net, od_net, .func (PySem.W.fnOf "net" "net" (defArgs s_net) (defBody s_net) (defScope s_net) .none kV_net dc_net pm_net an_net cd_net ct_net), sl_net⟩)
    (cI_net : PySem.W.codeIn K cd_net "net" = true)
    (kk_net : PySem.W.keepIn K (.ref f_net) = true)
    (a_l_truth : PySem.W.nsIn K mainGlobals "_law_truth" = some (some (.ref f_l_truth)))
    (l_l_truth : K.lookup f_l_truth = some ⟨oc_l_truth, od_l_truth, .func (PySem.W.fnOf "_law_truth" "_law_truth" (defArgs s_l_truth) (defBody s_l_truth) (defScope s_l_truth) .none kV_l_truth dc_l_truth pm_l_truth an_l_truth cd_l_truth ct_l_truth), sl_l_truth⟩)
    (cI_l_truth : PySem.W.codeIn K cd_l_truth "_law_truth" = true)
    (kk_l_truth : PySem.W.keepIn K (.ref f_l_truth) = true)
    (a_l_whole : PySem.W.nsIn K mainGlobals "_law_whole" = some (some (.ref f_l_whole)))
    (l_l_whole : K.lookup f_l_whole = some ⟨oc_l_whole, od_l_whole, .func (PySem.W.fnOf "_law_whole" "_law_whole" (defArgs s_l_whole) (defBody s_l_whole) (defScope s_l_whole) .none kV_l_whole dc_l_whole pm_l_whole an_l_whole cd_l_whole ct_l_whole), sl_l_whole⟩)
    (cI_l_whole : PySem.W.codeIn K cd_l_whole "_law_whole" = true)
    (kk_l_whole : PySem.W.keepIn K (.ref f_l_whole) = true)
    (a_reaches : PySem.W.nsIn K mainGlobals "reaches" = some (some (.ref f_reaches)))
    (l_reaches : K.lookup f_reaches = some ⟨oc_reaches, od_reaches, .func (PySem.W.fnOf "reaches" "reaches" (defArgs s_reaches) (defBody s_reaches) (defScope s_reaches) .none kV_reaches dc_reaches pm_reaches an_reaches cd_reaches ct_reaches), sl_reaches⟩)
    (cI_reaches : PySem.W.codeIn K cd_reaches "reaches" = true)
    (kk_reaches : PySem.W.keepIn K (.ref f_reaches) = true)
    (a_law_k02 : PySem.W.nsIn K mainGlobals "law" = some (some (.ref f_law_k02)))
    (l_law_k02 : K.lookup f_law_k02 = some ⟨oc_law_k02, od_law_k02, .func (PySem.W.fnOf "law" "law" (defArgs s_law_k02) (defBody s_law_k02) (defScope s_law_k02) .none kV_law_k02 dc_law_k02 pm_law_k02 an_law_k02 cd_law_k02 ct_law_k02), sl_law_k02⟩)
    (cI_law_k02 : PySem.W.codeIn K cd_law_k02 "law" = true)
    (kk_law_k02 : PySem.W.keepIn K (.ref f_law_k02) = true)
    (z_bool : PySem.W.nsIn K mainGlobals "bool" = some none)
    (z_int : PySem.W.nsIn K mainGlobals "int" = some none)
    (z_isinstance : PySem.W.nsIn K mainGlobals "isinstance" = some none)
    (z_len : PySem.W.nsIn K mainGlobals "len" = some none)
    (z_max : PySem.W.nsIn K mainGlobals "max" = some none)
    (z_min : PySem.W.nsIn K mainGlobals "min" = some none)
    : ∃ fd : FuncData, (∀ (s : Shared) (v : Value), BindsTo s fd ⟨[v], []⟩ [("_law_script", v)]) ∧ ∀ base : Heap, K.In base → base.Ns mainGlobals mg → FnOk l.prog w K mg base CX0 2 fa fd ["_law_script"] (sp_law K) := by
  have e := hfa.symm.trans (PySem.W.mg_of X G a_law_k02)
  cases e
  have F_l_number_by := fun_mk (st := s_l_number_by) l_l_number_by cI_l_number_by kk_l_number_by
  have b_l_number_by := F_l_number_by.binds (ps := ["_law_cell"]) fun _ _ _ _ _ _ us hl => match us, hl with | [_], _ => rfl
  have F_l_cell_at := fun_mk (st := s_l_cell_at) l_l_cell_at cI_l_cell_at kk_l_cell_at
  have b_l_cell_at := F_l_cell_at.binds (ps := ["_law_script", "_law_k"]) fun _ _ _ _ _ _ us hl => match us, hl with | [_, _], _ => rfl
  have F_net := fun_mk (st := s_net) l_net cI_net kk_net
  have b_net := F_net.binds (ps := ["share"]) fun _ _ _ _ _ _ us hl => match us, hl with | [_], _ => rfl
  have F_l_truth := fun_mk (st := s_l_truth) l_l_truth cI_l_truth kk_l_truth
  have b_l_truth := F_l_truth.binds (ps := ["_law_found", "_law_due"]) fun _ _ _ _ _ _ us hl => match us, hl with | [_, _], _ => rfl
  have F_l_whole := fun_mk (st := s_l_whole) l_l_whole cI_l_whole kk_l_whole
  have b_l_whole := F_l_whole.binds (ps := ["_law_found"]) fun _ _ _ _ _ _ us hl => match us, hl with | [_], _ => rfl
  have F_reaches := fun_mk (st := s_reaches) l_reaches cI_reaches kk_reaches
  have b_reaches := F_reaches.binds (ps := ["one", "other"]) fun _ _ _ _ _ _ us hl => match us, hl with | [_, _], _ => rfl
  have F_law_k02 := fun_mk (st := s_law_k02) l_law_k02 cI_law_k02 kk_law_k02
  have b_law_k02 := F_law_k02.binds (ps := ["_law_script"]) fun _ _ _ _ _ _ us hl => match us, hl with | [_], _ => rfl
  let T : Tx K mg := { f_l_number_by := f_l_number_by, fd_l_number_by := _, F_l_number_by := F_l_number_by, b_l_number_by := b_l_number_by, m_l_number_by := PySem.W.mg_of X G a_l_number_by, f_l_cell_at := f_l_cell_at, fd_l_cell_at := _, F_l_cell_at := F_l_cell_at, b_l_cell_at := b_l_cell_at, m_l_cell_at := PySem.W.mg_of X G a_l_cell_at, f_net := f_net, fd_net := _, F_net := F_net, b_net := b_net, m_net := PySem.W.mg_of X G a_net, f_l_truth := f_l_truth, fd_l_truth := _, F_l_truth := F_l_truth, b_l_truth := b_l_truth, m_l_truth := PySem.W.mg_of X G a_l_truth, f_l_whole := f_l_whole, fd_l_whole := _, F_l_whole := F_l_whole, b_l_whole := b_l_whole, m_l_whole := PySem.W.mg_of X G a_l_whole, f_reaches := f_reaches, fd_reaches := _, F_reaches := F_reaches, b_reaches := b_reaches, m_reaches := PySem.W.mg_of X G a_reaches, f_law_k02 := fa, fd_law_k02 := _, F_law_k02 := F_law_k02, b_law_k02 := b_law_k02, m_law_k02 := PySem.W.mg_of X G a_law_k02, n_bool := PySem.W.mg_none_of X G z_bool, n_int := PySem.W.mg_none_of X G z_int, n_isinstance := PySem.W.mg_none_of X G z_isinstance, n_len := PySem.W.mg_none_of X G z_len, n_max := PySem.W.mg_none_of X G z_max, n_min := PySem.W.mg_none_of X G z_min }
  exact ⟨T.fd_law_k02, fun s v => .of_eq rfl, fun base _ _ => ok_law_k02 T⟩
end
theorem walk {l : PySem.W.OpenLaw} {q : Program} {loose : List Str} {XP : (Str → Option Value) → Heap → Prop} {YP : World → Heap → Prop} {d : DefRec} {K : Params → PySem.W.Frag} (hn : l.most = some 63) (hdf : d.params.defaults = [])
    (hY : ∀ (w : World) (h : Heap), YP w h → (K w.params).In h)
    (F : ∀ (w : World) (mg : Str → Option Value) (fa : Addr) (h : Heap), (K w.params).In h → h.Ns mainGlobals mg → mg d.name = some (.ref fa) →
      ∃ fd : FuncData, (∀ (s : Shared) (u : Value), BindsTo s fd ⟨[u], []⟩ [("_law_script", u)]) ∧ ∀ base : Heap, (K w.params).In base → base.Ns mainGlobals mg → FnOk l.prog w (K w.params) mg base CX0 2 fa fd ["_law_script"] (sp_law (K w.params))) :
    PySem.W.WalkO q loose XP YP l.row.toRowW d [] (fun f vs => PySem.call f vs) :=
  L2.walk_of (n := 63) (k := 2) (x := "_law_script") (CX := fun _ => CX0) (sp := fun w => sp_law (K w.params)) hn (by decide) hdf ⟨rfl, by decide, by decide⟩ hY F (fun _ _ a ns hl _ hS => ⟨a, ns, rfl, hS, hl, fun _ => rfl⟩) fun _ _ _ _ _ z => z
end Gc

open PySem PySem.W PyProof.Rows in
set_option maxRecDepth 100000 in
set_option maxHeartbeats 0 in
theorem PySem.Challenge.cw_gossipcount_k02_shares_beside_holds : PySem.Challenge.rw_gossipcount_k02_shares_beside.Holds := by
  w_on; o_law; k_head; (case hw => w_witness2)
  k_fill
  refine Gc.walk (l := PySem.Challenge.rw_gossipcount_k02_shares_beside) rfl rfl (fun w h Y => PySem.W.kIn_of Y) ?F
  case F =>
    intro w mg fa h KX G hmg
    refine' Gc.all_mk KX G hmg ?a_l_number_by ?l_l_number_by ?cI_l_number_by ?kk_l_number_by ?a_l_cell_at ?l_l_cell_at ?cI_l_cell_at ?kk_l_cell_at ?a_net ?l_net ?cI_net ?kk_net ?a_l_truth ?l_l_truth ?cI_l_truth ?kk_l_truth ?a_l_whole ?l_l_whole ?cI_l_whole ?kk_l_whole ?a_reaches ?l_reaches ?cI_reaches ?kk_reaches ?a_law_k02 ?l_law_k02 ?cI_law_k02 ?kk_law_k02 ?z_bool ?z_int ?z_isinstance ?z_len ?z_max ?z_min
    (case a_l_number_by => k_is)
    (case l_l_number_by => k_is)
    (case cI_l_number_by => k_is)
    (case kk_l_number_by => k_is)
    (case a_l_cell_at => k_is)
    (case l_l_cell_at => k_is)
    (case cI_l_cell_at => k_is)
    (case kk_l_cell_at => k_is)
    (case a_net => k_is)
    (case l_net => k_is)
    (case cI_net => k_is)
    (case kk_net => k_is)
    (case a_l_truth => k_is)
    (case l_l_truth => k_is)
    (case cI_l_truth => k_is)
    (case kk_l_truth => k_is)
    (case a_l_whole => k_is)
    (case l_l_whole => k_is)
    (case cI_l_whole => k_is)
    (case kk_l_whole => k_is)
    (case a_reaches => k_is)
    (case l_reaches => k_is)
    (case cI_reaches => k_is)
    (case kk_reaches => k_is)
    (case a_law_k02 => k_is)
    (case l_law_k02 => k_is)
    (case cI_law_k02 => k_is)
    (case kk_law_k02 => k_is)
    (case z_bool => k_is)
    (case z_int => k_is)
    (case z_isinstance => k_is)
    (case z_len => k_is)
    (case z_max => k_is)
    (case z_min => k_is)
#print axioms PySem.Challenge.cw_gossipcount_k02_shares_beside_holds
