import PyProof.Rows.All
import Wide.All
import OpenK.AllK
import Wide.FinOn
import HandS.ForMost
import HandS.Evl
import HandS.IsInst
import HandS.Walk
import HandS.TupLe
import HandS.Codes
import HandS.More
import HandS.SetFor
import PyProof.Rows.SortShellAny
import KE.GoesMore
import PySem.Challenge.RW_gossipcount_k06_pages_lacking
set_option Elab.async false
set_option linter.all false
set_option maxRecDepth 100000
set_option maxHeartbeats 4000000
namespace Gc
open PySem L2 Evl
/-! ### heaps that grow; small words -/
theorem tup_new {H : Hp} {xs : List V} {Q : VK} (h : ∀ p H', H p = none → Ex H H' → H' p = some (.tup xs) → Q (.ref p) H') : ∀ p, H p = none → Q (.ref p) (upd H p (.tup xs)) := fun p hp => h p _ hp (Ex.new hp) upd_same
theorem lst_new {H : Hp} {xs : List V} {Q : VK} (h : ∀ p H', H p = none → Ex H H' → H' p = some (.lst xs) → Q (.ref p) H') : ∀ p, H p = none → Q (.ref p) (upd H p (.lst xs)) := fun p hp => h p _ hp (Ex.new hp) upd_same
theorem dct_new {H : Hp} {xs : List (Key × V)} {Q : VK} (h : ∀ p H', H p = none → Ex H H' → H' p = some (.dK xs) → Q (.ref p) H') : ∀ p, H p = none → Q (.ref p) (upd H p (.dK xs)) := fun p hp => h p _ hp (Ex.new hp) upd_same
theorem ex_at {H H' : Hp} {a : Addr} {o : HO} (e : Ex H H') (h : H a = some o) : H' a = some o := e a o h
theorem ex_same {H H' : Hp} (e : Ex H H') : Same H H' := e
theorem bne_self {b : Bool} : (!b) = (if b = true then false else true) := by cases b <;> rfl
theorem sz (n : Nat) (h : Nat.ble n 100000 = true := by rfl) : n ≤ sizeLine := sz_of (Nat.le_of_ble_eq_true h)
/-- a share at t: the pair (a, b) -/
abbrev ShAt (K : PySem.W.Frag) (H : Hp) (t : Addr) (a b : Int) : Prop := SqT K H t [.int a, .int b]
theorem tyx_t {K : PySem.W.Frag} {H : Hp} {a : Addr} {xs : List V} (h : SqT K H a xs) : TyX K H (.ref a) (.type "tuple") := by
  rcases h with (h | ⟨o, h⟩) | ⟨o, its, n, hk, hc, _⟩
  · exact .base (.tup h)
  · exact .fTuple h
  · exact .kTuple hk hc
theorem tyx_l {K : PySem.W.Frag} {H : Hp} {a : Addr} {xs : List V} (h : SqL K H a xs) : TyX K H (.ref a) (.type "list") := by
  rcases h with (h | ⟨o, h⟩) | ⟨o, its, n, hk, hc, _⟩
  · exact .base (.lst h)
  · exact .base (.frz h)
  · exact .kList hk hc
theorem tyx_d {K : PySem.W.Frag} {H : Hp} {a : Addr} {kvs : List (Key × V)} (h : Rd H a (.dK kvs)) : TyX K H (.ref a) (.type "dict") := by
  rcases h with h | ⟨o, h⟩
  · exact .base (.dK h)
  · exact .fDict h
theorem ab_ex {H H1 : Hp} {p : Addr} {o : HO} (hp : H p = none) (h : upd H p o = H1) : Ex H H1 := h ▸ Ex.new hp
theorem ab_at {H H1 : Hp} {p : Addr} {o : HO} (h : upd H p o = H1) : H1 p = some o := h ▸ upd_same
/-- what is said here is not opened by the walk -/
structure Hold (P : Prop) : Prop where
  it : P
theorem ab_mut {H H1 H2 : Hp} {p : Addr} {o : HO} (hp : H p = none) (e : Ex H H1) (h : upd H1 p o = H2) : Ex H H2 := h ▸ Ex.mut e hp
theorem pos60 : (0 : Int) < 10 ^ (60 : Int).toNat := by decide
theorem ite_refl {x : V} {A B : Prop} (h : A) : if decide (x = x) = true then A else B := by
  rw [if_pos (decide_eq_true rfl)]; exact h
theorem ite_nrefl {x : V} {A B : Prop} (h : B) : if (!decide (x = x)) = true then A else B := by
  rw [decide_eq_true (rfl : x = x)]; exact iteF h
theorem ite_pos {c : Bool} {A B : Prop} (hc : c = true) (h : A) : if c = true then A else B := by
  rw [if_pos hc]; exact h
theorem ite_neg {c : Bool} {A B : Prop} (hc : c = false) (h : B) : if c = true then A else B := by
  rw [hc]; exact iteF h
theorem lt_t {i j : Int} {A B : Prop} (hc : i < j) (h : A) : if decide (i < j) = true then A else B := ite_pos (decide_eq_true hc) h
theorem lt_f {i j : Int} {A B : Prop} (hc : ¬ i < j) (h : B) : if decide (i < j) = true then A else B := ite_neg (decide_eq_false hc) h
theorem le_t {i j : Int} {A B : Prop} (hc : i ≤ j) (h : A) : if decide (i ≤ j) = true then A else B := ite_pos (decide_eq_true hc) h
theorem le_f {i j : Int} {A B : Prop} (hc : ¬ i ≤ j) (h : B) : if decide (i ≤ j) = true then A else B := ite_neg (decide_eq_false hc) h
theorem eqI_t {i j : Int} {A B : Prop} (hc : i = j) (h : A) : if decide (V.int i = V.int j) = true then A else B := ite_pos (decide_eq_true (by rw [hc])) h
theorem eqI_f {i j : Int} {A B : Prop} (hc : ¬ i = j) (h : B) : if decide (V.int i = V.int j) = true then A else B := ite_neg (decide_eq_false (fun e => hc (V.int.inj e))) h
theorem neI_t {i j : Int} {A B : Prop} (hc : ¬ i = j) (h : A) : if (!decide (V.int i = V.int j)) = true then A else B := ite_pos (by rw [decide_eq_false (fun e => hc (V.int.inj e))]; rfl) h
theorem neI_f {i j : Int} {A B : Prop} (hc : i = j) (h : B) : if (!decide (V.int i = V.int j)) = true then A else B := ite_neg (by rw [decide_eq_true (by rw [hc])]; rfl) h
theorem iteN_t {c : Bool} {A B : Prop} (hc : c = false) (h : A) : if (!c) = true then A else B := ite_pos (by rw [hc]; rfl) h
theorem iteN_f {c : Bool} {A B : Prop} (hc : c = true) (h : B) : if (!c) = true then A else B := ite_neg (by rw [hc]; rfl) h
/-- a and b, b without a new thing -/
theorem and_ev {te : TE} {σ : L2.St} {H : Hp} {Q : VK} {b1 : Bool} (b2 : Bool) (hv : b1 = true → ∀ Q' : VK, Q' (.bl b2) H → te σ H Q') (h : Q (.bl (b1 && b2)) H) : if b1 = true then te σ H Q else Q (.bl false) H := by
  cases b1 with
  | true => exact iteT (hv rfl Q h)
  | false => exact iteF h
theorem or_ev {te : TE} {σ : L2.St} {H : Hp} {Q : VK} {b1 : Bool} (b2 : Bool) (hv : b1 = false → ∀ Q' : VK, Q' (.bl b2) H → te σ H Q') (h : Q (.bl (b1 || b2)) H) : if b1 = true then Q (.bl true) H else te σ H Q := by
  cases b1 with
  | true => exact iteT h
  | false => exact iteF (hv rfl Q h)
theorem chain_ev {tc : TE} {r' : R2} {y : V} {σ : L2.St} {H : Hp} {Q : VK} {b1 : Bool} (b2 : Bool) (hv : b1 = true → ∀ Q' : VK, Q' (.bl b2) H → tc σ H fun w' H4 => r' y w' H4 Q') (h : Q (.bl (b1 && b2)) H) :
    if b1 = true then (tc σ H fun w' H4 => r' y w' H4 Q) else Q (.bl false) H := by
  cases b1 with
  | true => exact iteT (hv rfl Q h)
  | false => exact iteF h
theorem bl_eq {H : Hp} {Q : VK} {b c : Bool} (e : b = c) (h : Q (.bl c) H) : Q (.bl b) H := e ▸ h
theorem eqI_b {i j : Int} (h : i = j) : decide (V.int i = V.int j) = true := decide_eq_true (by rw [h])
/-- an open test on two whole numbers -/
theorem lt_2 {i j : Int} {A B : Prop} (h1 : i < j → A) (h2 : ¬ i < j → B) : if decide (i < j) = true then A else B := by
  by_cases hc : i < j
  · exact lt_t hc (h1 hc)
  · exact lt_f hc (h2 hc)
theorem le_2 {i j : Int} {A B : Prop} (h1 : i ≤ j → A) (h2 : ¬ i ≤ j → B) : if decide (i ≤ j) = true then A else B := by
  by_cases hc : i ≤ j
  · exact le_t hc (h1 hc)
  · exact le_f hc (h2 hc)
theorem ltN_2 {i j : Int} {A B : Prop} (h1 : ¬ i < j → A) (h2 : i < j → B) : if (!decide (i < j)) = true then A else B := by
  by_cases hc : i < j
  · rw [decide_eq_true hc]; exact iteF (h2 hc)
  · rw [decide_eq_false hc]; exact iteT (h1 hc)
theorem leN_2 {i j : Int} {A B : Prop} (h1 : ¬ i ≤ j → A) (h2 : i ≤ j → B) : if (!decide (i ≤ j)) = true then A else B := by
  by_cases hc : i ≤ j
  · rw [decide_eq_true hc]; exact iteF (h2 hc)
  · rw [decide_eq_false hc]; exact iteT (h1 hc)
theorem eqI_2 {i j : Int} {A B : Prop} (h1 : i = j → A) (h2 : ¬ i = j → B) : if decide (V.int i = V.int j) = true then A else B := by
  by_cases hc : i = j
  · exact eqI_t hc (h1 hc)
  · exact eqI_f hc (h2 hc)
theorem neI_2 {i j : Int} {A B : Prop} (h1 : ¬ i = j → A) (h2 : i = j → B) : if (!decide (V.int i = V.int j)) = true then A else B := by
  by_cases hc : i = j
  · exact neI_f hc (h2 hc)
  · exact neI_t hc (h1 hc)
theorem tyx_mono {K : PySem.W.Frag} {H H' : Hp} {x : V} {t : Value} (e : Ex H H') (h : TyX K H x t) : TyX K H' x t := by
  cases h with
  | base b =>
    cases b with
    | non => exact .base .non
    | bl y => exact .base (.bl y)
    | int y => exact .base (.int y)
    | str y => exact .base (.str y)
    | flt y => exact .base (.flt y)
    | lst q => exact .base (.lst (e _ _ q))
    | frz q => exact .base (.frz (e _ _ q))
    | tup q => exact .base (.tup (e _ _ q))
    | dK q => exact .base (.dK (e _ _ q))
    | dT q => exact .base (.dT (e _ _ q))
    | ins q c a n k m => exact .base (.ins (e _ _ q) c a n k m)
  | byt b => exact .byt b
  | set q => exact .set (e _ _ q)
  | kList q c => exact .kList q c
  | kTuple q c => exact .kTuple q c
  | kDict q c => exact .kDict q c
  | fTuple q => exact .fTuple (e _ _ q)
  | fDict q => exact .fDict (e _ _ q)
/-- a comprehension: P by the turn, the list so far and the heap -/
theorem lc_go {J : It} {n : Nat} {G : Hp → Prop} {Yv : Nat → V → Prop} (w : Walk J n G (fun i H x H' => H' = H ∧ Yv i x)) {g : TG} {tt : TT} {te : TE} {vs : List Nat} {σ : L2.St} {H1 : Hp} {D : Addr} {Qd : Hp → Prop}
    (P : Nat → List V → Hp → Prop) (hn : n ≤ 100000) (hD : H1 D = none) (hG : ∀ H, Ex H1 H → G H) (hP : ∀ i acc H o, P i acc H → P i acc (upd H D o)) (h0 : ∀ H, Ex H1 H → P 0 [] H)
    (hs : ∀ i x acc H (Kk : VK) (Nn : Hp → Prop), i < n → Yv i x → Ex H1 H → H D = some (.lst acc) → P i acc H → (∀ y H4, Ex H H4 → P (i + 1) (acc ++ [y]) H4 → Kk y H4) → (∀ H3, Ex H H3 → P (i + 1) acc H3 → Nn H3) →
      g x (wipe σ vs) H fun σ2 H2 => wipe σ2 vs = wipe σ vs ∧ tt σ2 H2 fun b H3 => if b = true then te σ2 H3 Kk else Nn H3)
    (hd : ∀ acc H, Ex H1 H → H D = some (.lst acc) → P n acc H → Qd H) :
    ∃ W : Nat → Nat → Hp → Prop, (∃ m, W 0 m (upd H1 D (.lst []))) ∧ ∀ i m H, W i m H →
      (J.stop i H ∧ Qd H) ∨ (J.go i H ∧ ∃ Nx : Hp → Prop, (∀ H', Nx H' → ∃ m', m' < m ∧ W (i + 1) m' H') ∧ ∀ x H', J.yld i H x H' → g x (wipe σ vs) H' fun σ2 H2 => wipe σ2 vs = wipe σ vs ∧ tt σ2 H2 fun b H3 =>
        if b = true then te σ2 H3 fun y H4 => ∃ acc, H4 D = some (.lst acc) ∧ acc.length < sizeLine ∧ Nx (upd H4 D (.lst (acc ++ [y]))) else Nx H3) := by
  refine lc_it w (fun i H => ∃ acc, H D = some (.lst acc) ∧ acc.length ≤ i ∧ Ex H1 H ∧ P i acc H) ⟨[], upd_same, Nat.le_refl _, Ex.new hD, h0 _ (Ex.new hD)⟩ (fun i H _ h => ?_) (fun i x H H' hi h y => ?_) (fun H h => ?_)
  · obtain ⟨acc, _, _, e, _⟩ := h
    exact hG H e
  · obtain ⟨acc, ha, hl, e, p⟩ := h
    obtain ⟨rfl, hy⟩ := y
    refine hs i x acc H' _ _ hi hy e ha p (fun y H4 e4 p4 => ?_) (fun H3 e3 p3 => ?_)
    · refine ⟨acc, e4 _ _ ha, sz_lt (by omega), acc ++ [y], upd_same, by rw [List.length_append, List.length_singleton]; omega, Ex.mut (e.trans e4) hD, hP _ _ _ _ p4⟩
    · exact ⟨acc, e3 _ _ ha, by omega, e.trans e3, p3⟩
  · obtain ⟨acc, ha, _, e, p⟩ := h
    exact hd acc H e ha p
/-- what is_whole answers of x -/
def WholeJ (K : PySem.W.Frag) (H : Hp) (x : V) (b : Bool) : Prop := ∃ (t : String) (b1 b2 : Bool), TyX K H x (.type t) ∧ PySem.W.kitOne K (.type t) (.type "int") = some b1 ∧ PySem.W.kitOne K (.type t) (.type "bool") = some b2 ∧ b = (b1 && !b2)
/-- x is no text -/
def NoStr (K : PySem.W.Frag) (H : Hp) (x : V) : Prop := ∃ t : String, TyX K H x (.type t) ∧ PySem.W.kitOne K (.type t) (.type "str") = some false
theorem kit_int_int {K : PySem.W.Frag} : PySem.W.kitOne K (.type "int") (.type "int") = some true := kit_ty (by decide +kernel)
theorem kit_int_bool {K : PySem.W.Frag} : PySem.W.kitOne K (.type "int") (.type "bool") = some false := kit_ty (by decide +kernel)
theorem kit_int_str {K : PySem.W.Frag} : PySem.W.kitOne K (.type "int") (.type "str") = some false := kit_ty (by decide +kernel)
theorem kit_int_tuple {K : PySem.W.Frag} : PySem.W.kitOne K (.type "int") (.type "tuple") = some false := kit_ty (by decide +kernel)
theorem kit_int_dict {K : PySem.W.Frag} : PySem.W.kitOne K (.type "int") (.type "dict") = some false := kit_ty (by decide +kernel)
theorem kit_int_list {K : PySem.W.Frag} : PySem.W.kitOne K (.type "int") (.type "list") = some false := kit_ty (by decide +kernel)
theorem kit_bool_int {K : PySem.W.Frag} : PySem.W.kitOne K (.type "bool") (.type "int") = some true := kit_ty (by decide +kernel)
theorem kit_bool_bool {K : PySem.W.Frag} : PySem.W.kitOne K (.type "bool") (.type "bool") = some true := kit_ty (by decide +kernel)
theorem kit_bool_str {K : PySem.W.Frag} : PySem.W.kitOne K (.type "bool") (.type "str") = some false := kit_ty (by decide +kernel)
theorem kit_bool_tuple {K : PySem.W.Frag} : PySem.W.kitOne K (.type "bool") (.type "tuple") = some false := kit_ty (by decide +kernel)
theorem kit_bool_dict {K : PySem.W.Frag} : PySem.W.kitOne K (.type "bool") (.type "dict") = some false := kit_ty (by decide +kernel)
theorem kit_bool_list {K : PySem.W.Frag} : PySem.W.kitOne K (.type "bool") (.type "list") = some false := kit_ty (by decide +kernel)
theorem kit_str_int {K : PySem.W.Frag} : PySem.W.kitOne K (.type "str") (.type "int") = some false := kit_ty (by decide +kernel)
theorem kit_str_bool {K : PySem.W.Frag} : PySem.W.kitOne K (.type "str") (.type "bool") = some false := kit_ty (by decide +kernel)
theorem kit_str_str {K : PySem.W.Frag} : PySem.W.kitOne K (.type "str") (.type "str") = some true := kit_ty (by decide +kernel)
theorem kit_str_tuple {K : PySem.W.Frag} : PySem.W.kitOne K (.type "str") (.type "tuple") = some false := kit_ty (by decide +kernel)
theorem kit_str_dict {K : PySem.W.Frag} : PySem.W.kitOne K (.type "str") (.type "dict") = some false := kit_ty (by decide +kernel)
theorem kit_str_list {K : PySem.W.Frag} : PySem.W.kitOne K (.type "str") (.type "list") = some false := kit_ty (by decide +kernel)
theorem kit_NoneType_int {K : PySem.W.Frag} : PySem.W.kitOne K (.type "NoneType") (.type "int") = some false := kit_ty (by decide +kernel)
theorem kit_NoneType_bool {K : PySem.W.Frag} : PySem.W.kitOne K (.type "NoneType") (.type "bool") = some false := kit_ty (by decide +kernel)
theorem kit_NoneType_str {K : PySem.W.Frag} : PySem.W.kitOne K (.type "NoneType") (.type "str") = some false := kit_ty (by decide +kernel)
theorem kit_NoneType_tuple {K : PySem.W.Frag} : PySem.W.kitOne K (.type "NoneType") (.type "tuple") = some false := kit_ty (by decide +kernel)
theorem kit_NoneType_dict {K : PySem.W.Frag} : PySem.W.kitOne K (.type "NoneType") (.type "dict") = some false := kit_ty (by decide +kernel)
theorem kit_NoneType_list {K : PySem.W.Frag} : PySem.W.kitOne K (.type "NoneType") (.type "list") = some false := kit_ty (by decide +kernel)
theorem kit_tuple_int {K : PySem.W.Frag} : PySem.W.kitOne K (.type "tuple") (.type "int") = some false := kit_ty (by decide +kernel)
theorem kit_tuple_bool {K : PySem.W.Frag} : PySem.W.kitOne K (.type "tuple") (.type "bool") = some false := kit_ty (by decide +kernel)
theorem kit_tuple_str {K : PySem.W.Frag} : PySem.W.kitOne K (.type "tuple") (.type "str") = some false := kit_ty (by decide +kernel)
theorem kit_tuple_tuple {K : PySem.W.Frag} : PySem.W.kitOne K (.type "tuple") (.type "tuple") = some true := kit_ty (by decide +kernel)
theorem kit_tuple_dict {K : PySem.W.Frag} : PySem.W.kitOne K (.type "tuple") (.type "dict") = some false := kit_ty (by decide +kernel)
theorem kit_tuple_list {K : PySem.W.Frag} : PySem.W.kitOne K (.type "tuple") (.type "list") = some false := kit_ty (by decide +kernel)
theorem kit_list_int {K : PySem.W.Frag} : PySem.W.kitOne K (.type "list") (.type "int") = some false := kit_ty (by decide +kernel)
theorem kit_list_bool {K : PySem.W.Frag} : PySem.W.kitOne K (.type "list") (.type "bool") = some false := kit_ty (by decide +kernel)
theorem kit_list_str {K : PySem.W.Frag} : PySem.W.kitOne K (.type "list") (.type "str") = some false := kit_ty (by decide +kernel)
theorem kit_list_tuple {K : PySem.W.Frag} : PySem.W.kitOne K (.type "list") (.type "tuple") = some false := kit_ty (by decide +kernel)
theorem kit_list_dict {K : PySem.W.Frag} : PySem.W.kitOne K (.type "list") (.type "dict") = some false := kit_ty (by decide +kernel)
theorem kit_list_list {K : PySem.W.Frag} : PySem.W.kitOne K (.type "list") (.type "list") = some true := kit_ty (by decide +kernel)
theorem kit_dict_int {K : PySem.W.Frag} : PySem.W.kitOne K (.type "dict") (.type "int") = some false := kit_ty (by decide +kernel)
theorem kit_dict_bool {K : PySem.W.Frag} : PySem.W.kitOne K (.type "dict") (.type "bool") = some false := kit_ty (by decide +kernel)
theorem kit_dict_str {K : PySem.W.Frag} : PySem.W.kitOne K (.type "dict") (.type "str") = some false := kit_ty (by decide +kernel)
theorem kit_dict_tuple {K : PySem.W.Frag} : PySem.W.kitOne K (.type "dict") (.type "tuple") = some false := kit_ty (by decide +kernel)
theorem kit_dict_dict {K : PySem.W.Frag} : PySem.W.kitOne K (.type "dict") (.type "dict") = some true := kit_ty (by decide +kernel)
theorem kit_dict_list {K : PySem.W.Frag} : PySem.W.kitOne K (.type "dict") (.type "list") = some false := kit_ty (by decide +kernel)
theorem WholeJ.int {K : PySem.W.Frag} {H : Hp} (i : Int) : WholeJ K H (.int i) true := ⟨"int", true, false, .base (.int i), kit_int_int, kit_int_bool, rfl⟩
theorem WholeJ.bl {K : PySem.W.Frag} {H : Hp} (i : Bool) : WholeJ K H (.bl i) false := ⟨"bool", true, true, .base (.bl i), kit_bool_int, kit_bool_bool, rfl⟩
theorem WholeJ.str {K : PySem.W.Frag} {H : Hp} (i : Str) : WholeJ K H (.str i) false := ⟨"str", false, false, .base (.str i), kit_str_int, kit_str_bool, rfl⟩
theorem WholeJ.non {K : PySem.W.Frag} {H : Hp} : WholeJ K H .non false := ⟨"NoneType", false, false, .base .non, kit_NoneType_int, kit_NoneType_bool, rfl⟩
theorem WholeJ.tup {K : PySem.W.Frag} {H : Hp} {t : Addr} {xs : List V} (h : SqT K H t xs) : WholeJ K H (.ref t) false := ⟨"tuple", false, false, tyx_t h, kit_tuple_int, kit_tuple_bool, rfl⟩
theorem WholeJ.lst {K : PySem.W.Frag} {H : Hp} {t : Addr} {xs : List V} (h : SqL K H t xs) : WholeJ K H (.ref t) false := ⟨"list", false, false, tyx_l h, kit_list_int, kit_list_bool, rfl⟩
theorem WholeJ.dct {K : PySem.W.Frag} {H : Hp} {t : Addr} {xs : List (Key × V)} (h : Rd H t (.dK xs)) : WholeJ K H (.ref t) false := ⟨"dict", false, false, tyx_d h, kit_dict_int, kit_dict_bool, rfl⟩
theorem NoStr.int {K : PySem.W.Frag} {H : Hp} (i : Int) : NoStr K H (.int i) := ⟨"int", .base (.int i), kit_int_str⟩
theorem NoStr.bl {K : PySem.W.Frag} {H : Hp} (i : Bool) : NoStr K H (.bl i) := ⟨"bool", .base (.bl i), kit_bool_str⟩
theorem NoStr.non {K : PySem.W.Frag} {H : Hp} : NoStr K H .non := ⟨"NoneType", .base .non, kit_NoneType_str⟩
theorem NoStr.tup {K : PySem.W.Frag} {H : Hp} {t : Addr} {xs : List V} (h : SqT K H t xs) : NoStr K H (.ref t) := ⟨"tuple", tyx_t h, kit_tuple_str⟩
theorem NoStr.lst {K : PySem.W.Frag} {H : Hp} {t : Addr} {xs : List V} (h : SqL K H t xs) : NoStr K H (.ref t) := ⟨"list", tyx_l h, kit_list_str⟩
theorem NoStr.dct {K : PySem.W.Frag} {H : Hp} {t : Addr} {xs : List (Key × V)} (h : Rd H t (.dK xs)) : NoStr K H (.ref t) := ⟨"dict", tyx_d h, kit_dict_str⟩
/-- an item of a list at an open place in bounds -/
theorem tl_len (z : Str) : z.cps.toList.length = z.length := Array.length_toList
theorem ixN_in {n : Nat} {i : Int} (h0 : 0 ≤ i) (h1 : i < n) : ixN n i = some i.toNat := by
  have q : ixN n ((i.toNat : Nat) : Int) = some i.toNat := Evl.ixN_nat (by omega)
  rw [show ((i.toNat : Nat) : Int) = i by omega] at q
  exact q
theorem mod_in {a b : Int} (h : 0 < b) : 0 ≤ a % b ∧ a % b < b := ⟨Int.emod_nonneg _ (by omega), Int.emod_lt_of_pos _ h⟩
theorem atI_in {α : Type} {xs : List α} {i : Int} (h0 : 0 ≤ i) (h1 : i < xs.length) : ∃ v, atI xs i = some v ∧ v ∈ xs := by
  have hj : i.toNat < xs.length := by omega
  have q : atI xs ((i.toNat : Nat) : Int) = some xs[i.toNat] := atI_nat (List.getElem?_eq_getElem hj)
  exact ⟨xs[i.toNat], by rw [show ((i.toNat : Nat) : Int) = i by omega] at q; exact q, List.getElem_mem hj⟩
theorem atI_getD {xs : List V} {i : Int} (h0 : 0 ≤ i) (h1 : i < xs.length) : atI xs i = some (xs.getD i.toNat .non) := by
  obtain ⟨v, hv, _⟩ := atI_in h0 h1
  have hj : i.toNat < xs.length := by omega
  have q : atI xs ((i.toNat : Nat) : Int) = some xs[i.toNat] := atI_nat (List.getElem?_eq_getElem hj)
  rw [show ((i.toNat : Nat) : Int) = i by omega] at q
  rw [q]
  simp [List.getD, List.getElem?_eq_getElem hj]
theorem getD_mem {xs : List V} {i : Int} (h0 : 0 ≤ i) (h1 : i < xs.length) : xs.getD i.toNat .non ∈ xs := by
  have hj : i.toNat < xs.length := by omega
  have : xs.getD i.toNat .non = xs[i.toNat] := by simp [List.getD, List.getElem?_eq_getElem hj]
  rw [this]
  exact List.getElem_mem hj
theorem WholeJ.mono {K : PySem.W.Frag} {H H' : Hp} {x : V} {b : Bool} (e : Ex H H') (h : WholeJ K H x b) : WholeJ K H' x b := by
  obtain ⟨t, b1, b2, h1, h2⟩ := h
  exact ⟨t, b1, b2, tyx_mono e h1, h2⟩
theorem NoStr.mono {K : PySem.W.Frag} {H H' : Hp} {x : V} (e : Ex H H') (h : NoStr K H x) : NoStr K H' x := by
  obtain ⟨t, h1, h2⟩ := h
  exact ⟨t, tyx_mono e h1, h2⟩
end Gc
/- what is known of an earlier heap, at a later one -/
local macro_rules | `(tactic| walk_at "gc_ex") => `(tactic| first
  | assumption
  | exact Evl.Ex.refl _
  | (refine' Evl.Ex.trans ?h (by assumption); (case h => walk_at "gc_ex")))
local macro_rules | `(tactic| walk_at "gc_at") => `(tactic| first
  | assumption
  | exact Evl.st_of (by assumption)
  | exact Evl.sq_of (by assumption)
  | exact L2.Rd.of (by assumption)
  | (refine' Evl.ex_t (by assumption) ?h; (case h => walk_at "gc_at"))
  | (refine' Evl.ex_l (by assumption) ?h; (case h => walk_at "gc_at"))
  | (refine' Evl.ex_rd (by assumption) ?h; (case h => walk_at "gc_at"))
  | (refine' Gc.ex_at (by assumption) ?h; (case h => walk_at "gc_at"))
  | walk_at "gc_x")
local macro_rules | `(tactic| walk_at "gc_ty") => `(tactic| first
  | exact L2.TyX.base (L2.TyOf.int _)
  | exact L2.TyX.base (L2.TyOf.bl _)
  | exact L2.TyX.base (L2.TyOf.str _)
  | exact L2.TyX.base L2.TyOf.non
  | assumption
  | (refine' Gc.tyx_t ?h; (case h => walk_at "gc_at"))
  | (refine' Gc.tyx_l ?h; (case h => walk_at "gc_at"))
  | (refine' Gc.tyx_d ?h; (case h => walk_at "gc_at")))
local macro_rules | `(tactic| walk_at "gc_kit") => `(tactic| first
  | exact Gc.kit_int_int
  | exact Gc.kit_int_bool
  | exact Gc.kit_int_str
  | exact Gc.kit_int_tuple
  | exact Gc.kit_int_dict
  | exact Gc.kit_int_list
  | exact Gc.kit_bool_int
  | exact Gc.kit_bool_bool
  | exact Gc.kit_bool_str
  | exact Gc.kit_bool_tuple
  | exact Gc.kit_bool_dict
  | exact Gc.kit_bool_list
  | exact Gc.kit_str_int
  | exact Gc.kit_str_bool
  | exact Gc.kit_str_str
  | exact Gc.kit_str_tuple
  | exact Gc.kit_str_dict
  | exact Gc.kit_str_list
  | exact Gc.kit_NoneType_int
  | exact Gc.kit_NoneType_bool
  | exact Gc.kit_NoneType_str
  | exact Gc.kit_NoneType_tuple
  | exact Gc.kit_NoneType_dict
  | exact Gc.kit_NoneType_list
  | exact Gc.kit_tuple_int
  | exact Gc.kit_tuple_bool
  | exact Gc.kit_tuple_str
  | exact Gc.kit_tuple_tuple
  | exact Gc.kit_tuple_dict
  | exact Gc.kit_tuple_list
  | exact Gc.kit_list_int
  | exact Gc.kit_list_bool
  | exact Gc.kit_list_str
  | exact Gc.kit_list_tuple
  | exact Gc.kit_list_dict
  | exact Gc.kit_list_list
  | exact Gc.kit_dict_int
  | exact Gc.kit_dict_bool
  | exact Gc.kit_dict_str
  | exact Gc.kit_dict_tuple
  | exact Gc.kit_dict_dict
  | exact Gc.kit_dict_list)
/- the answers that need no thought -/
local macro_rules | `(tactic| walk_at "gc_sd") => `(tactic| first
  | rfl
  | walk_at "gc_at"
  | exact L2.ClsV.ty _
  | walk_at "gc_ty"
  | walk_at "gc_kit"
  | exact Gc.sz _
  | exact Gc.pos60
  | exact ⟨by decide, by decide⟩
  | exact ⟨_, rfl⟩
  | exact Or.inl (by walk_at "gc_at")
  | exact Or.inr (by walk_at "gc_at")
  | exact Or.inr ⟨by decide, by decide⟩
  | exact Or.inl ⟨by decide, by decide⟩
  | exact Or.inr ⟨by omega, by omega⟩
  | exact Or.inl ⟨by omega, by omega⟩
  | exact ⟨by decide, by decide, by decide⟩
  | exact ⟨by omega, by omega⟩
  | exact Evl.sz_of (by omega)
  | exact Evl.sz_lt (by omega)
  | exact Exists.intro _ (by assumption)
  | exact Or.inl ⟨rfl, Exists.intro _ (Evl.sq_of (by assumption))⟩
  | walk_at "gc_y"
  | decide
  | omega)
local macro_rules | `(tactic| walk_at "gc_e") => `(tactic| (apply Exists.intro; first | refine And.intro rfl ?_ | walk_at "gc_e"))
/- one step of a reading -/
local macro_rules | `(tactic| walk_at "gc_1") => `(tactic| first
  | (refine And.intro rfl ?_)
  | walk_at "gc_e"
  | (with_reducible refine L2.iteT ?_)
  | (with_reducible refine L2.iteF ?_)
  | (with_reducible refine Gc.ite_refl ?_)
  | (with_reducible refine Gc.ite_nrefl ?_)
  | (intro p hp; refine (?_ : ∃ W : Nat → Nat → L2.Hp → Prop, _))
  | (intro p hp; generalize hX : L2.upd _ p _ = H1; have e1 := Gc.ab_ex hp hX; have f1 := Gc.ab_at hX; clear hX)
  | (refine' And.intro ?s ?_; (case s => walk_at "gc_sd"))
  | intro _)
local macro_rules | `(tactic| walk_at "gc") => `(tactic| repeat walk_at "gc_1")

namespace Gc
open PySem L2 Evl
/-! ### the laws' numbers -/
/-- the greater one, as the program's max takes it -/
def gmax (i j : Int) : Int := if j > i then j else i
/-- the lesser one, as the program's min takes it -/
def gmin (i j : Int) : Int := if j < i then j else i
theorem gmax_comm (i j : Int) : gmax i j = gmax j i := by unfold gmax; split <;> split <;> omega
theorem gmax_back (i j : Int) : gmax (gmax i j) i = gmax i j := by unfold gmax; split <;> split <;> omega
theorem gmax_in (i j : Int) : gmax i (gmax j i) = gmax j i := by unfold gmax; split <;> split <;> omega
/-- whether (a, b) reaches (c, d) -/
def reachB (a b c d : Int) : Bool := decide (c ≤ a) && decide (d ≤ b)
theorem reachB_self (a b : Int) : reachB a b a b = true := by unfold reachB; simp
/-- a cell of the script, 0 behind its end -/
def cellI (ns : List Int) (k : Int) : Int := ns.getD k.toNat 0
/-- a def of whole numbers that makes nothing -/
def sp_i1 (f : Int → Int) : Sp := fun vs H Q _ => ∃ c : Int, vs = [.int c] ∧ Q (.int (f c)) H
def sp_i2 (f : Int → Int → Int) : Sp := fun vs H Q _ => ∃ c e : Int, vs = [.int c, .int e] ∧ Q (.int (f c e)) H
def numberBy (c : Int) : Int :=
  if c % 5 < 2 then c / 5 % 3 * (c % 5) else if c % 5 = 2 then c / 5 % 1000 else if c % 5 = 3 then c / 5 % 10 ^ 60 else 10 ^ 60 - 1 - c / 5 % 1000
/-! ### names -/
def LET : Str := "abcdefghijklmnopqrstuvwxyz"
/-- a text of 1 to 8 small letters -/
def nameB (z : Str) : Bool := decide ((1 : Int) ≤ (z.length : Nat)) && (decide (((z.length : Nat) : Int) ≤ 8) && z.cps.toList.all fun c => decide (c ∈ LET.cps.toList))
theorem nameB_yes (z : Str) (h1 : (1 : Int) ≤ (z.length : Nat)) (h2 : ((z.length : Nat) : Int) ≤ 8) : ((z.cps.toList.map fun c => decide (c ∈ LET.cps.toList)).all id) = nameB z := by
  unfold nameB
  rw [decide_eq_true h1, decide_eq_true h2, Bool.true_and, Bool.true_and, List.all_map]
  rfl
theorem nameB_long (z : Str) (h2 : ¬ ((z.length : Nat) : Int) ≤ 8) : nameB z = false := by
  unfold nameB
  rw [decide_eq_false h2, Bool.false_and, Bool.and_false]
theorem nameB_short (z : Str) (h2 : ¬ (1 : Int) ≤ (z.length : Nat)) : nameB z = false := by
  unfold nameB
  rw [decide_eq_false h2, Bool.false_and]
theorem take_map_succ {α β : Type} {f : α → β} {l : List α} {i : Nat} {x : α} (h : l[i]? = some x) : (l.take (i + 1)).map f = (l.take i).map f ++ [f x] := by
  rw [List.take_add_one, h, List.map_append]
  rfl
theorem all_take_succ {α : Type} {p : α → Bool} {l : List α} {i : Nat} {x : α} (h : l[i]? = some x) : (l.take (i + 1)).all p = ((l.take i).all p && p x) := by
  rw [List.take_add_one, h, List.all_append]
  simp
/-- texts of one sign each -/
def sg (c : Nat) : Str := ⟨#[c]⟩
def Signs (p : Nat → Prop) (xs : List V) : Prop := ∃ cs : List Nat, xs = (cs.map sg).map V.str ∧ ∀ c ∈ cs, p c
theorem Signs.nil {p : Nat → Prop} : Signs p [] := ⟨[], rfl, fun _ h => (by cases h)⟩
theorem Signs.one {p : Nat → Prop} {xs : List V} {c : Nat} (h : Signs p xs) (hc : p c) : Signs p (xs ++ [.str ⟨#[c]⟩]) := by
  obtain ⟨cs, rfl, q⟩ := h
  refine ⟨cs ++ [c], by rw [List.map_append, List.map_append]; rfl, fun d hd => ?_⟩
  rcases List.mem_append.mp hd with h | h
  · exact q d h
  · rw [List.mem_singleton.mp h]; exact hc
theorem Signs.put {p : Nat → Prop} {xs : List V} {c : Nat} (h : Signs p xs) (hc : p c) (j : Nat) : Signs p (xs.set j (.str ⟨#[c]⟩)) := by
  obtain ⟨cs, rfl, q⟩ := h
  refine ⟨cs.set j c, by rw [List.map_set, List.map_set]; rfl, fun d hd => ?_⟩
  rcases List.mem_or_eq_of_mem_set hd with h | h
  · exact q d h
  · rw [h]; exact hc
theorem sg_lens : ∀ cs : List Nat, ((cs.map sg).map (fun x => x.length)).sum = cs.length
  | [] => rfl
  | c :: cs => by
    show 1 + ((cs.map sg).map (fun x => x.length)).sum = cs.length + 1
    rw [sg_lens cs, Nat.add_comm]
theorem sg_size (cs : List Nat) (h : cs.length ≤ 100000) : ((cs.map sg).map (fun x => x.length)).sum + (cs.map sg).length * ("" : Str).length ≤ 16777216 := by
  rw [sg_lens, List.length_map]
  show cs.length + cs.length * 0 ≤ 16777216
  omega
theorem joinL_sg : ∀ cs : List Nat, TL.joinL [] (cs.map fun c => [c]) = cs
  | [] => rfl
  | [c] => rfl
  | c :: d :: r => by
    show [c] ++ ([] ++ TL.joinL [] ((d :: r).map fun c => [c])) = c :: d :: r
    rw [joinL_sg (d :: r)]
    rfl
theorem join_sg (cs : List Nat) : Txt.join ("" : Str) (cs.map sg) = ⟨cs.toArray⟩ := by
  have e := SX.join_S [] (cs.map fun c => [c])
  rw [joinL_sg, List.map_map] at e
  exact e
/-- an amount -/
def amountB (i : Int) : Bool := decide (1 ≤ i) && decide (i ≤ 1000000000)
theorem amountB_alt (N : Int) : amountB N = (decide (0 < N) && decide (N < 1000000001)) := by
  have e1 : decide (1 ≤ N) = decide (0 < N) := decide_eq_decide.mpr (by omega)
  have e2 : decide (N ≤ 1000000000) = decide (N < 1000000001) := decide_eq_decide.mpr (by omega)
  unfold amountB
  rw [e1, e2]
/-- what a law promises: True -/
def sp_law (K : PySem.W.Frag) : Sp := fun vs H Q _ => ∃ (a : Addr) (ns : List Int), vs = [.ref a] ∧ SqL K H a (ns.map V.int) ∧ ns.length ≤ 63 ∧ ∀ H', Q (.bl true) H'
end Gc

namespace Gc
open PySem PySem.Spec PyProof.Rows L2
/-! ### == and != of dicts whose values are data (or the very same objects) -/
theorem hu70 {A : Around} {k : Nat} (hr : Room k A) : A.units + 70 < cLine := by have := hr.un; omega
/-- v == v' answers b: one object, or data -/
def EqJ (K : PySem.W.Frag) (H : Hp) (v v' : V) (b : Bool) : Prop :=
  (∃ a, v = .ref a ∧ v' = .ref a ∧ b = true) ∨ ∃ d e, Dp K H v d ∧ Dp K H v' e ∧ SeqAt.shaped d = true ∧ SeqAt.shaped e = true ∧ b = PyData.eqv d e
section
variable {X : Cx} {pins : List (Addr × Obj)} {σ : L2.St} {H : Hp} {s : Shared}
theorem eqj_at (I : Inv X pins σ H s) (hu : X.A.units + 70 < cLine) {v v' : V} {b : Bool} {u u' : Value} (h : EqJ X.K H v v' b) (r : RelV v u) (r' : RelV v' u') : SeqAt.EqAt X.A.in1 s u u' b := by
  rcases h with ⟨a, rfl, rfl, rfl⟩ | ⟨d, e, hd, he, sd, se, rfl⟩
  · cases r
    cases r'
    exact SeqAt.EqAt.same _
  · obtain ⟨as, r1⟩ := Dp.reads I d v u hd r
    obtain ⟨bs, r2⟩ := Dp.reads I e v' u' he r'
    exact PySem.W.keq_at r1 r2 sd se (by show X.A.units + 1 + 64 < cLine; omega)
/-- the answer of ks == ls, item by item -/
def dictEqB (ks ls : List (Key × V)) (e : Key → Bool) : Bool := decide (ks.length = ls.length) && ks.all fun p => (valV ls p.1).isSome && e p.1
theorem hits_j (I : Inv X pins σ H s) (hu : X.A.units + 70 < cLine) {ls : List (Key × V)} {vb : List (Key × Value)} (rb : KV ls vb) {e : Key → Bool} {ks : List (Key × V)} {va : List (Key × Value)} (ra : KV ks va) :
    (∀ p ∈ ks, ∀ v', valV ls p.1 = some v' → EqJ X.K H p.2 v' (e p.1)) → PySem.W.KeqHits X.A.in1 s vb va (ks.all fun p => (valV ls p.1).isSome && e p.1) := by
  unfold KV at ra
  induction ra with
  | nil => exact fun _ => .nil
  | @cons p q ps qs h t ih =>
    intro hp
    obtain ⟨k, v⟩ := q
    obtain ⟨h1, h2⟩ := h
    have h1' : p.1 = k := h1
    have rest := ih fun p' hm => hp p' (List.mem_cons_of_mem _ hm)
    have q0 := rb.val p.1
    cases hv : valV ls p.1 with
    | none =>
      rw [hv] at q0
      have hn : valueAt vb k = none := by
        rw [← h1']
        cases z : valueAt vb p.1 with
        | none => rfl
        | some y => rw [z] at q0; exact q0.elim
      have g : ((p :: ps).all fun p => (valV ls p.1).isSome && e p.1) = false := by simp [hv]
      rw [g]
      exact .miss hn
    | some v' =>
      rw [hv] at q0
      obtain ⟨y, hy, ry⟩ := RelO.some_of q0
      rw [h1'] at hy
      have g : ((p :: ps).all fun p => (valV ls p.1).isSome && e p.1) = (e p.1 && ps.all fun p => (valV ls p.1).isSome && e p.1) := by simp [hv]
      rw [g]
      exact .hit hy (eqj_at I hu (hp p List.mem_cons_self v' hv) h2 ry) rest
def rPgEq (K : PySem.W.Frag) (neg : Bool) : R2 := fun x y H Q => Hold (∃ (a b : Addr) (ks ls : List (Key × V)) (e : Key → Bool), x = .ref a ∧ y = .ref b ∧ Rd H a (.dK ks) ∧ Rd H b (.dK ls) ∧
  (∀ p ∈ ks, ∀ v', valV ls p.1 = some v' → EqJ K H p.2 v' (e p.1)) ∧ Q (.bl (if neg = true then !dictEqB ks ls e else dictEqB ks ls e)) H)
theorem op_pgEq (hu : X.A.units + 70 < cLine) : OpR X (compareOp .Eq) (rPgEq X.K false) := by
  intro pins s σ H x y v u Q I rx ry h
  obtain ⟨⟨a, b, ks, ls, e, rfl, rfl, ea, eb, hj, q⟩⟩ := h
  obtain rfl : v = Value.ref a := rx
  obtain rfl : u = Value.ref b := ry
  obtain ⟨_, ya, va, ra, da⟩ := dk_rd I.hok ea
  obtain ⟨_, yb, vb, rb, db⟩ := dk_rd I.hok eb
  refine PySem.W.keq_eq (knd := mixKind X.prog X.w) ya yb da db (by omega) (fun _ => hits_j I hu rb ra hj) (fin_bl I q ?_)
  show dictEqB ks ls e = _
  unfold dictEqB
  rw [ra.length, rb.length]
  cases hq : (va.length == vb.length) <;> simp_all
theorem op_pgEqN (hu : X.A.units + 70 < cLine) : OpR X (compareOp .NotEq) (rPgEq X.K true) := by
  intro pins s σ H x y v u Q I rx ry h
  obtain ⟨⟨a, b, ks, ls, e, rfl, rfl, ea, eb, hj, q⟩⟩ := h
  obtain rfl : v = Value.ref a := rx
  obtain rfl : u = Value.ref b := ry
  obtain ⟨_, ya, va, ra, da⟩ := dk_rd I.hok ea
  obtain ⟨_, yb, vb, rb, db⟩ := dk_rd I.hok eb
  refine PySem.W.keq_ne (knd := mixKind X.prog X.w) ya yb da db (by omega) (fun _ => hits_j I hu rb ra hj) (fin_bl I q ?_)
  show (!dictEqB ks ls e) = _
  unfold dictEqB
  rw [ra.length, rb.length]
  cases hq : (va.length == vb.length) <;> simp_all
theorem pg_go {K : PySem.W.Frag} {H : Hp} {Q : VK} {a b : Addr} {ks ls : List (Key × V)} (e : Key → Bool) (ha : Rd H a (.dK ks)) (hb : Rd H b (.dK ls)) (h : ∀ p ∈ ks, ∀ v', valV ls p.1 = some v' → EqJ K H p.2 v' (e p.1)) (q : Q (.bl (dictEqB ks ls e)) H) :
    rPgEq K false (.ref a) (.ref b) H Q := ⟨⟨a, b, ks, ls, e, rfl, rfl, ha, hb, h, q⟩⟩
theorem pgN_go {K : PySem.W.Frag} {H : Hp} {Q : VK} {a b : Addr} {ks ls : List (Key × V)} (e : Key → Bool) (ha : Rd H a (.dK ks)) (hb : Rd H b (.dK ls)) (h : ∀ p ∈ ks, ∀ v', valV ls p.1 = some v' → EqJ K H p.2 v' (e p.1)) (q : Q (.bl (!dictEqB ks ls e)) H) :
    rPgEq K true (.ref a) (.ref b) H Q := ⟨⟨a, b, ks, ls, e, rfl, rfl, ha, hb, h, q⟩⟩
end
end Gc

namespace Gc
open PySem PySem.Spec PyProof.Rows L2
/-! ### sorted of texts, any number of them: a list, a dict's keys, a set -/
section
variable {X : Cx}
def rSortedSA (K : PySem.W.Frag) : List V → Hp → VK → Prop := fun vs H Q => ∃ (a : Addr) (xs : List Str), vs = [V.ref a] ∧ SqL K H a (xs.map V.str) ∧
  ∀ (ys : List Str), ys.Perm xs → sortedS ys = true → ∀ p, H p = none → Q (.ref p) (upd H p (.lst (ys.map V.str)))
theorem cr_sortedSA (hc : X.calm = true) : CallR X (.builtin "sorted") (rSortedSA X.K) := by
  intro pins s σ H vs us Q I r h
  obtain ⟨a, xs, rfl, hs, q⟩ := h
  obtain ⟨its, rv, hl, hz⟩ := I.list hs
  rw [Vals.ref1 r]
  have hlen0 := rv.length
  refine PyProof.Rows.sorted_strsAny hl.isList rv.strs (by rw [← hlen0]; exact hz) fun out ys h1 h2 h3 => ?_
  obtain ⟨ep, he'⟩ := PyProof.Rows.sortedAll_at s.heap its out
  have hlen : (ys.map V.str).length ≤ sizeLine := by rw [List.length_map, h2.length_eq]; rw [List.length_map] at hz; exact hz
  exact ⟨.ref _, upd H (s.heap.objs.size + 1) (.lst (ys.map V.str)), I.laid (t' := s.toks) (fun _ _ => PyProof.Rows.sortedAll_old) (Nat.le_succ _) ⟨hlen, out.toList, ep, vals_of_strs h1, he'⟩, rfl, q ys h2 h3 _ (I.hok.fresh (Nat.le_succ _))⟩
def rSortedDA : List V → Hp → VK → Prop := fun vs H Q => ∃ (a : Addr) (kvs : List (Key × V)) (ks : List Str), vs = [.ref a] ∧ Rd H a (.dK kvs) ∧ kvs.map (·.1) = ks.map Sum.inr ∧
  ∀ (ys : List Str), ys.Perm ks → sortedS ys = true → ∀ p, H p = none → Q (.ref p) (upd H p (.lst (ys.map V.str)))
theorem cr_sortedDA (hcalm : X.calm = true) : CallR X (.builtin "sorted") rSortedDA := by
  intro pins s σ H xs us Q I r q
  obtain ⟨a, kvs, ks, ex, hd, hks, q⟩ := q
  subst ex
  obtain ⟨u, eu, rx⟩ := vals1 r
  subst eu
  cases rx
  obtain ⟨z, lo, vs, rel, dd⟩ := dk_rd I.hok hd
  obtain ⟨ep, hat⟩ := dd.dictAt
  have hkeys : vs.map (·.1) = ks.map Sum.inr := rel.keys.symm.trans hks
  have hl : vs.length = ks.length := by
    have e := congrArg List.length hkeys
    rw [List.length_map, List.length_map] at e
    exact e
  have h16 : vs.length ≤ sizeLine := by rw [← rel.length]; exact z
  refine Calls.call_function_entry PyProof.Rows.kind_sorted PyProof.Rows.plain_sorted PyProof.Rows.entry_sorted (PyProof.Rows.args_sorted1 _) ?_
  unfold Builtin.«sorted»
  refine wpAny_bind (m := checkCount "sorted" 1 1 _) (wpAny_pure ?_)
  refine wpAny_bind (PySem.W.kdu_collect (A := X.A.in1) (PySem.W.kdl_dict (knd := mixKind X.prog X.w) (kvs := vs) (ep := ep) lo) (I.ok.hd hcalm) hat h16 fun h' tk acc hk hacc => ?_)
  have hal : acc.toList.length = ks.length := by rw [Array.length_toList, hacc.1, hl]
  have hS : StrsAre acc.toList ks := strs_at hal fun j v e => by
    obtain ⟨k, x, e1, e2⟩ := hacc.2 j v (by rw [← Array.getElem?_toList]; exact e)
    have e3 : (vs.map (·.1))[j]? = some k := by rw [List.getElem?_map, e1]; all_goals rfl
    rw [hkeys, List.getElem?_map] at e3
    cases e4 : ks[j]? with
    | none => rw [e4] at e3; cases e3
    | some y =>
      rw [e4] at e3
      have e5 : Sum.inr y = k := Option.some.inj e3
      subst e5
      obtain ⟨t, ev⟩ := Value.isStrOf_shape (x := y) (v := v) e2
      exact ⟨y, t, rfl, ev⟩
  have I1 : Inv X pins σ H { s with heap := h', toks := tk } := I.kept hk
  refine wpAny_bind (wpAny_newList ?_ (by rw [hal, ← hl]; exact h16))
  have hoL : (h'.push (seqObj "list" acc.toList.toArray 0)).get? h'.objs.size = some (seqObj "list" acc.toList.toArray 0) := Heap.get?_push_size _ rfl
  show wpAny _ _ _ _ _ { s with heap := h'.push (seqObj "list" acc.toList.toArray 0), toks := tk }
  refine wpAny_bind (wpAny_holding (wpAny_call_entry PyProof.Rows.slot_list_sort ⟨_, hoL, rfl⟩ PyProof.Rows.entry_list_sort
    (PyProof.Rows.list_sort_treeKAny strKind_oneLt (s := { s with heap := h'.push (seqObj "list" acc.toList.toArray 0), toks := tk }) hoL hS.keysOf (fun v₁ v₂ rest e => keyKind_strs (by rw [← e]; exact hS)) (by rw [hal, ← hl]; exact h16) fun st' hp hs => ⟨_, rfl, ?_⟩)
    (PyProof.Rows.args_list_sort _)))
  obtain ⟨ys, g1, g2, g3⟩ := sorted_out_str hS hp hs
  obtain ⟨e', he'⟩ := PyProof.Rows.sortedHeap_at (vs := acc.toList) (out := (arrOf st').map (·.2)) hoL
  have hlen : (ys.map V.str).length ≤ sizeLine := by
    rw [List.length_map, g2.length_eq, ← hl]
    exact h16
  refine wpAny_pure ⟨_, rfl, .ref h'.objs.size, upd H h'.objs.size (.lst (ys.map V.str)), I1.laid (t' := tk) (fun b u e => ?_) (Nat.le_refl _)
    (show ObjOk X.prog X.w _ _ _ (.lst (ys.map V.str)) from ⟨hlen, ((arrOf st').map (·.2)).toList, e', vals_of_strs g1, by rw [Array.toArray_toList]; exact he'⟩), rfl, q ys g2 g3 _ (I1.hok.fresh (Nat.le_refl _))⟩
  have hlt := Heap.lt_size e
  rw [PyProof.Rows.sortedHeap_old (Nat.ne_of_lt hlt) (by rw [size_push']; exact Nat.lt_succ_of_lt hlt)]
  exact Heap.get?_push_of_some _ e
end
end Gc

namespace Gc
open PySem PySem.Spec PyProof.Rows L2
/-! ### enumerate(d), d a dict that is locked -/
section
variable {prog : Program} {w : World} {A : Around} {E : Value → Shared → Prop} {s : Shared}
theorem nextKey_item {it d : Addr} {i n ep : Nat} {od : Obj} {es : Array DictEntry} {en : DictEntry} {Q : Value → Shared → Prop} (hit : s.heap.IsKeyIter it d i n ep) (hod : s.heap.get? d = some od) (hdd : od.data = .dict es ep)
    (hsz : es.size = n) (hx : es[i]? = some en) (hQ : ∀ h', h'.IsKeyIter it d (i + 1) n ep → Heap.SameBut it s.heap h' → Q en.key { s with heap := h' }) : wpAny (model prog w) A (Builtin.SmallTypes.nextOf (.ref it)) Q E s := by
  have hT := hit.typeIs
  obtain ⟨o, ho, hc, hd⟩ := id hit
  unfold Builtin.SmallTypes.nextOf
  refine wpAny_bind (wpAny_callSpecial?_slot (name := Str.ofString "__next__") hT F.slot_dict_keyiterator_next (wpAny_call_entry F.slot_dict_keyiterator_next hT F.entry_dict_keyiterator_next ?_ (F.args_dict_keyiterator_next_1 _)))
  refine wpAny_bind (wpAny_pure (wpAny_bind (wpAny_bind ?_)))
  first | refine wpAny_bind (wpAny_typeNameOfWhole_keyiter hT (wpAny_pure (wpAny_bind (wpAny_fieldsOf ho hd ?_)))) | refine wpAny_bind (wpAny_typeNameOf_keyiter hT (wpAny_pure (wpAny_bind (wpAny_fieldsOf ho hd ?_))))
  simp only [show Builtin.Dict_items.ownsTuple "dict_keyiterator" = false by decide, Bool.false_eq_true, if_false]
  show wpAny _ _ (if (Value.ref d == Value.none) = true then _ else _) _ _ s
  rw [if_neg (show ¬ ((Value.ref d == Value.none) = true) from Bool.false_ne_true)]
  refine wpAny_bind (wpAny_pure (wpAny_bind (wpAny_dictEntries hod hdd ?_)))
  rw [if_neg (by rw [hsz]; simp)]
  refine wpAny_bind (wpAny_pure (wpAny_bind (wpAny_dictEpoch hod hdd ?_)))
  rw [if_neg (by simp)]
  refine wpAny_pure ?_
  obtain ⟨hlt, hen⟩ := Array.getElem?_eq_some_iff.mp hx
  simp only [show ¬ ((i : Int) < 0) from by omega, if_false, Int.toNat_natCast, Array.getElem?_eq_getElem hlt]
  refine wpAny_bind ?_
  first | refine wpAny_bind (wpAny_typeNameOfWhole_keyiter hT (wpAny_pure ?_)) | refine wpAny_bind (wpAny_typeNameOf_keyiter hT (wpAny_pure ?_))
  refine wpAny_bind (wpAny_isOneOf_keyiter hT ?_)
  show wpAny _ _ (setField (.ref it) 1 (rawInt ((i : Int) + 1)) >>= _) _ _ s
  refine wpAny_bind (wpAny_setField ho hd (by simp) ?_)
  have hit' : (s.heap.update it (Obj.mapFields (·.setIfInBounds 1 (rawInt ((i : Int) + 1))))).IsKeyIter it d (i + 1) n ep :=
    ⟨_, Heap.get?_update_self _ ho (Obj.isFreed_of_fields (Obj.data_mapFields hd _)), (Obj.cls_mapFields ..).trans hc, by rw [Obj.data_mapFields hd]; simp [rawInt]⟩
  refine wpAny_bind (wpAny_holding (wpAny_bind (wpAny_isOneOf_keyiter (s := { s with heap := s.heap.update it (Obj.mapFields (·.setIfInBounds 1 (rawInt ((i : Int) + 1)))) }) hit'.typeIs ?_)))
  show wpAny _ _ (pure es[i].key) _ _ _
  rw [hen]
  exact wpAny_pure (wpAny_pure ⟨_, rfl, wpAny_pure (hQ _ hit' (Heap.SameBut.update ..))⟩)
theorem nextKey_end {it d : Addr} {i n ep : Nat} {od : Obj} {es : Array DictEntry} {Q : Value → Shared → Prop} (hh : A.handled = none) (hit : s.heap.IsKeyIter it d i n ep) (hod : s.heap.get? d = some od) (hdd : od.data = .dict es ep)
    (hsz : es.size = n) (hge : n ≤ i) (hE : ∀ h' e, Heap.ExtBut it s.heap h' → (∃ o, h'.get? e = some o ∧ o.cls = .type "StopIteration") → E (.ref e) { s with heap := h' }) : wpAny (model prog w) A (Builtin.SmallTypes.nextOf (.ref it)) Q E s := by
  have hT := hit.typeIs
  obtain ⟨o, ho, hc, hd⟩ := id hit
  unfold Builtin.SmallTypes.nextOf
  refine wpAny_bind (wpAny_callSpecial?_slot (name := Str.ofString "__next__") hT F.slot_dict_keyiterator_next (wpAny_call_entry F.slot_dict_keyiterator_next hT F.entry_dict_keyiterator_next ?_ (F.args_dict_keyiterator_next_1 _)))
  refine wpAny_bind (wpAny_pure (wpAny_bind (wpAny_bind ?_)))
  first | refine wpAny_bind (wpAny_typeNameOfWhole_keyiter hT (wpAny_pure (wpAny_bind (wpAny_fieldsOf ho hd ?_)))) | refine wpAny_bind (wpAny_typeNameOf_keyiter hT (wpAny_pure (wpAny_bind (wpAny_fieldsOf ho hd ?_))))
  simp only [show Builtin.Dict_items.ownsTuple "dict_keyiterator" = false by decide, Bool.false_eq_true, if_false]
  show wpAny _ _ (if (Value.ref d == Value.none) = true then _ else _) _ _ s
  rw [if_neg (show ¬ ((Value.ref d == Value.none) = true) from Bool.false_ne_true)]
  refine wpAny_bind (wpAny_pure (wpAny_bind (wpAny_dictEntries hod hdd ?_)))
  rw [if_neg (by rw [hsz]; simp)]
  refine wpAny_bind (wpAny_pure (wpAny_bind (wpAny_dictEpoch hod hdd ?_)))
  rw [if_neg (by simp)]
  refine wpAny_pure ?_
  have hlt : es.size ≤ i := by rw [hsz]; exact hge
  simp only [show ¬ ((i : Int) < 0) from by omega, if_false, Int.toNat_natCast, Array.getElem?_eq_none hlt]
  refine wpAny_bind ?_
  first | refine wpAny_bind (wpAny_typeNameOfWhole_keyiter hT (wpAny_pure ?_)) | refine wpAny_bind (wpAny_typeNameOf_keyiter hT (wpAny_pure ?_))
  show wpAny _ _ (setField (.ref it) 0 .none >>= _) _ _ s
  refine wpAny_bind (wpAny_setField ho hd (by simp) ?_)
  show wpAny _ _ (newExc (.type "StopIteration") [] >>= _) _ _ _
  refine wpAny_bind ?_
  simp only [newExc, newTuple]
  refine wpAny_bind (wpAny_newObj_type ?_ (by size_fits))
  refine wpAny_bind (m := firstArgMember _ _) (wpAny_of_eq (a := Value.none) (by first | rfl | (simp only [firstArgMember]; rfl)) ?_)
  refine wpAny_newObj_type ?_ (by size_fits)
  simp only [raiseNew]
  refine wpAny_bind (wpAny_handled ?_)
  first | rw [show A.in1.handled = none from hh] | rw [hh]
  refine wpAny_bind (wpAny_pure (wpAny_throw ?_))
  exact hE _ _ (((Heap.SameBut.update ..).extBut.push _).push _) ⟨_, Heap.get?_push_size _ rfl, rfl⟩
/-- what the keys' iterator draws -/
theorem keysDraw (hh : A.handled = none) (it d : Addr) {ep : Nat} {od : Obj} {es : Array DictEntry} (hdd : od.data = .dict es ep) :
    Draws prog w A it [it, d] es.size (fun i v => ∃ en, es[i]? = some en ∧ v = en.key) (fun i h => h.IsKeyIter it d i es.size ep ∧ h.get? d = some od ∧ d ≠ it) where
  live := fun _ _ st => let ⟨o, ho, _⟩ := st.1; ⟨o, ho⟩
  frame := fun _ _ _ st hk => ⟨st.1.at fun o e => hk it (by simp) o e, hk d (by simp) _ st.2.1, st.2.2⟩
  item := fun i s Q E hi st hQ => nextKey_item st.1 st.2.1 hdd rfl (en := es[i]) (by simp [hi]) fun h' hit' hs' => hQ _ h' s.toks ⟨_, by simp [hi], rfl⟩ ⟨hit', (hs'.2 d st.2.2).trans st.2.1, st.2.2⟩ hs'
  done := fun s Q E st hE => nextKey_end hh st.1 st.2.1 hdd rfl (Nat.le_refl _) hE
end
theorem beginsKeys {d : Addr} {o : Obj} {es : Array DictEntry} {ep : Nat} (hd : (d == sysModules) = false) (hc : o.ExactDict) (hdat : o.data = .dict es ep) :
    Begins (.ref d) { cls := .type "dict_keyiterator", data := .fields #[.ref d, .int 0 0, .int es.size 0, .int ep 0] } (fun h => h.get? d = some o) where
  iter := fun prog w A E s Q ho h => iter_keys hd ho hc hdat h
  keeps := fun h h' x hk => hk d o x
  free := rfl
set_option maxHeartbeats 4000000 in
theorem meets_enumerate_1 {v : Value} {o : Obj} {H : Heap → Prop} (B : Begins v o H) :
    Meets (Builtin.«enumerate.__new__» ⟨[.type "enumerate", v], []⟩) (fun _ R s => H s.heap ∧
      R (.ok (.ret (.ref (s.heap.push o).objs.size))) { s with heap := (s.heap.push o).push { cls := .type "enumerate", data := .fields #[.none, .bool false, .ref s.heap.objs.size, rawInt 0, .none, .none] } }) :=
  .of_wp fun prog w A R s h => by
    obtain ⟨hp, g, d, tk, os⟩ := s; obtain ⟨h1, h⟩ := h
    have hsub := sub_enumerate
    have q1 : ∀ {A' : Around} {E : Value → Shared → Prop} {Q : Value → Shared → Prop}, Q (.ref hp.objs.size) ⟨hp.push o, g, d, tk, os⟩ → wpAny (model prog w) A' (pyIter v) Q E ⟨hp, g, d, tk, os⟩ :=
      fun q => B.iter prog w _ _ ⟨hp, g, d, tk, os⟩ _ h1 q
    wp_walk using q1
    refine wpAny_stack_any fun st => wpAny_pure ?_
    split
    · rename_i c _ _ _ _ _
      cases (c == Value.type "enumerate")
      · wp_walk using q1
        exact ⟨_, rfl, h⟩
      · wp_walk using q1
        exact ⟨_, rfl, h⟩
    · wp_walk using q1
      exact ⟨_, rfl, h⟩
theorem enum_begins1 {prog : Program} {w : World} {A : Around} {E : Value → Shared → Prop} {s : Shared} {v : Value} {o : Obj} {H : Heap → Prop} {Q : Value → Shared → Prop} (B : Begins v o H) (h1 : H s.heap)
    (h : ∀ h', IsEnum h' (s.heap.objs.size + 1) s.heap.objs.size 0 .none → h'.get? s.heap.objs.size = some o → h'.objs.size = s.heap.objs.size + 2 →
      (∀ b o, s.heap.get? b = some o → h'.get? b = some o) → Q (.ref (s.heap.objs.size + 1)) { s with heap := h' }) :
    wpAny (model prog w) A (call (.type "enumerate") [v]) Q E s := by
  refine callType_new F.called_enumerate (by decide) (F.typeCall_enumerate_1 _) (F.newCall_enumerate_1 _) (fun obj => F.args_object_init_2 obj _) F.entry_enumerate_new (meets_enumerate_1 B) ⟨h1, ?_⟩
  have hz : (s.heap.push o).objs.size = s.heap.objs.size + 1 := Heap.size_push ..
  show _ ∧ _
  rw [hz]
  have he : IsEnum ((s.heap.push o).push { cls := .type "enumerate", data := .fields #[.none, .bool false, .ref s.heap.objs.size, rawInt 0, .none, .none] }) (s.heap.objs.size + 1) s.heap.objs.size 0 .none := by
    have := Heap.get?_push_size (s.heap.push o) (o := { cls := .type "enumerate", data := .fields #[.none, .bool false, .ref s.heap.objs.size, rawInt 0, .none, .none] }) rfl
    rw [hz] at this; exact this
  refine ⟨⟨_, he, rfl⟩, h _ he (Heap.get?_push_of_some _ (Heap.get?_push_size _ B.free)) (by rw [Heap.size_push, hz]) fun b o x => Heap.get?_push_of_some _ (Heap.get?_push_of_some _ x)⟩
/-! as a rule of the hand layer -/
def Itek (d : Addr) (o : Obj) (kvs : List (Key × V)) : It :=
  ⟨fun i H => H d = some (.frz o (.dK kvs)) ∧ i < kvs.length, fun i H v H' => ∃ T k x, v = .ref T ∧ H T = none ∧ H' = upd H T (.tup [.int (i : Nat), kV k]) ∧ kvs[i]? = some (k, x), fun i H => H d = some (.frz o (.dK kvs)) ∧ kvs.length ≤ i⟩
def iEnumD (ta : TA) : TI := fun σ H R => ta σ H fun vs H1 => ∃ d o kvs, vs = [.ref d] ∧ H1 d = some (.frz o (.dK kvs)) ∧ R (Itek d o kvs) H1
theorem walk_enumK {d : Addr} {o : Obj} {kvs : List (Key × V)} : Walk (Itek d o kvs) kvs.length (fun H => H d = some (.frz o (.dK kvs)))
    (fun i H v H' => ∃ T k x, v = .ref T ∧ H T = none ∧ H' = upd H T (.tup [.int (i : Nat), kV k]) ∧ kvs[i]? = some (k, x)) :=
  ⟨fun _ _ hi q => ⟨q, hi⟩, fun _ q => ⟨q, Nat.le_refl _⟩, fun _ _ _ _ _ _ y => y⟩
theorem turn_enumD {P : Program} {w : World} {K : PySem.W.Frag} {elts : List Expr} {kk : Nat} {tpos : Pos} {d e it : Addr} {o : Obj} {es : Array DictEntry} {ep : Nat} {kvs : List (Key × V)} (hod : o.data = .dict es ep) (hn : es.size = kvs.length) :
    Turn P w K (.Tuple elts kk tpos) (Itek d o kvs) [e, it] e (fun i h => (∃ old, IsEnum h e it ((i : Nat) : Int) old) ∧ h.IsKeyIter it d i es.size ep ∧ e ≠ it) where
  mem := by simp
  obj := fun i h st b hb => by
    obtain ⟨⟨old, he⟩, ⟨ob, ho, hc, hd⟩, _⟩ := st
    have e' : b = e ∨ b = it := by simpa using hb
    rcases e' with z | z
    · rw [z]; exact ⟨_, he, fun v q => nomatch q⟩
    · rw [z]; exact ⟨ob, ho, fun v q => by rw [hd] at q; cases q⟩
  keep := fun i h h' st k => let ⟨⟨old, he⟩, hi, hne⟩ := st; ⟨⟨old, k e (by simp) _ he⟩, hi.at fun ob q => k it (by simp) ob q, hne⟩
  item := by
    intro X hP hw hK hc i pins s σ H E I hf st hg
    subst hP hw hK
    obtain ⟨⟨old, he⟩, hit, hne⟩ := st
    obtain ⟨hd, hi⟩ := hg
    have fe := (hf e (by simp)).1
    have fi := (hf it (by simp)).1
    have hdi : d ≠ it := fun z => by rw [z, fi] at hd; cases hd
    have hde : e ≠ d := fun z => by rw [← z, fe] at hd; cases hd
    obtain ⟨hs, hgd, hx, es', ep', vs, hdt, hsz, kv, hm⟩ := I.frzK hd
    obtain ⟨rfl, rfl⟩ := dict_ep hod hdt
    obtain ⟨⟨k, v⟩, hkv⟩ : ∃ p, kvs[i]? = some p := ⟨kvs[i], List.getElem?_eq_getElem hi⟩
    obtain ⟨u, hu, ru⟩ := kv_get kv hkv
    have hel : e < s.heap.objs.size := Heap.lt_size he
    have hil : it < s.heap.objs.size := by obtain ⟨_, q, _⟩ := hit; exact Heap.lt_size q
    refine wpAny_pyNext_enum_itemD (keysDraw (A := X.A.in1) (I.ok.hd hc) it d hdt) he ⟨hit, hgd, hdi⟩ (by rw [hn]; exact hi) hne (by simp [hne, hde]) fun x h' tk hx' ho st' hT hszz hk => ?_
    obtain ⟨en, hen, rfl⟩ := hx'
    have hkey : RelV (kV k) en.key := by
      obtain ⟨od2, es2, hod2, hcd2, hdd2, hk2, hp2, hn2⟩ := id hm
      rw [hgd] at hod2
      cases hod2
      obtain ⟨rfl, _⟩ := dict_ep hdt hdd2
      have hlt : i < es2.size := by rw [hn]; exact hi
      have he2 : es2[i] = en := by
        rw [Array.getElem?_eq_getElem hlt] at hen
        exact Option.some.inj hen
      have q := (hp2.get? (e := es2[i]) (by simp [hlt]) hu).1
      rw [he2] at q
      exact relV_key (show keyIs k en.key = true from q)
    refine ⟨_, rfl, wpAny_letOwnedTupleGo_enum (s := { s with heap := h', toks := tk + 1 }) ho fun h'' he' sb => ?_⟩
    have hT2 : h''.get? s.heap.objs.size = some { cls := .type "tuple", data := .seq #[.int i tk, en.key] } := (sb.2 _ (Nat.ne_of_gt hel)).trans hT
    have new : ObjOk X.prog X.w (upd H s.heap.objs.size (.tup [.int (i : Nat), kV k])) h'' s.heap.objs.size (.tup [.int (i : Nat), kV k]) :=
      ⟨by show 2 ≤ sizeLine; decide, [.int i tk, en.key], .cons ⟨_, rfl⟩ (.cons hkey .nil), ⟨_, hT2, rfl, _, rfl⟩⟩
    have I1 : Inv X pins σ (upd H s.heap.objs.size (.tup [.int (i : Nat), kV k])) { s with heap := h'', toks := tk + 1 } :=
      I.turnedNew (ch := [e, it]) (fun b ob hb q => (sb.2 b (fun z => hb (by simp [z]))).trans (hk b ob (fun z => hb (by simp [z])) (fun z => hb (by simp [z])) q)) hf (Nat.le_refl _) new
    refine ⟨.ref s.heap.objs.size, _, I1, rfl, ⟨_, k, v, rfl, I.hok.fresh (Nat.le_refl _), rfl, hkv⟩, ⟨⟨en.key, ?_⟩, st'.1.at fun ob q => (sb.2 it (Ne.symm hne)).trans q, hne⟩, fun b hb => ?_⟩
    · have e1 : ((i + 1 : Nat) : Int) = (i : Int) + 1 := by omega
      rw [e1]; exact he'
    · have hb' : b < s.heap.objs.size := by
        have e' : b = e ∨ b = it := by simpa using hb
        rcases e' with z | z
        · rw [z]; exact hel
        · rw [z]; exact hil
      rw [upd_ne (Nat.ne_of_lt hb')]
      exact (hf b hb).1
  done := by
    intro X hP hw hK hc i pins s σ H E I hf st hg
    subst hP hw hK
    obtain ⟨⟨old, he⟩, hit, hne⟩ := st
    obtain ⟨hd, hi⟩ := hg
    obtain ⟨f0, f1, f2, f3, f4, f5⟩ := hf it (by simp)
    have hdi : d ≠ it := fun z => by rw [z, f0] at hd; cases hd
    obtain ⟨hs, hgd, hx, es', ep', vs, hdt, hsz, kv, hm⟩ := I.frzK hd
    obtain ⟨rfl, rfl⟩ := dict_ep hod hdt
    have hT : s.TypeIs (.ref e) "enumerate" := ⟨_, he, rfl⟩
    unfold pyNext
    refine wpAny_bind (wpAny_attempt (wpAny_callSpecial?_slot (name := Str.ofString "__next__") hT F.slot_enumerate_next (wpAny_call_entry F.slot_enumerate_next hT F.entry_enumerate_next ?_ (F.args_enumerate_next_1 _))))
    show wpAny _ _ (field (.ref e) 2 >>= _) _ _ _
    refine wpAny_bind (wpAny_field he rfl (x := .ref it) rfl ?_)
    refine wpAny_bind (nextKey_end (I.ok.hd hc) hit hgd hdt rfl (by rw [hn]; exact hi) fun h' x he' hx' => ?_)
    obtain ⟨ob, ho, hcl⟩ := hx'
    refine wpAny_bind (wpAny_isInstance (T := "StopIteration") (b := true) ⟨ob, ho, hcl⟩ isSubtype_stop ?_)
    exact wpAny_pure ⟨rfl, I.turned (t' := s.toks) (fun b ob hb q => he' b ob hb q) f0 f1 f3 f4 f5⟩
  self := fun A i s Q E st h => let ⟨⟨_, he⟩, _⟩ := st; wpAny_pyIter_enum he h
theorem pi_enumD {X : Cx} {e : Expr} {ta : TA} {p pos tpos : Pos} {elts : List Expr} {kk : Nat} (hg : Gl X "enumerate") (hm : X.mg "enumerate" = none) (ha : PA X [e] ta) (hs : starEach [e] X.env = [(false, eval e X.env)] := by rfl) :
    PI X (.Tuple elts kk tpos) (.Call (.Name "enumerate" p) [e] [] pos) (iEnumD ta) := by
  refine ⟨fun pins s σ H R I h => ?_⟩
  refine Call_ (ld_blt I hg hm boot_enumerate (PyProof.Rows.callWith_type1 (thn (ha.run pos pins s σ H _ I h) fun us s1 ⟨vs, H1, I1, r1, q1⟩ => ?_) hs rfl))
  obtain ⟨d, o, kvs, ex, hd, q⟩ := q1
  subst ex
  cases r1 with
  | cons r rr =>
    cases rr
    cases r
    obtain ⟨hs', hgd, hx, es, ep, vs, hdt, hsz, kv, hm'⟩ := I1.frzK hd
    refine enum_begins1 (beginsKeys hs' hx hdt) hgd fun h' he hit hsz' hk => wpAny_pyIter_enum he ?_
    have I2 : Inv X pins σ H1 { s1 with heap := h' } := I1.kept (t' := s1.toks) hk
    refine ⟨s1.heap.objs.size + 1, [s1.heap.objs.size + 1, s1.heap.objs.size], _, _, H1, rfl, I2, turn_enumD (e := s1.heap.objs.size + 1) (it := s1.heap.objs.size) hdt (by rw [hsz, Paired.length kv]), ⟨⟨.none, he⟩, ⟨_, hit, rfl, rfl⟩, Nat.succ_ne_self _⟩, fun b hb => ?_, q⟩
    have e' : b = s1.heap.objs.size + 1 ∨ b = s1.heap.objs.size := by simpa using hb
    have hle : s1.heap.objs.size ≤ b := by
      rcases e' with z | z
      · rw [z]; exact Nat.le_add_right _ _
      · rw [z]; exact Nat.le_refl _
    exact I1.fpOk hle (I1.hok.fresh hle)
end Gc

namespace Gc
open PySem L2 Evl
/-! ### what may be read stays: locks come and go, new things come -/
def Er (H H' : Hp) : Prop := ∀ a o, H a = some o → H' a = some o ∨ ∃ kvs : List (Key × V), (o = .dK kvs ∨ ∃ od, o = .frz od (.dK kvs)) ∧ Rd H' a (.dK kvs)
theorem Er.refl (H : Hp) : Er H H := fun _ _ h => .inl h
theorem Er.of {H H' : Hp} (e : Ex H H') : Er H H' := fun a o h => .inl (e a o h)
theorem Er.rd {H H' : Hp} (e : Er H H') {a : Addr} {kvs : List (Key × V)} (h : Rd H a (.dK kvs)) : Rd H' a (.dK kvs) := by
  rcases h with h | ⟨od, h⟩
  · rcases e a _ h with q | ⟨kk, q1, q2⟩
    · exact .inl q
    · rcases q1 with q1 | ⟨_, q1⟩
      · cases q1; exact q2
      · cases q1
  · rcases e a _ h with q | ⟨kk, q1, q2⟩
    · exact .inr ⟨_, q⟩
    · rcases q1 with q1 | ⟨_, q1⟩
      · cases q1
      · cases q1; exact q2
theorem Er.trans {H H1 H2 : Hp} (e : Er H H1) (f : Er H1 H2) : Er H H2 := fun a o h => by
  rcases e a o h with q | ⟨kvs, q1, q2⟩
  · exact f a o q
  · exact .inr ⟨kvs, q1, f.rd q2⟩
theorem Er.tup {H H' : Hp} (e : Er H H') {a : Addr} {xs : List V} (h : H a = some (.tup xs)) : H' a = some (.tup xs) := by
  rcases e a _ h with q | ⟨kk, q1, q2⟩
  · exact q
  · rcases q1 with q1 | ⟨_, q1⟩ <;> cases q1
theorem Er.lst {H H' : Hp} (e : Er H H') {a : Addr} {xs : List V} (h : H a = some (.lst xs)) : H' a = some (.lst xs) := by
  rcases e a _ h with q | ⟨kk, q1, q2⟩
  · exact q
  · rcases q1 with q1 | ⟨_, q1⟩ <;> cases q1
theorem Er.ftup {H H' : Hp} (e : Er H H') {a : Addr} {od} {xs : List V} (h : H a = some (.frz od (.tup xs))) : H' a = some (.frz od (.tup xs)) := by
  rcases e a _ h with q | ⟨kk, q1, q2⟩
  · exact q
  · rcases q1 with q1 | ⟨_, q1⟩ <;> cases q1
theorem Er.flst {H H' : Hp} (e : Er H H') {a : Addr} {od} {xs : List V} (h : H a = some (.frz od (.lst xs))) : H' a = some (.frz od (.lst xs)) := by
  rcases e a _ h with q | ⟨kk, q1, q2⟩
  · exact q
  · rcases q1 with q1 | ⟨_, q1⟩ <;> cases q1
theorem Er.sqT {K : PySem.W.Frag} {H H' : Hp} (e : Er H H') {a : Addr} {xs : List V} (h : SqT K H a xs) : SqT K H' a xs := by
  rcases h with (h | ⟨o, h⟩) | h
  · exact .inl (.inl (e.tup h))
  · exact .inl (.inr ⟨o, e.ftup h⟩)
  · exact .inr h
theorem Er.sqL {K : PySem.W.Frag} {H H' : Hp} (e : Er H H') {a : Addr} {xs : List V} (h : SqL K H a xs) : SqL K H' a xs := by
  rcases h with (h | ⟨o, h⟩) | h
  · exact .inl (.inl (e.lst h))
  · exact .inl (.inr ⟨o, e.flst h⟩)
  · exact .inr h
theorem Er.lock {H : Hp} {d : Addr} {od : Obj} {kvs : List (Key × V)} (h : H d = some (.dK kvs)) : Er H (upd H d (.frz od (.dK kvs))) := fun a o q => by
  by_cases e : a = d
  · subst e
    rw [h] at q
    cases q
    exact .inr ⟨kvs, .inl rfl, .inr ⟨od, upd_same⟩⟩
  · exact .inl (by rw [upd_ne e]; exact q)
theorem Er.unlock {H : Hp} {d : Addr} {od : Obj} {kvs : List (Key × V)} (h : H d = some (.frz od (.dK kvs))) : Er H (upd H d (.dK kvs)) := fun a o q => by
  by_cases e : a = d
  · subst e
    rw [h] at q
    cases q
    exact .inr ⟨kvs, .inr ⟨od, rfl⟩, .inl upd_same⟩
  · exact .inl (by rw [upd_ne e]; exact q)
theorem lock_ex {H H' : Hp} {d : Addr} {od : Obj} {u : HO} (e : Ex (upd H d (.frz od u)) H') (h : H d = some u) : Ex H (upd H' d u) := fun a o q => by
  by_cases c : a = d
  · subst c
    rw [h] at q
    cases q
    exact upd_same
  · rw [upd_ne c]
    exact e a o (by rw [upd_ne c]; exact q)
/-- behind a loop over a dict that only made new things -/
theorem unl {H H' : Hp} {d : Addr} {od : Obj} {u : HO} {R : Hp → Prop} (hd : H d = some u) (e : Ex (upd H d (.frz od u)) H') (h : ∀ H2, Ex H H2 → R H2) : H' d = some (.frz od u) ∧ R (upd H' d u) :=
  ⟨e d _ upd_same, h _ (lock_ex e hd)⟩
/-- x's type, whatever it is -/
theorem Er.ty {K : PySem.W.Frag} {H H' : Hp} {x : V} {t : Value} (e : Er H H') (h : TyX K H x t) : TyX K H' x t := by
  cases h with
  | base b =>
    cases b with
    | non => exact .base .non
    | bl y => exact .base (.bl y)
    | int y => exact .base (.int y)
    | str y => exact .base (.str y)
    | flt y => exact .base (.flt y)
    | lst q => exact .base (.lst (e.lst q))
    | @frz a ob xs q => exact .base (.frz (e.flst q))
    | tup q => exact .base (.tup (e.tup q))
    | dK q => exact tyx_d (e.rd (.inl q))
    | dT q =>
      rcases e _ _ q with q | ⟨kk, q1, q2⟩
      · exact .base (.dT q)
      · rcases q1 with q1 | ⟨_, q1⟩ <;> cases q1
    | ins q c a n k m =>
      rcases e _ _ q with q | ⟨kk, q1, q2⟩
      · exact .base (.ins q c a n k m)
      · rcases q1 with q1 | ⟨_, q1⟩ <;> cases q1
  | byt b => exact .byt b
  | set q =>
    rcases e _ _ q with q | ⟨kk, q1, q2⟩
    · exact .set q
    · rcases q1 with q1 | ⟨_, q1⟩ <;> cases q1
  | kList q c => exact .kList q c
  | kTuple q c => exact .kTuple q c
  | kDict q c => exact .kDict q c
  | fTuple q => exact .fTuple (e.ftup q)
  | fDict q => exact tyx_d (e.rd (.inr ⟨_, q⟩))
theorem Er.whole {K : PySem.W.Frag} {H H' : Hp} {x : V} {b : Bool} (e : Er H H') (h : WholeJ K H x b) : WholeJ K H' x b := by
  obtain ⟨t, b1, b2, h1, h2⟩ := h
  exact ⟨t, b1, b2, e.ty h1, h2⟩
/-- len of a dict, locked or not -/
theorem call_lenDR {X : Cx} : CallR X (.builtin "len") (fun xs H Q => ∃ a kvs, xs = [V.ref a] ∧ Rd H a (.dK kvs) ∧ Q (.int (kvs : List (Key × V)).length) H) := by
  intro pins s σ H xs us Q I r h
  obtain ⟨a, kvs, rfl, ha, q⟩ := h
  obtain ⟨u, rfl, ru⟩ := vals1 r
  cases ru
  exact d_len I ha fun t s' I' => ⟨.int kvs.length, H, I', ⟨t, rfl⟩, q⟩
/-- d[k] of a dict by keys, locked or not -/
theorem dget_k {H : Hp} {a : Addr} {kvs : List (Key × V)} {k : Key} {v : V} (e : Rd H a (.dK kvs)) (h : valV kvs k = some v) : DGet H a (kV k) (some v) := .inl ⟨kvs, k, e, rfl, h.symm⟩
theorem dget_o {H : Hp} {a : Addr} {kvs : List (Key × V)} (k : Key) (e : Rd H a (.dK kvs)) : DGet H a (kV k) (valV kvs k) := .inl ⟨kvs, k, e, rfl, rfl⟩
/-! ### pages that are built by putting -/
def putAll (ps : List (Key × V)) : List (Key × V) := ps.foldl (fun acc p => putK acc p.1 p.2) []
theorem putAll_snoc (ps : List (Key × V)) (p : Key × V) : putAll (ps ++ [p]) = putK (putAll ps) p.1 p.2 := by unfold putAll; rw [List.foldl_append]; rfl
theorem nd_put {κ : Type} [DecidableEq κ] {kvs : List (κ × V)} {k : κ} (v : V) (hn : (kvs.map (·.1)).Nodup) : ((putK kvs k v).map (·.1)).Nodup := by
  unfold putK
  split
  · rw [List.map_map]
    have e : ((fun x : κ × V => x.1) ∘ fun kv : κ × V => if kv.1 = k then (kv.1, v) else kv) = fun x => x.1 := by
      funext x
      show (if x.1 = k then (x.1, v) else x).1 = x.1
      split <;> rfl
    rw [e]
    exact hn
  · rename_i h
    have : valV kvs k = none := by
      have q := valV_any k kvs
      cases z : valV kvs k with
      | none => rfl
      | some y => rw [z] at q; exact absurd q h
    have q := nd_putK v hn this
    unfold putK at q
    rw [if_neg h] at q
    exact q
theorem snoc_ind {α : Type} {P : List α → Prop} (h0 : P []) (h1 : ∀ l a, P l → P (l ++ [a])) : ∀ l, P l := by
  intro l
  have : ∀ n (l : List α), l.length = n → P l := by
    intro n
    induction n with
    | zero => intro l e; rw [List.eq_nil_of_length_eq_zero e]; exact h0
    | succ n ih =>
      intro l e
      have hl : l ≠ [] := by intro z; rw [z] at e; cases e
      rw [← List.dropLast_concat_getLast hl]
      exact h1 _ _ (ih _ (by rw [List.length_dropLast]; omega))
  exact this _ l rfl
theorem putAll_nd : ∀ ps : List (Key × V), ((putAll ps).map (·.1)).Nodup := by
  refine snoc_ind List.nodup_nil (fun l a h => ?_)
  rw [putAll_snoc]
  exact nd_put _ h
theorem putAll_len : ∀ ps : List (Key × V), (putAll ps).length ≤ ps.length := by
  refine snoc_ind (Nat.le_refl _) (fun l a h => ?_)
  rw [putAll_snoc, List.length_append]
  have := length_putK (putAll l) a.1 a.2
  show _ ≤ l.length + 1
  omega
theorem putAll_eq : ∀ ps : List (Key × V), (putAll ps).length = ps.length → putAll ps = ps := by
  refine snoc_ind (fun _ => rfl) (fun l a h hl => ?_)
  rw [putAll_snoc] at hl ⊢
  rw [List.length_append] at hl
  have h1 := length_putK (putAll l) a.1 a.2
  have h2 := putAll_len l
  have hl' : (putK (putAll l) a.1 a.2).length = l.length + 1 := hl
  have e := h (by omega)
  rw [e] at hl' ⊢
  unfold putK at hl' ⊢
  split
  · rename_i c
    rw [if_pos c, List.length_map] at hl'
    omega
  · rfl
theorem valV_mem {κ : Type} [DecidableEq κ] {kvs : List (κ × V)} {k : κ} {v : V} (h : valV kvs k = some v) : (k, v) ∈ kvs := by
  unfold valV at h
  cases z : kvs.find? fun kv => decide (kv.1 = k) with
  | none => rw [z] at h; cases h
  | some p =>
    rw [z] at h
    have e1 : p.2 = v := by simpa using h
    have e2 : p.1 = k := of_decide_eq_true (List.find?_some (p := fun kv : κ × V => decide (kv.1 = k)) z)
    rw [← e1, ← e2]
    exact List.mem_of_find?_eq_some z
theorem valV_some {κ : Type} [DecidableEq κ] {kvs : List (κ × V)} {p : κ × V} (h : p ∈ kvs) : ∃ v, valV kvs p.1 = some v := by
  have q := valV_any p.1 kvs
  have : (kvs.any fun kv => decide (kv.1 = p.1)) = true := List.any_eq_true.mpr ⟨p, h, decide_eq_true rfl⟩
  rw [this] at q
  cases z : valV kvs p.1 with
  | none => rw [z] at q; cases q
  | some v => exact ⟨v, rfl⟩
theorem rd_fz {H : Hp} {a : Addr} {o : Obj} {u : HO} (h : H a = some (.frz o u)) : Rd H a u := .inr ⟨o, h⟩
theorem isD_of {H : Hp} {a : Addr} {kvs : List (Key × V)} (h : Rd H a (.dK kvs)) : IsD H a := .inl ⟨kvs, h⟩
/-- a for whose body neither returns nor breaks: its goal is small -/
theorem for_go {J : It} {n : Nat} {G : Hp → Prop} {Y : Nat → Hp → V → Hp → Prop} (w : Walk J n G Y) {g : TG} {tb : TS} {D : Ends} {σ : L2.St} {H : Hp} (Pv : Nat → L2.St → Hp → Prop) (h0 : Pv 0 σ H) (hG : ∀ i σ H, i ≤ n → Pv i σ H → G H)
    (hs : ∀ (R : VK) (B : L2.St → Hp → Prop) i x σ H H', i < n → Pv i σ H → Y i H x H' → g x σ H' fun σ2 H2 => tb ⟨Pv (i + 1), R, B, Pv (i + 1)⟩ σ2 H2) (hd : ∀ σ H, Pv n σ H → D.nx σ H) :
    ∃ W : Nat → Nat → L2.St → Hp → Prop, (∃ m, W 0 m σ H) ∧ ∀ i m σ H, W i m σ H →
      (J.stop i H ∧ D.nx σ H) ∨ (J.go i H ∧ ∃ N : L2.St → Hp → Prop, (∀ σ' H', N σ' H' → ∃ m', m' < m ∧ W (i + 1) m' σ' H') ∧ ∀ x H', J.yld i H x H' → g x σ H' fun σ2 H2 => tb { D with nx := N, ct := N, bk := D.nx } σ2 H2) :=
  for_it w Pv h0 hG (fun i x σ H H' hi hp hy => hs D.rt D.nx i x σ H H' hi hp hy) hd
/-- a cut whose first statement neither returns nor breaks -/
theorem cut_go {t u : TS} {D : Ends} {σ : L2.St} {H : Hp} (Mid : L2.St → Hp → Prop) (h : ∀ (R : VK) (B E : L2.St → Hp → Prop), t ⟨Mid, R, B, E⟩ σ H) (h2 : ∀ σ' H', Mid σ' H' → u D σ' H') : C8.tCut t u D σ H := ⟨Mid, h D.rt D.bk D.ct, h2⟩
theorem er_mut {H H' : Hp} {p : Addr} {o : HO} (e : Er H H') (hp : H p = none) : Er H (upd H' p o) := fun a u q => by
  have c : a ≠ p := fun z => by rw [z, hp] at q; cases q
  rcases e a u q with z | ⟨kk, q1, q2⟩
  · exact .inl (by rw [upd_ne c]; exact z)
  · exact .inr ⟨kk, q1, q2.elim (fun z => .inl (by rw [upd_ne c]; exact z)) (fun ⟨od, z⟩ => .inr ⟨od, by rw [upd_ne c]; exact z⟩)⟩
/-- a statement with the rest of the program behind a name -/
theorem op_go {t u : TS} {D : Ends} {σ : L2.St} {H : Hp} (h : ∀ (N : L2.St → Hp → Prop) (R : VK) (B E : L2.St → Hp → Prop), (∀ σ' H', u D σ' H' → N σ' H') → (∀ v H', D.rt v H' → R v H') → t ⟨N, R, B, E⟩ σ H) : C8.tCut t u D σ H := ⟨u D, h _ D.rt D.bk D.ct (fun _ _ q => q) (fun _ _ q => q), fun _ _ q => q⟩
/-- the last statement -/
theorem end_go {t : TS} {D : Ends} {σ : L2.St} {H : Hp} (h : ∀ (N : L2.St → Hp → Prop) (R : VK) (B E : L2.St → Hp → Prop), (∀ σ' H', D.nx σ' H' → N σ' H') → (∀ v H', D.rt v H' → R v H') → t ⟨N, R, B, E⟩ σ H) : t D σ H := h _ _ D.bk D.ct (fun _ _ q => q) (fun _ _ q => q)
/-- types and tuples stay -/
structure Et (K : PySem.W.Frag) (H H' : Hp) : Prop where
  tp : ∀ a xs, SqT K H a xs → SqT K H' a xs
  ty : ∀ x t, TyX K H x t → TyX K H' x t
theorem Et.refl {K : PySem.W.Frag} (H : Hp) : Et K H H := ⟨fun _ _ h => h, fun _ _ h => h⟩
theorem Et.trans {K : PySem.W.Frag} {H H1 H2 : Hp} (e : Et K H H1) (f : Et K H1 H2) : Et K H H2 := ⟨fun a xs h => f.tp a xs (e.tp a xs h), fun x t h => f.ty x t (e.ty x t h)⟩
theorem Er.et {K : PySem.W.Frag} {H H' : Hp} (e : Er H H') : Et K H H' := ⟨fun _ _ h => e.sqT h, fun _ _ h => e.ty h⟩
theorem Et.of {K : PySem.W.Frag} {H H' : Hp} (e : Ex H H') : Et K H H' := (Er.of e).et
theorem Et.whole {K : PySem.W.Frag} {H H' : Hp} {x : V} {b : Bool} (e : Et K H H') (h : WholeJ K H x b) : WholeJ K H' x b := by
  obtain ⟨t, b1, b2, h1, h2⟩ := h
  exact ⟨t, b1, b2, e.ty _ _ h1, h2⟩
theorem et_mut {K : PySem.W.Frag} {H : Hp} {p : Addr} {o o' : HO} (h : H p = some o) (hk : (∃ xs ys, o = .lst xs ∧ o' = .lst ys) ∨ ∃ xs ys : List (Key × V), o = .dK xs ∧ o' = .dK ys) : Et K H (upd H p o') := by
  have nt : ∀ a xs, H a = some (.tup xs) → a ≠ p := fun a xs q z => by
    subst z
    rw [h] at q
    rcases hk with ⟨_, _, rfl, _⟩ | ⟨_, _, rfl, _⟩ <;> cases q
  have nf : ∀ a od u, H a = some (.frz od u) → a ≠ p := fun a od xs q z => by
    subst z
    rw [h] at q
    rcases hk with ⟨_, _, rfl, _⟩ | ⟨_, _, rfl, _⟩ <;> cases q
  refine ⟨fun a xs q => ?_, fun x t q => ?_⟩
  · rcases q with (q | ⟨od, q⟩) | q
    · exact .inl (.inl (by rw [upd_ne (nt _ _ q)]; exact q))
    · exact .inl (.inr ⟨od, by rw [upd_ne (nf _ _ _ q)]; exact q⟩)
    · exact .inr q
  · cases q with
    | base b =>
      cases b with
      | non => exact .base .non
      | bl y => exact .base (.bl y)
      | int y => exact .base (.int y)
      | str y => exact .base (.str y)
      | flt y => exact .base (.flt y)
      | @lst a xs q =>
        by_cases c : a = p
        · subst c
          rw [h] at q
          rcases hk with ⟨_, _, rfl, rfl⟩ | ⟨_, _, rfl, _⟩
          · exact .base (.lst upd_same)
          · cases q
        · exact .base (.lst (by rw [upd_ne c]; exact q))
      | frz q => exact .base (.frz (by rw [upd_ne (nf _ _ _ q)]; exact q))
      | tup q => exact .base (.tup (by rw [upd_ne (nt _ _ q)]; exact q))
      | @dK a xs q =>
        by_cases c : a = p
        · subst c
          rw [h] at q
          rcases hk with ⟨_, _, rfl, rfl⟩ | ⟨_, _, rfl, rfl⟩
          · cases q
          · exact .base (.dK upd_same)
        · exact .base (.dK (by rw [upd_ne c]; exact q))
      | @dT a xs q =>
        have c : a ≠ p := fun c => by subst c; rw [h] at q; rcases hk with ⟨_, _, rfl, _⟩ | ⟨_, _, rfl, _⟩ <;> cases q
        exact .base (.dT (by rw [upd_ne c]; exact q))
      | @ins a C dx fs q c1 a1 n1 k1 m1 =>
        have c : a ≠ p := fun c => by subst c; rw [h] at q; rcases hk with ⟨_, _, rfl, _⟩ | ⟨_, _, rfl, _⟩ <;> cases q
        exact .base (.ins (by rw [upd_ne c]; exact q) c1 a1 n1 k1 m1)
    | byt b => exact .byt b
    | @set a S n q =>
      have c : a ≠ p := fun c => by subst c; rw [h] at q; rcases hk with ⟨_, _, rfl, _⟩ | ⟨_, _, rfl, _⟩ <;> cases q
      exact .set (by rw [upd_ne c]; exact q)
    | kList q c => exact .kList q c
    | kTuple q c => exact .kTuple q c
    | kDict q c => exact .kDict q c
    | fTuple q => exact .fTuple (by rw [upd_ne (nf _ _ _ q)]; exact q)
    | fDict q => exact .fDict (by rw [upd_ne (nf _ _ _ q)]; exact q)
theorem Et.lst {K : PySem.W.Frag} {H : Hp} {p : Addr} {xs ys : List V} (h : H p = some (.lst xs)) : Et K H (upd H p (.lst ys)) := et_mut h (.inl ⟨_, _, rfl, rfl⟩)
theorem Et.dK {K : PySem.W.Frag} {H : Hp} {p : Addr} {xs ys : List (Key × V)} (h : H p = some (.dK xs)) : Et K H (upd H p (.dK ys)) := et_mut h (.inr ⟨_, _, rfl, rfl⟩)
/-- a loop over a dict -/
theorem lock_go {t : TS} {D : Ends} {σ : L2.St} {H : Hp} {d : Addr} {kvs : List (Key × V)} (hd : H d = some (.dK kvs))
    (h : ∀ od H1, H1 d = some (.frz od (.dK kvs)) → Er H H1 → (∀ H', Ex H1 H' → Ex H (upd H' d (.dK kvs))) → (∀ a, a ≠ d → H1 a = H a) →
      t ⟨fun σ' H' => H' d = some (.frz od (.dK kvs)) ∧ D.nx σ' (upd H' d (.dK kvs)), fun v H' => H' d = some (.frz od (.dK kvs)) ∧ D.rt v (upd H' d (.dK kvs)), fun σ' H' => H' d = some (.frz od (.dK kvs)) ∧ D.bk σ' (upd H' d (.dK kvs)), fun σ' H' => H' d = some (.frz od (.dK kvs)) ∧ D.ct σ' (upd H' d (.dK kvs))⟩ σ H1) :
    tLock t D σ H := ⟨d, _, hd, trivial, fun od => h od _ upd_same (Er.lock hd) (fun H' e => lock_ex e hd) (fun a c => upd_ne c)⟩
end Gc
/- reading facts along Ex and Er -/
local macro_rules | `(tactic| walk_at "gc_er") => `(tactic| first
  | assumption
  | exact Gc.Er.refl _
  | exact Gc.Er.of (by assumption)
  | (refine' Gc.Er.trans ?h (by assumption); (case h => walk_at "gc_er"))
  | (refine' Gc.Er.trans ?h (Gc.Er.of (by assumption)); (case h => walk_at "gc_er")))
local macro_rules | `(tactic| walk_at "gc_ra") => `(tactic| first
  | assumption
  | exact Evl.st_of (by assumption)
  | exact Evl.sq_of (by assumption)
  | exact L2.Rd.of (by assumption)
  | exact Gc.rd_fz (by assumption)
  | (refine' Gc.Er.sqT (by assumption) ?h; (case h => walk_at "gc_ra"))
  | (refine' Gc.Er.sqL (by assumption) ?h; (case h => walk_at "gc_ra"))
  | (refine' Gc.Er.rd (by assumption) ?h; (case h => walk_at "gc_ra"))
  | (refine' Gc.Er.sqT (Gc.Er.of (by assumption)) ?h; (case h => walk_at "gc_ra"))
  | (refine' Gc.Er.sqL (Gc.Er.of (by assumption)) ?h; (case h => walk_at "gc_ra"))
  | (refine' Gc.Er.rd (Gc.Er.of (by assumption)) ?h; (case h => walk_at "gc_ra")))
local macro_rules | `(tactic| walk_at "gc_et") => `(tactic| first
  | assumption
  | exact Gc.Et.refl _
  | exact Gc.Et.of (by assumption)
  | exact Gc.Er.et (by assumption)
  | exact Gc.Et.lst (by assumption)
  | exact Gc.Et.dK (by assumption)
  | (refine' Gc.Et.trans ?h (by assumption); (case h => walk_at "gc_et"))
  | (refine' Gc.Et.trans ?h (Gc.Et.of (by assumption)); (case h => walk_at "gc_et"))
  | (refine' Gc.Et.trans ?h (Gc.Er.et (by assumption)); (case h => walk_at "gc_et")))

namespace Gc
open PySem L2 Evl
def LIM : Int := 10 ^ 60
inductive NumJ (K : PySem.W.Frag) (H : Hp) : V → Option Int → Prop
  | int (i : Int) : NumJ K H (.int i) (some i)
  | odd {x : V} (h : WholeJ K H x false) : NumJ K H x none
def goodN : Option Int → Bool
  | some i => decide (0 ≤ i) && decide (i < LIM)
  | none => false
def pairB : Option Int → Option Int → Bool
  | some i, some j => goodN (some i) && (goodN (some j) && decide (0 < i + j))
  | _, _ => false
theorem NumJ.et {K : PySem.W.Frag} {H H' : Hp} (e : Et K H H') {x : V} {o : Option Int} (h : NumJ K H x o) : NumJ K H' x o := by
  cases h with
  | int i => exact .int i
  | odd h => exact .odd (e.whole h)
/-- what is_share answers of v -/
inductive ShJ (K : PySem.W.Frag) (H : Hp) : V → Bool → Prop
  | int (i : Int) : ShJ K H (.int i) false
  | oth {a : Addr} {t : String} (h : TyX K H (.ref a) (.type t)) (k : PySem.W.kitOne K (.type t) (.type "tuple") = some false) : ShJ K H (.ref a) false
  | len {a : Addr} {xs : List V} (h : SqT K H a xs) (n : ¬ xs.length = 2) : ShJ K H (.ref a) false
  | two {a : Addr} {x y : V} {o p : Option Int} (h : SqT K H a [x, y]) (hx : NumJ K H x o) (hy : NumJ K H y p) : ShJ K H (.ref a) (pairB o p)
theorem ShJ.et {K : PySem.W.Frag} {H H' : Hp} (e : Et K H H') {v : V} {b : Bool} (h : ShJ K H v b) : ShJ K H' v b := by
  cases h with
  | int i => exact .int i
  | oth h k => exact .oth (e.ty _ _ h) k
  | len h n => exact .len (e.tp _ _ h) n
  | two h hx hy => exact .two (e.tp _ _ h) (hx.et e) (hy.et e)
theorem ShJ.odd {K : PySem.W.Frag} {H : Hp} {a : Addr} {x y : V} {o p : Option Int} (h : SqT K H a [x, y]) (hx : NumJ K H x o) (hy : NumJ K H y p) (e : pairB o p = false) : ShJ K H (.ref a) false := e ▸ .two h hx hy
theorem ShJ.eqj {K : PySem.W.Frag} {H : Hp} {v : V} {b : Bool} (h : ShJ K H v b) : EqJ K H v v true := by
  cases h with
  | int i => exact .inr ⟨.int i, .int i, .int i, .int i, rfl, rfl, by simp [PyData.eqv]⟩
  | oth h k => exact .inl ⟨_, rfl, rfl, rfl⟩
  | len h n => exact .inl ⟨_, rfl, rfl, rfl⟩
  | two h hx hy => exact .inl ⟨_, rfl, rfl, rfl⟩
/-- keys -/
def keyB : Key → Bool
  | .inl _ => false
  | .inr z => nameB z
def keySz : Key → Prop
  | .inl _ => True
  | .inr z => z.length ≤ 100000
/-- a row: the tuple (k, v) -/
def RowAt (K : PySem.W.Frag) (H : Hp) (x : V) (p : Key × V) : Prop := ∃ r, x = .ref r ∧ SqT K H r [kV p.1, p.2]
theorem RowAt.et {K : PySem.W.Frag} {H H' : Hp} (e : Et K H H') {x : V} {p : Key × V} (h : RowAt K H x p) : RowAt K H' x p := by
  obtain ⟨r, h1, h2⟩ := h
  exact ⟨r, h1, e.tp _ _ h2⟩
def RowsAt (K : PySem.W.Frag) (H : Hp) (xs : List V) (ps : List (Key × V)) : Prop := xs.length = ps.length ∧ ∀ (i : Nat) (x : V) (p : Key × V), xs[i]? = some x → ps[i]? = some p → RowAt K H x p
theorem RowsAt.et {K : PySem.W.Frag} {H H' : Hp} (e : Et K H H') {xs : List V} {ps : List (Key × V)} (h : RowsAt K H xs ps) : RowsAt K H' xs ps := ⟨h.1, fun i x p h1 h2 => (h.2 i x p h1 h2).et e⟩
theorem RowsAt.nil {K : PySem.W.Frag} {H : Hp} : RowsAt K H [] [] := ⟨rfl, fun i x p h => by simp at h⟩
theorem RowsAt.snoc {K : PySem.W.Frag} {H : Hp} {xs : List V} {ps : List (Key × V)} {x : V} {p : Key × V} (h : RowsAt K H xs ps) (r : RowAt K H x p) : RowsAt K H (xs ++ [x]) (ps ++ [p]) := by
  refine ⟨by rw [List.length_append, List.length_append, h.1]; rfl, fun i y q h1 h2 => ?_⟩
  by_cases c : i < xs.length
  · rw [List.getElem?_append_left c] at h1
    rw [List.getElem?_append_left (by rw [← h.1]; exact c)] at h2
    exact h.2 i y q h1 h2
  · rw [List.getElem?_append_right (by omega)] at h1
    rw [List.getElem?_append_right (by rw [← h.1]; omega)] at h2
    rw [← h.1] at h2
    have e0 : i - xs.length = 0 := by
      cases z : i - xs.length with
      | zero => rfl
      | succ n => rw [z] at h1; simp at h1
    rw [e0] at h1 h2
    cases h1
    cases h2
    exact r
theorem RowsAt.set {K : PySem.W.Frag} {H : Hp} {xs : List V} {ps : List (Key × V)} {x : V} {p : Key × V} (h : RowsAt K H xs ps) (r : RowAt K H x p) (j : Nat) : RowsAt K H (xs.set j x) (ps.set j p) := by
  refine ⟨by rw [List.length_set, List.length_set, h.1], fun i y q h1 h2 => ?_⟩
  by_cases c : j = i
  · subst c
    rw [List.getElem?_set_self' ] at h1 h2
    cases z1 : xs[j]? with
    | none => rw [z1] at h1; cases h1
    | some a =>
      cases z2 : ps[j]? with
      | none => rw [z2] at h2; cases h2
      | some b =>
        rw [z1] at h1
        rw [z2] at h2
        cases h1
        cases h2
        exact r
  · rw [List.getElem?_set_ne c] at h1 h2
    exact h.2 i y q h1 h2
/-- good rows -/
def AllOk (K : PySem.W.Frag) (H : Hp) (ps : List (Key × V)) : Prop := ∀ p ∈ ps, keyB p.1 = true ∧ ShJ K H p.2 true
/-- one row is odd: its key or its share -/
def OneOdd (K : PySem.W.Frag) (H : Hp) (ps : List (Key × V)) : Prop := ∃ p0 ∈ ps, ∃ b : Bool, ShJ K H p0.2 b ∧ (keyB p0.1 && b) = false ∧ ∀ p ∈ ps, p = p0 ∨ ShJ K H p.2 true
theorem AllOk.et {K : PySem.W.Frag} {H H' : Hp} (e : Et K H H') {ps : List (Key × V)} (h : AllOk K H ps) : AllOk K H' ps := fun p hp => ⟨(h p hp).1, (h p hp).2.et e⟩
theorem OneOdd.et {K : PySem.W.Frag} {H H' : Hp} (e : Et K H H') {ps : List (Key × V)} (h : OneOdd K H ps) : OneOdd K H' ps := by
  obtain ⟨p0, h0, b, h1, h2, h3⟩ := h
  exact ⟨p0, h0, b, h1.et e, h2, fun p hp => (h3 p hp).imp_right fun q => q.et e⟩
/-- what is_page is told of a dict -/
def PageJ (K : PySem.W.Frag) (H : Hp) (kvs : List (Key × V)) (g : Bool) : Prop :=
  (∀ p ∈ kvs, keySz p.1) ∧ kvs.length ≤ 1000 ∧ ∃ f : Key → Bool, (∀ k v, valV kvs k = some v → ShJ K H v (f k)) ∧ g = (decide (((kvs.length : Nat) : Int) ≤ 200) && kvs.all fun p => keyB p.1 && f p.1)
theorem PageJ.et {K : PySem.W.Frag} {H H' : Hp} (e : Et K H H') {kvs : List (Key × V)} {g : Bool} (h : PageJ K H kvs g) : PageJ K H' kvs g := by
  obtain ⟨h1, h2, f, h3, h4⟩ := h
  exact ⟨h1, h2, f, fun k v q => (h3 k v q).et e, h4⟩
theorem pageJ_ok {K : PySem.W.Frag} {H : Hp} {ps : List (Key × V)} (hs : ∀ p ∈ ps, keySz p.1) (hl : ps.length ≤ 1000) (h : AllOk K H ps) : PageJ K H ps (decide (((ps.length : Nat) : Int) ≤ 200)) := by
  refine ⟨hs, hl, fun _ => true, fun k v q => (h _ (valV_mem q)).2, ?_⟩
  have : (ps.all fun p => keyB p.1 && true) = true := List.all_eq_true.mpr fun p hp => by rw [(h p hp).1]; rfl
  rw [this, Bool.and_true]
theorem pageJ_odd {K : PySem.W.Frag} {H : Hp} {ps : List (Key × V)} (hs : ∀ p ∈ ps, keySz p.1) (hl : ps.length ≤ 1000) (nd : (ps.map (·.1)).Nodup) (h : OneOdd K H ps) : PageJ K H ps false := by
  obtain ⟨p0, h0, b, h1, h2, h3⟩ := h
  refine ⟨hs, hl, fun k => if k = p0.1 then b else true, fun k v q => ?_, ?_⟩
  · show ShJ K H v (if k = p0.1 then b else true)
    by_cases c : k = p0.1
    · rw [if_pos c]
      rw [c, val_nodup nd p0 h0] at q
      cases q
      exact h1
    · rw [if_neg c]
      rcases h3 _ (valV_mem q) with z | z
      · exact absurd (congrArg Prod.fst z) c
      · exact z
  · have : (ps.all fun p => keyB p.1 && (if p.1 = p0.1 then b else true)) = false := by
      refine List.all_eq_false.mpr ⟨p0, h0, ?_⟩
      show ¬ (keyB p0.1 && (if p0.1 = p0.1 then b else true)) = true
      rw [if_pos rfl, h2]
      exact Bool.false_ne_true
    rw [this, Bool.and_false]
theorem dictEq_self {ps : List (Key × V)} : dictEqB ps ps (fun _ => true) = true := by
  unfold dictEqB
  have : (ps.all fun p => (valV ps p.1).isSome && true) = true := List.all_eq_true.mpr fun p hp => by
    obtain ⟨v, hv⟩ := valV_some hp
    rw [hv]; rfl
  rw [this, decide_eq_true rfl]
  rfl
def mixedI (c k : Int) : Int := (c % 1000000007 + 7919 * k + 11) * 48271 % 2147483647
theorem mixed_0 (c k : Int) : 0 ≤ mixedI c k := Int.emod_nonneg _ (by decide)
theorem numberBy_in {c : Int} (h : 0 ≤ c) : 0 ≤ numberBy c ∧ numberBy c < LIM := by
  unfold numberBy
  have e : LIM = 10 ^ 60 := rfl
  split
  · rename_i h1
    have a1 := Int.emod_nonneg (c / 5) (show (3 : Int) ≠ 0 by decide)
    have a2 := Int.emod_lt_of_pos (c / 5) (show (0 : Int) < 3 by decide)
    have b1 := Int.emod_nonneg c (show (5 : Int) ≠ 0 by decide)
    have hc : c % 5 = 0 ∨ c % 5 = 1 := by omega
    rcases hc with z | z <;> rw [z, e] <;> omega
  · split
    · rw [e]; omega
    · split
      · rw [e]
        exact ⟨Int.emod_nonneg _ (by decide), Int.emod_lt_of_pos _ (by decide)⟩
      · rw [e]; omega
theorem nameB_iff (z : Str) : nameB z = true ↔ (1 ≤ z.length ∧ z.length ≤ 8 ∧ ∀ c ∈ z.cps.toList, c ∈ LET.cps.toList) := by
  unfold nameB
  rw [Bool.and_eq_true, Bool.and_eq_true, decide_eq_true_eq, decide_eq_true_eq, List.all_eq_true]
  constructor
  · rintro ⟨h1, h2, h3⟩
    exact ⟨by omega, by omega, fun c hc => of_decide_eq_true (h3 c hc)⟩
  · rintro ⟨h1, h2, h3⟩
    exact ⟨by omega, by omega, fun c hc => decide_eq_true (h3 c hc)⟩
theorem app_tl (a b : Str) : (a ++ b).cps.toList = a.cps.toList ++ b.cps.toList := Array.toList_append
theorem app_len (a b : Str) : (a ++ b).length = a.length + b.length := Array.size_append
theorem cut_tl (z : Str) (n : Nat) : (cutS z none (some (n : Int))).cps.toList = z.cps.toList.take n := by
  show List.take (HT.sIx z.length z.length (some (n : Int)) - HT.sIx z.length 0 none) (List.drop (HT.sIx z.length 0 none) z.cps.toList) = _
  rw [HT.sIx_none, HT.sIx_nat, List.drop_zero, Nat.sub_zero]
  by_cases c : n ≤ z.length
  · rw [Nat.min_eq_left c]
  · rw [Nat.min_eq_right (by omega), List.take_of_length_le (by rw [tl_len]; omega), List.take_of_length_le (by rw [tl_len]; omega)]
theorem cut_len (z : Str) (n : Nat) : (cutS z none (some (n : Int))).length = min n z.length := by
  rw [← tl_len, cut_tl, List.length_take, tl_len]
theorem nameB_sg (cs : List Nat) (h1 : 1 ≤ cs.length) (h8 : cs.length ≤ 8) (h : ∀ c ∈ cs, c ∈ LET.cps.toList) : nameB ⟨cs.toArray⟩ = true :=
  (nameB_iff _).mpr ⟨h1, h8, h⟩
theorem nameB_mix {c1 c2 : Nat} {z : Str} (h1 : c1 ∈ LET.cps.toList) (h2 : c2 ∈ LET.cps.toList) (hz : nameB z = true) : nameB ((⟨#[c1]⟩ ++ ⟨#[c2]⟩ : Str) ++ cutS z none (some 6)) = true := by
  obtain ⟨a1, a2, a3⟩ := (nameB_iff _).mp hz
  have e6 := cut_len z 6
  refine (nameB_iff _).mpr ⟨?_, ?_, fun c hc => ?_⟩
  · rw [app_len, app_len]; show 1 ≤ 1 + 1 + _; omega
  · rw [app_len, app_len]
    show 1 + 1 + (cutS z none (some ((6 : Nat) : Int))).length ≤ 8
    omega
  · rw [app_tl, app_tl] at hc
    rcases List.mem_append.mp hc with hc | hc
    · rcases List.mem_append.mp hc with hc | hc
      · rw [List.mem_singleton.mp hc]; exact h1
      · rw [List.mem_singleton.mp hc]; exact h2
    · have hc' : c ∈ (cutS z none (some ((6 : Nat) : Int))).cps.toList := hc
      rw [cut_tl] at hc'
      exact a3 c (List.mem_of_mem_take hc')
theorem nameB_ab {c : Nat} (h : c ∈ (" A1-" : Str).cps.toList) : nameB (("ab" : Str) ++ ⟨#[c]⟩) = false := by
  cases q : nameB (("ab" : Str) ++ ⟨#[c]⟩) with
  | false => rfl
  | true =>
    obtain ⟨_, _, a3⟩ := (nameB_iff _).mp q
    have h3 := a3 c (by rw [app_tl]; exact List.mem_append_right _ (List.mem_singleton.mpr rfl))
    have : ∀ x ∈ (" A1-" : Str).cps.toList, ¬ x ∈ LET.cps.toList := by decide +kernel
    exact absurd h3 (this c h)
theorem nameB_cut {n : Nat} (h : 1 ≤ n) : nameB (cutS "abcdefgh" none (some (n : Int))) = true := by
  have e : ("abcdefgh" : Str).length = 8 := by decide +kernel
  refine (nameB_iff _).mpr ⟨?_, ?_, fun c hc => ?_⟩
  · rw [cut_len, e]; omega
  · rw [cut_len, e]; omega
  · rw [cut_tl] at hc
    have : ∀ x ∈ ("abcdefgh" : Str).cps.toList, x ∈ LET.cps.toList := by decide +kernel
    exact this c (List.mem_of_mem_take hc)
theorem pair_at {K : PySem.W.Frag} {H : Hp} {x y z : V} {o p : Option Int} {i : Nat} (hx : NumJ K H x o) (hy : NumJ K H y p) (h : [x, y][i]? = some z) :
    ∃ oz, NumJ K H z oz ∧ [goodN o, goodN p][i]? = some (goodN oz) ∧ (goodN oz = false → pairB o p = false) := by
  match i, h with
  | 0, h =>
    cases h
    refine ⟨o, hx, rfl, fun q => ?_⟩
    cases o with
    | none => rfl
    | some a =>
      cases p with
      | none => rfl
      | some b => show (goodN (some a) && (goodN (some b) && decide (0 < a + b))) = false; rw [q, Bool.false_and]
  | 1, h =>
    cases h
    refine ⟨p, hy, rfl, fun q => ?_⟩
    cases o with
    | none => rfl
    | some a =>
      cases p with
      | none => rfl
      | some b => show (goodN (some a) && (goodN (some b) && decide (0 < a + b))) = false; rw [q, Bool.false_and, Bool.and_false]
theorem pair_end {o p : Option Int} (h0 : goodN o = true) (h1 : goodN p = true) : ∃ i j, o = some i ∧ p = some j ∧ pairB o p = decide (0 < i + j) := by
  cases o with
  | none => cases h0
  | some i =>
    cases p with
    | none => cases h1
    | some j =>
      refine ⟨i, j, rfl, rfl, ?_⟩
      show (goodN (some i) && (goodN (some j) && decide (0 < i + j))) = _
      rw [h0, h1, Bool.true_and, Bool.true_and]
theorem pairL {i : Int} {p : Option Int} (h : i < 0 ∨ LIM ≤ i) : pairB (some i) p = false := by
  have e : goodN (some i) = false := by
    show (decide (0 ≤ i) && decide (i < LIM)) = false
    rcases h with h | h
    · rw [decide_eq_false (by omega), Bool.false_and]
    · rw [decide_eq_false (p := i < LIM) (by omega), Bool.and_false]
  cases p with
  | none => rfl
  | some b => show (goodN (some i) && _) = false; rw [e, Bool.false_and]
theorem pairR {i : Int} {p : Option Int} (h : i < 0 ∨ LIM ≤ i) : pairB p (some i) = false := by
  have e : goodN (some i) = false := by
    show (decide (0 ≤ i) && decide (i < LIM)) = false
    rcases h with h | h
    · rw [decide_eq_false (by omega), Bool.false_and]
    · rw [decide_eq_false (p := i < LIM) (by omega), Bool.and_false]
  cases p with
  | none => rfl
  | some b => show (goodN (some b) && (goodN (some i) && _)) = false; rw [e, Bool.false_and, Bool.and_false]
theorem allOk_set {K : PySem.W.Frag} {H : Hp} {ps : List (Key × V)} {p : Key × V} (h : AllOk K H ps) (hk : keyB p.1 = true) (hs : ShJ K H p.2 true) (j : Nat) : AllOk K H (ps.set j p) := fun q hq => by
  rcases List.mem_or_eq_of_mem_set hq with c | c
  · exact h q c
  · rw [c]; exact ⟨hk, hs⟩
theorem oneOdd_set {K : PySem.W.Frag} {H : Hp} {ps : List (Key × V)} {p : Key × V} (h : AllOk K H ps) {j : Nat} (hj : j < ps.length) (b : Bool) (hs : ShJ K H p.2 b) (e : (keyB p.1 && b) = false) : OneOdd K H (ps.set j p) :=
  ⟨p, List.mem_set hj p, b, hs, e, fun q hq => (List.mem_or_eq_of_mem_set hq).elim (fun c => .inr (h q c).2) .inl⟩
theorem keySz_set {ps : List (Key × V)} {p : Key × V} (h : ∀ p ∈ ps, keySz p.1) (hk : keySz p.1) (j : Nat) : ∀ q ∈ ps.set j p, keySz q.1 := fun q hq => by
  rcases List.mem_or_eq_of_mem_set hq with c | c
  · exact h q c
  · rw [c]; exact hk
theorem pageJ_nil {K : PySem.W.Frag} {H : Hp} : PageJ K H [] true := ⟨fun p hp => (by cases hp), Nat.zero_le _, fun _ => true, fun k v q => (by cases q), rfl⟩
theorem AllOk.eqj {K : PySem.W.Frag} {H : Hp} {ps : List (Key × V)} (nd : (ps.map (·.1)).Nodup) (h : ∀ p ∈ ps, ∃ b, ShJ K H p.2 b) : ∀ p ∈ ps, ∀ v', valV ps p.1 = some v' → EqJ K H p.2 v' true := fun p hp v' hv => by
  rw [val_nodup nd p hp] at hv
  cases hv
  obtain ⟨b, hb⟩ := h p hp
  exact hb.eqj
end Gc

namespace Gc
open PySem L2 Evl
/-! ### sorted texts: one order only -/
def leS (a b : Str) : Prop := a.cps.toList ≤ b.cps.toList
theorem leS_of {a b : Str} (h : PySem.Spec.ltCps b.cps.toList a.cps.toList = false) : leS a b := by
  rw [PyProof.Rows.ltCps_eq, decide_eq_false_iff_not] at h
  exact List.not_lt.mp h
theorem leS_trans {a b c : Str} (h1 : leS a b) (h2 : leS b c) : leS a c := List.le_trans h1 h2
theorem leS_anti {a b : Str} (h1 : leS a b) (h2 : leS b a) : a = b := by
  have e := List.le_antisymm h1 h2
  cases a with
  | mk x =>
    cases b with
    | mk y => exact congrArg Str.mk (Array.toList_inj.mp e)
theorem rising_le : ∀ (r : List Str) (x : Str), PyProof.Rows.risingS x r = true → (∀ y ∈ r, leS x y) ∧ r.Pairwise leS
  | [], x, _ => ⟨fun y h => (by cases h), .nil⟩
  | z :: r, x, h => by
    have h' : (!PySem.Spec.ltCps z.cps.toList x.cps.toList && PyProof.Rows.risingS z r) = true := h
    rw [Bool.and_eq_true, Bool.not_eq_true'] at h'
    obtain ⟨i1, i2⟩ := rising_le r z h'.2
    have hz := leS_of h'.1
    refine ⟨fun y hy => ?_, List.pairwise_cons.mpr ⟨i1, i2⟩⟩
    rcases List.mem_cons.mp hy with c | c
    · rw [c]; exact hz
    · exact leS_trans hz (i1 y c)
theorem sorted_pw : ∀ {l : List Str}, PyProof.Rows.sortedS l = true → l.Pairwise leS
  | [], _ => .nil
  | x :: r, h => by
    obtain ⟨i1, i2⟩ := rising_le r x h
    exact List.pairwise_cons.mpr ⟨i1, i2⟩
theorem pw_unique : ∀ {l1 l2 : List Str}, l1.Pairwise leS → l2.Pairwise leS → l1.Nodup → l2.Nodup → (∀ z, z ∈ l1 ↔ z ∈ l2) → l1 = l2
  | [], [], _, _, _, _, _ => rfl
  | [], y :: r, _, _, _, _, h => absurd ((h y).mpr List.mem_cons_self) (by simp)
  | x :: r, [], _, _, _, _, h => absurd ((h x).mp List.mem_cons_self) (by simp)
  | x :: r1, y :: r2, p1, p2, n1, n2, h => by
    obtain ⟨a1, a2⟩ := List.pairwise_cons.mp p1
    obtain ⟨b1, b2⟩ := List.pairwise_cons.mp p2
    obtain ⟨c1, c2⟩ := List.nodup_cons.mp n1
    obtain ⟨d1, d2⟩ := List.nodup_cons.mp n2
    have e : x = y := by
      rcases List.mem_cons.mp ((h x).mp List.mem_cons_self) with q | q
      · exact q
      · rcases List.mem_cons.mp ((h y).mpr List.mem_cons_self) with q' | q'
        · exact q'.symm
        · exact leS_anti (a1 y q') (b1 x q)
    subst e
    refine congrArg (x :: ·) (pw_unique a2 b2 c2 d2 fun z => ⟨fun hz => ?_, fun hz => ?_⟩)
    · rcases List.mem_cons.mp ((h z).mp (List.mem_cons_of_mem _ hz)) with q | q
      · subst q; exact absurd hz c1
      · exact q
    · rcases List.mem_cons.mp ((h z).mpr (List.mem_cons_of_mem _ hz)) with q | q
      · subst q; exact absurd hz d1
      · exact q
theorem sorted_unique {l1 l2 : List Str} (h1 : PyProof.Rows.sortedS l1 = true) (h2 : PyProof.Rows.sortedS l2 = true) (n1 : l1.Nodup) (n2 : l2.Nodup) (h : ∀ z, z ∈ l1 ↔ z ∈ l2) : l1 = l2 := pw_unique (sorted_pw h1) (sorted_pw h2) n1 n2 h
/-! ### lists of texts as data -/
theorem dpS {K : PySem.W.Frag} {H : Hp} : ∀ ss : List Str, DpAll K H (ss.map V.str) (ss.map PyData.str)
  | [] => .nil
  | x :: r => .cons (.str x) (dpS r)
/-- names are names -/
def NmOk (ks : List Str) : Prop := ∀ z ∈ ks, nameB z = true
theorem name_ok {z : Str} (h : nameB z = true) : PyData.strOk z = true := by
  have h3 := ((nameB_iff z).mp h).2.2
  have hl : ∀ c ∈ LET.cps.toList, c < 0x110000 := by decide +kernel
  show z.cps.all (· < 0x110000) = true
  rw [← Array.all_toList]
  exact List.all_eq_true.mpr fun c hc => decide_eq_true (hl c (h3 c hc))
theorem laysS : ∀ ss : List Str, NmOk ss → PyData.canLayAll0 (ss.map PyData.str) = true
  | [], _ => rfl
  | x :: r, h => by
    show (PyData.strOk x && PyData.canLayAll0 (r.map PyData.str)) = true
    rw [laysS r (fun z hz => h z (List.mem_cons_of_mem _ hz)), name_ok (h x List.mem_cons_self)]; rfl
theorem depthS : ∀ ss : List Str, PyData.depthAll (ss.map PyData.str) ≤ 1
  | [] => Nat.zero_le _
  | x :: r => Nat.max_le.mpr ⟨Nat.zero_le _, depthS r⟩
theorem shapedS (ss : List Str) (h : NmOk ss) : SeqAt.shaped (.list (ss.map PyData.str)) = true := by
  show (PyData.canLay0 (.list (ss.map PyData.str)) && decide (PyData.depth (.list (ss.map PyData.str)) ≤ 64)) = true
  have h1 : PyData.canLay0 (.list (ss.map PyData.str)) = true := laysS ss h
  have h2 : PyData.depth (.list (ss.map PyData.str)) ≤ 64 := by
    show PyData.depthAll (ss.map PyData.str) + 1 ≤ 64
    have := depthS ss
    omega
  rw [h1, decide_eq_true h2]
  rfl
theorem eqvS (ss : List Str) (h : NmOk ss) : PyData.eqv (.list (ss.map PyData.str)) (.list (ss.map PyData.str)) = true := PySem.SeqAt.eqv_refl _ (laysS ss h)
/-- list(..) != sorted(..) where both are the same texts -/
theorem neS_go {K : PySem.W.Frag} {H : Hp} {Q : VK} {a b : Addr} {ss : List Str} (h : NmOk ss) (ha : SqL K H a (ss.map V.str)) (hb : SqL K H b (ss.map V.str)) (q : Q (.bl false) H) : rNeD K (.ref a) (.ref b) H Q :=
  ⟨_, _, .lst ha (dpS ss), .lst hb (dpS ss), shapedS ss h, shapedS ss h, by rw [eqvS ss h]; exact q⟩
theorem eqS_go {K : PySem.W.Frag} {H : Hp} {Q : VK} {a b : Addr} {ss : List Str} (h : NmOk ss) (ha : SqL K H a (ss.map V.str)) (hb : SqL K H b (ss.map V.str)) (q : Q (.bl true) H) : rEqD K (.ref a) (.ref b) H Q :=
  ⟨_, _, .lst ha (dpS ss), .lst hb (dpS ss), shapedS ss h, shapedS ss h, by rw [eqvS ss h]; exact q⟩
/-- == and != of two shares -/
theorem shp2 (a b : Int) : SeqAt.shaped (.tuple [.int a, .int b]) = true := by simp [SeqAt.shaped, PyData.canLay0, PyData.canLayAll0, PyData.depth, PyData.depthAll]
theorem eqv2 (a b c d : Int) : PyData.eqv (.tuple [.int a, .int b]) (.tuple [.int c, .int d]) = (decide (a = c) && decide (b = d)) := by
  show (a == c && (b == d && true)) = _
  rw [Bool.and_true]
  rfl
theorem sheq_go {K : PySem.W.Frag} {H : Hp} {Q : VK} {t u : Addr} {a b c d : Int} (h1 : ShAt K H t a b) (h2 : ShAt K H u c d) (q : Q (.bl (decide (a = c) && decide (b = d))) H) : rEqD K (.ref t) (.ref u) H Q :=
  ⟨_, _, .tup h1 (.cons (.int a) (.cons (.int b) .nil)), .tup h2 (.cons (.int c) (.cons (.int d) .nil)), shp2 a b, shp2 c d, by rw [eqv2]; exact q⟩
theorem shne_go {K : PySem.W.Frag} {H : Hp} {Q : VK} {t u : Addr} {a b c d : Int} (h1 : ShAt K H t a b) (h2 : ShAt K H u c d) (q : Q (.bl (!(decide (a = c) && decide (b = d)))) H) : rNeD K (.ref t) (.ref u) H Q :=
  ⟨_, _, .tup h1 (.cons (.int a) (.cons (.int b) .nil)), .tup h2 (.cons (.int c) (.cons (.int d) .nil)), shp2 a b, shp2 c d, by rw [eqv2]; exact q⟩
/-! ### pages: names in their order, a share for every text ((0, 0) where there is none) -/
abbrev Sh := Str → Int × Int
structure PgK (K : PySem.W.Frag) (H : Hp) (kvs : List (Key × V)) (ks : List Str) (f : Sh) : Prop where
  keys : kvs.map (·.1) = ks.map Sum.inr
  nd : ks.Nodup
  at_ : ∀ z v, valV kvs (.inr z) = some v → ∃ t, v = .ref t ∧ ShAt K H t (f z).1 (f z).2
  out : ∀ z, ¬ z ∈ ks → f z = (0, 0)
section
variable {K : PySem.W.Frag} {H H' : Hp} {kvs : List (Key × V)} {ks : List Str} {f : Sh}
theorem PgK.et (e : Et K H H') (h : PgK K H kvs ks f) : PgK K H' kvs ks f :=
  ⟨h.keys, h.nd, fun z v q => let ⟨t, h1, h2⟩ := h.at_ z v q; ⟨t, h1, e.tp _ _ h2⟩, h.out⟩
theorem PgK.len (h : PgK K H kvs ks f) : kvs.length = ks.length := by
  have e := congrArg List.length h.keys
  rw [List.length_map, List.length_map] at e
  exact e
theorem PgK.mem (h : PgK K H kvs ks f) {z : Str} : z ∈ ks ↔ ∃ v, valV kvs (.inr z) = some v := by
  constructor
  · intro hz
    have : (Sum.inr z : Key) ∈ kvs.map (·.1) := by rw [h.keys]; exact List.mem_map.mpr ⟨z, hz, rfl⟩
    obtain ⟨p, hp, e⟩ := List.mem_map.mp this
    obtain ⟨v, hv⟩ := valV_some hp
    exact ⟨v, by rw [← e]; exact hv⟩
  · rintro ⟨v, hv⟩
    have := valV_in hv
    rw [h.keys] at this
    obtain ⟨y, hy, e⟩ := List.mem_map.mp this
    cases e
    exact hy
theorem PgK.there (h : PgK K H kvs ks f) {z : Str} (hz : z ∈ ks) : ∃ t, valV kvs (.inr z) = some (.ref t) ∧ ShAt K H t (f z).1 (f z).2 := by
  obtain ⟨v, hv⟩ := h.mem.mp hz
  obtain ⟨t, rfl, q⟩ := h.at_ z v hv
  exact ⟨t, hv, q⟩
theorem PgK.miss (h : PgK K H kvs ks f) {z : Str} (hz : ¬ z ∈ ks) : valV kvs (.inr z) = none := by
  cases q : valV kvs (.inr z) with
  | none => rfl
  | some v => exact absurd (h.mem.mpr ⟨v, q⟩) hz
theorem PgK.nil : PgK K H [] [] (fun _ => (0, 0)) := ⟨rfl, List.nodup_nil, fun z v q => (by cases q), fun _ _ => rfl⟩
def addK (ks : List Str) (z : Str) : List Str := if z ∈ ks then ks else ks ++ [z]
theorem mem_addK {ks : List Str} {z w : Str} : w ∈ addK ks z ↔ w ∈ ks ∨ w = z := by
  unfold addK
  split
  · rename_i h
    exact ⟨.inl, fun q => q.elim id fun e => e ▸ h⟩
  · rw [List.mem_append, List.mem_singleton]
theorem len_addK {ks : List Str} {z : Str} : (addK ks z).length ≤ ks.length + 1 := by
  unfold addK
  split
  · omega
  · rw [List.length_append]; exact Nat.le_refl _
def setF (f : Sh) (z : Str) (s : Int × Int) : Sh := fun w => if w = z then s else f w
theorem setF_same {f : Sh} {z : Str} {s : Int × Int} : setF f z s z = s := if_pos rfl
theorem setF_ne {f : Sh} {z w : Str} {s : Int × Int} (h : ¬ w = z) : setF f z s w = f w := if_neg h
theorem PgK.put (h : PgK K H kvs ks f) {z : Str} {t : Addr} {a b : Int} (ht : ShAt K H t a b) : PgK K H (putK kvs (.inr z) (.ref t)) (addK ks z) (setF f z (a, b)) := by
  refine ⟨?_, ?_, fun w v q => ?_, fun w hw => ?_⟩
  · by_cases c : z ∈ ks
    · unfold addK
      rw [if_pos c]
      obtain ⟨v, hv⟩ := h.mem.mp c
      have ha : (kvs.any fun kv => decide (kv.1 = (.inr z : Key))) = true := by rw [valV_any, hv]; rfl
      unfold putK
      rw [if_pos ha, List.map_map]
      have e : ((fun x : Key × V => x.1) ∘ fun kv : Key × V => if kv.1 = (.inr z : Key) then (kv.1, V.ref t) else kv) = fun x => x.1 := by
        funext x
        show (if x.1 = (.inr z : Key) then (x.1, V.ref t) else x).1 = x.1
        split <;> rfl
      rw [e]
      exact h.keys
    · unfold addK
      rw [if_neg c, putK_new _ (h.miss c), List.map_append, List.map_append, h.keys]
      rfl
  · unfold addK
    split
    · exact h.nd
    · rename_i c; exact nd_snoc h.nd c
  · rw [valV_put] at q
    by_cases c : w = z
    · subst c
      rw [if_pos rfl] at q
      cases q
      rw [setF_same]
      exact ⟨t, rfl, ht⟩
    · rw [if_neg (fun e => c (Sum.inr.inj e))] at q
      rw [setF_ne c]
      exact h.at_ w v q
  · have h1 : ¬ w ∈ ks := fun q => hw (mem_addK.mpr (.inl q))
    have h2 : ¬ w = z := fun q => hw (mem_addK.mpr (.inr q))
    rw [setF_ne h2]
    exact h.out w h1
theorem PgK.key_at (h : PgK K H kvs ks f) {i : Nat} {k : Key} {v : V} (q : kvs[i]? = some (k, v)) : ∃ z, k = .inr z ∧ ks[i]? = some z ∧ z ∈ ks := by
  have e := congrArg (fun l : List Key => l[i]?) h.keys
  simp only [List.getElem?_map] at e
  rw [q] at e
  cases c : ks[i]? with
  | none => rw [c] at e; cases e
  | some z =>
    rw [c] at e
    exact ⟨z, Option.some.inj e, rfl, List.mem_of_getElem? c⟩
theorem PgK.kst (h : PgK K H kvs ks f) : (kvs.map fun kv => kV kv.1) = ks.map V.str := by
  have e := congrArg (List.map kV) h.keys
  rw [List.map_map, List.map_map] at e
  exact e
/-- the same dict's values are the same objects -/
theorem PgK.eqj (h : PgK K H kvs ks f) (H' : Hp) : ∀ p ∈ kvs, ∀ v', valV kvs p.1 = some v' → EqJ K H' p.2 v' ((fun _ => true) p.1) := fun p hp v' hv => by
  have nd : (kvs.map (·.1)).Nodup := by
    rw [h.keys]
    exact List.Pairwise.map _ (fun a b n e => n (Sum.inr.inj e)) h.nd
  rw [val_nodup nd p hp] at hv
  cases hv
  have hk : p.1 ∈ ks.map (Sum.inr (α := Int)) := by rw [← h.keys]; exact List.mem_map.mpr ⟨p, hp, rfl⟩
  obtain ⟨z, hz, e⟩ := List.mem_map.mp hk
  obtain ⟨t, ht, _⟩ := h.there hz
  rw [e, val_nodup nd p hp] at ht
  have e2 : p.2 = .ref t := Option.some.inj ht
  rw [e2]
  exact .inl ⟨t, rfl, rfl, rfl⟩
end
theorem dictEq_self' {ps : List (Key × V)} : dictEqB ps ps (fun _ => true) = true := by
  unfold dictEqB
  have : (ps.all fun p => (valV ps p.1).isSome && true) = true := List.all_eq_true.mpr fun p hp => by
    obtain ⟨v, hv⟩ := valV_some hp
    rw [hv]; rfl
  rw [this, decide_eq_true rfl]
  rfl
/-- no number below 0 -/
def NN (f : Sh) : Prop := ∀ z, 0 ≤ (f z).1 ∧ 0 ≤ (f z).2
theorem NN.zero : NN (fun _ => (0, 0)) := fun _ => ⟨Int.le_refl _, Int.le_refl _⟩
theorem NN.set {f : Sh} (h : NN f) {z : Str} {a b : Int} (ha : 0 ≤ a) (hb : 0 ≤ b) : NN (setF f z (a, b)) := fun w => by
  unfold setF
  split
  · exact ⟨ha, hb⟩
  · exact h w
theorem NmOk.nil : NmOk [] := fun z h => (by cases h)
theorem NmOk.add {ks : List Str} (h : NmOk ks) {z : Str} (h1 : nameB z = true) : NmOk (addK ks z) := fun w hw => by
  rcases mem_addK.mp hw with c | c
  · exact h w c
  · rw [c]; exact h1
/-- two pages joined -/
def mxF (f g : Sh) : Sh := fun z => (gmax (f z).1 (g z).1, gmax (f z).2 (g z).2)
theorem mxF_comm (f g : Sh) : mxF f g = mxF g f := by
  funext z
  show (_, _) = (_, _)
  rw [gmax_comm (f z).1, gmax_comm (f z).2]
/-- all but what stands at d stays -/
def Exc (d : Addr) (H H' : Hp) : Prop := ∀ a o, a ≠ d → H a = some o → H' a = some o
theorem Exc.refl (d : Addr) (H : Hp) : Exc d H H := fun _ _ _ h => h
theorem Exc.of {d : Addr} {H H' : Hp} (e : Ex H H') : Exc d H H' := fun a o _ h => e a o h
theorem Exc.trans {d : Addr} {H H1 H2 : Hp} (e : Exc d H H1) (f : Exc d H1 H2) : Exc d H H2 := fun a o n h => f a o n (e a o n h)
theorem Exc.upd {d : Addr} {H : Hp} {o : HO} : Exc d H (upd H d o) := fun a _ n h => by rw [upd_ne n]; exact h
theorem Exc.new {d : Addr} {H H1 H2 : Hp} (hd : H d = none) (e : Ex H H1) (f : Exc d H1 H2) : Ex H H2 := fun a o h => f a o (fun z => by rw [z, hd] at h; cases h) (e a o h)
end Gc

namespace Gc
open PySem L2 Evl
/-- all but what stands where S holds stays -/
def Exs (S : Addr → Prop) (H H' : Hp) : Prop := ∀ a o, ¬ S a → H a = some o → H' a = some o
section
variable {S : Addr → Prop} {H H1 H2 H' : Hp}
theorem Exs.refl (S : Addr → Prop) (H : Hp) : Exs S H H := fun _ _ _ h => h
theorem Exs.of (e : Ex H H') : Exs S H H' := fun a o _ h => e a o h
theorem Exs.trans (e : Exs S H H1) (f : Exs S H1 H2) : Exs S H H2 := fun a o n h => f a o n (e a o n h)
theorem Exs.upd {d : Addr} {o : HO} (hd : S d) : Exs S H (upd H d o) := fun a _ n h => by rw [upd_ne (fun z => n (by rw [z]; exact hd))]; exact h
theorem Exs.mut {d : Addr} {o : HO} (e : Exs S H H') (hd : S d ∨ H d = none) : Exs S H (L2.upd H' d o) := fun a q n h => by
  have c : a ≠ d := fun z => by
    subst z
    rcases hd with hd | hd
    · exact n hd
    · rw [hd] at h; cases h
  rw [upd_ne c]
  exact e a q n h
/-- what was not there does not count -/
theorem Exs.new {T : Addr → Prop} (e : Exs T H H') (h : ∀ a, T a → S a ∨ H a = none) : Exs S H H' := fun a o n q => e a o (fun t => by
  rcases h a t with c | c
  · exact n c
  · rw [c] at q; cases q) q
theorem Exs.ex (e : Exs S H H') (h : ∀ a, S a → H a = none) : Ex H H' := fun a o q => e a o (fun t => by rw [h a t] at q; cases q) q
/-- behind the lock of d -/
theorem Exs.unlock {d : Addr} {kvs : List (Key × V)} (e : Exs S H H') (hd : H d = some (.dK kvs)) (hS : ∀ a, S a → a = d ∨ H a = none) : Ex H (L2.upd H' d (.dK kvs)) := fun a o q => by
  by_cases c : a = d
  · subst c
    rw [hd] at q
    cases q
    exact upd_same
  · rw [upd_ne c]
    refine e a o (fun t => ?_) q
    rcases hS a t with z | z
    · exact c z
    · rw [z] at q; cases q
end
/-- a comprehension over a dict -/
theorem lockE_go {t : TE} {Q : VK} {σ : L2.St} {H : Hp} {d : Addr} {kvs : List (Key × V)} (hd : H d = some (.dK kvs))
    (h : ∀ od H1, H1 d = some (.frz od (.dK kvs)) → Er H H1 → (∀ H', Ex H1 H' → Ex H (upd H' d (.dK kvs))) → t σ H1 fun v H' => H' d = some (.frz od (.dK kvs)) ∧ Q v (upd H' d (.dK kvs))) :
    tLockE t σ H Q := ⟨d, _, hd, trivial, fun od => h od _ upd_same (Er.lock hd) (fun H' e => lock_ex e hd)⟩
def capF (ks : List Str) (f : Sh) : Sh := fun z => if z ∈ ks then f z else (0, 0)
theorem nd_len {α : Type} [DecidableEq α] : ∀ {l m : List α}, l.Nodup → (∀ z ∈ l, z ∈ m) → l.length ≤ m.length
  | [], _, _, _ => Nat.zero_le _
  | x :: r, m, nd, h => by
    obtain ⟨n1, n2⟩ := List.nodup_cons.mp nd
    have hx := h x List.mem_cons_self
    have q := nd_len (m := m.erase x) n2 fun z hz => (List.mem_erase_of_ne (fun e => n1 (by rw [← e]; exact hz))).mpr (h z (List.mem_cons_of_mem _ hz))
    rw [List.length_erase_of_mem hx] at q
    have := List.length_pos_of_mem hx
    show r.length + 1 ≤ m.length
    omega
theorem capF_nil {f : Sh} : capF [] f = fun _ => (0, 0) := by
  funext z
  unfold capF
  rw [if_neg (by simp)]
theorem capF_all {ks : List Str} {f : Sh} (h : ∀ z, ¬ z ∈ ks → f z = (0, 0)) : capF ks f = f := by
  funext z
  unfold capF
  split
  · rfl
  · rename_i c; exact (h z c).symm
theorem not_take {ys : List Str} (nd : ys.Nodup) {i : Nat} {z : Str} (h : ys[i]? = some z) : ¬ z ∈ ys.take i := by
  intro hz
  obtain ⟨hi, e⟩ := List.getElem?_eq_some_iff.mp h
  obtain ⟨j, hj, e2⟩ := List.getElem_of_mem hz
  have hj2 : j < i := by rw [List.length_take] at hj; omega
  rw [List.getElem_take] at e2
  have := (List.nodup_iff_pairwise_ne.mp nd)
  have q := List.pairwise_iff_getElem.mp this j i (by omega) hi hj2
  exact q (e2.trans e.symm)
theorem take_snoc {α : Type} {ys : List α} {i : Nat} {z : α} (h : ys[i]? = some z) : ys.take (i + 1) = ys.take i ++ [z] := by
  rw [List.take_add_one, h]
  rfl
theorem addK_take {ys : List Str} (nd : ys.Nodup) {i : Nat} {z : Str} (h : ys[i]? = some z) : addK (ys.take i) z = ys.take (i + 1) := by
  unfold addK
  rw [if_neg (not_take nd h), take_snoc h]
theorem capF_take {ys : List Str} {i : Nat} {z : Str} {m : Sh} (h : ys[i]? = some z) : setF (capF (ys.take i) m) z (m z) = capF (ys.take (i + 1)) m := by
  rw [take_snoc h]
  funext w
  unfold setF capF
  by_cases c : w = z
  · rw [if_pos c, if_pos (by rw [c]; simp), c]
  · rw [if_neg c]
    by_cases d : w ∈ ys.take i
    · rw [if_pos d, if_pos (List.mem_append_left _ d)]
    · rw [if_neg d, if_neg (by simp [d, c])]
theorem mxF_out {f g : Sh} {z : Str} (hf : f z = (0, 0)) (hg : g z = (0, 0)) : mxF f g z = (0, 0) := by
  show (gmax (f z).1 (g z).1, gmax (f z).2 (g z).2) = _
  rw [hf, hg]
  rfl
/-- the first ones of the other joined to one -/
def partF (ls : List Str) (f g : Sh) : Sh := fun z => if z ∈ ls then mxF f g z else f z
theorem partF_nil {f g : Sh} : partF [] f g = f := by
  funext z
  unfold partF
  rw [if_neg (by simp)]
theorem gmax_0 {i : Int} (h : 0 ≤ i) : gmax i 0 = i := by unfold gmax; split <;> omega
theorem partF_all {ls : List Str} {f g : Sh} (hf : NN f) (hg : ∀ z, ¬ z ∈ ls → g z = (0, 0)) : partF ls f g = mxF f g := by
  funext z
  unfold partF
  split
  · rfl
  · rename_i c
    show f z = (gmax (f z).1 (g z).1, gmax (f z).2 (g z).2)
    rw [hg z c, gmax_0 (hf z).1, gmax_0 (hf z).2]
theorem partF_take {ys : List Str} {i : Nat} {z : Str} {f g : Sh} (h : ys[i]? = some z) : setF (partF (ys.take i) f g) z (mxF f g z) = partF (ys.take (i + 1)) f g := by
  rw [take_snoc h]
  funext w
  unfold setF partF
  by_cases c : w = z
  · rw [if_pos c, if_pos (by rw [c]; simp), c]
  · rw [if_neg c]
    by_cases d : w ∈ ys.take i
    · rw [if_pos d, if_pos (List.mem_append_left _ d)]
    · rw [if_neg d, if_neg (by simp [d, c])]
theorem partF_at {ys : List Str} (nd : ys.Nodup) {i : Nat} {z : Str} {f g : Sh} (h : ys[i]? = some z) : partF (ys.take i) f g z = f z := if_neg (not_take nd h)
/-- the sum of a page -/
def totF (ks : List Str) (f : Sh) : Int := (ks.map fun z => (f z).1 - (f z).2).sum
theorem totF_take {ks : List Str} {i : Nat} {z : Str} {f : Sh} (h : ks[i]? = some z) : totF (ks.take (i + 1)) f = totF (ks.take i) f + (f z).1 - (f z).2 := by
  unfold totF
  rw [take_snoc h, List.map_append, List.sum_append]
  simp only [List.map_cons, List.map_nil, List.sum_cons, List.sum_nil]
  omega
/-- one sign of a name changed -/
theorem nameB_twin {z : Str} {c : Nat} (hz : nameB z = true) (hc : c ∈ LET.cps.toList) {n : Nat} (hn : n < z.length) : nameB ((cutS z none (some (n : Int)) ++ ⟨#[c]⟩ : Str) ++ cutS z (some ((n + 1 : Nat) : Int)) none) = true := by
  obtain ⟨a1, a2, a3⟩ := (nameB_iff z).mp hz
  have e2 : (cutS z (some ((n + 1 : Nat) : Int)) none).cps.toList = z.cps.toList.drop (n + 1) := by
    show List.take (HT.sIx z.length z.length none - HT.sIx z.length 0 (some ((n + 1 : Nat) : Int))) (List.drop (HT.sIx z.length 0 (some ((n + 1 : Nat) : Int))) z.cps.toList) = _
    rw [HT.sIx_none, HT.sIx_nat, Nat.min_eq_left (by omega), List.take_of_length_le (by rw [List.length_drop, tl_len]; exact Nat.le_refl _)]
  have l2 : (cutS z (some ((n + 1 : Nat) : Int)) none).length = z.length - (n + 1) := by rw [← tl_len, e2, List.length_drop, tl_len]
  have l1 := cut_len z n
  refine (nameB_iff _).mpr ⟨?_, ?_, fun x hx => ?_⟩
  · rw [app_len, app_len]; show 1 ≤ _ + 1 + _; omega
  · rw [app_len, app_len, l1, l2]; show min n z.length + 1 + (z.length - (n + 1)) ≤ 8; omega
  · rw [app_tl, app_tl] at hx
    rcases List.mem_append.mp hx with hx | hx
    · rcases List.mem_append.mp hx with hx | hx
      · rw [cut_tl] at hx
        exact a3 x (List.mem_of_mem_take hx)
      · rw [List.mem_singleton.mp hx]; exact hc
    · rw [e2] at hx
      exact a3 x (List.mem_of_mem_drop hx)
theorem two_dp {K : PySem.W.Frag} {H : Hp} {t : Addr} {a b : Int} (h : ShAt K H t a b) : Dp K H (.ref t) (.tuple [.int a, .int b]) := .tup h (.cons (.int a) (.cons (.int b) .nil))
theorem min_0 {i j : Int} (hi : 0 ≤ i) (hj : 0 ≤ j) : 0 ≤ (if j < i then j else i) := by split <;> omega
/-- what stands at a heap of law k05 -/
structure C5 (K : PySem.W.Frag) (H0 H : Hp) (o1 o2 o4 c1 c2 D : Addr) (k1 k2 k4 : List (Key × V)) (n1 n2 n4 : List Str) (f1 f2 : Sh) : Prop where
  r1 : H o1 = some (.dK k1)
  r2 : H o2 = some (.dK k2)
  r4 : H o4 = some (.dK k4)
  x1 : H c1 = some (.dK k1)
  x2 : H c2 = some (.dK k2)
  xd : H D = some (.lst [.ref c1, .ref c2])
  p1 : PgK K H k1 n1 f1
  p2 : PgK K H k2 n2 f2
  p4 : PgK K H k4 n4 (mxF f1 f2)
  e : Ex H0 H
theorem C5.ex {K : PySem.W.Frag} {H0 H H' : Hp} {o1 o2 o4 c1 c2 D : Addr} {k1 k2 k4 : List (Key × V)} {n1 n2 n4 : List Str} {f1 f2 : Sh} (c : C5 K H0 H o1 o2 o4 c1 c2 D k1 k2 k4 n1 n2 n4 f1 f2) (e : Ex H H') : C5 K H0 H' o1 o2 o4 c1 c2 D k1 k2 k4 n1 n2 n4 f1 f2 :=
  ⟨e _ _ c.r1, e _ _ c.r2, e _ _ c.r4, e _ _ c.x1, e _ _ c.x2, e _ _ c.xd, c.p1.et (Et.of e), c.p2.et (Et.of e), c.p4.et (Et.of e), c.e.trans e⟩
/-- total(page) -/
def sp_total (K : PySem.W.Frag) : Sp := fun vs H Q _ => ∃ (d : Addr) (kvs : List (Key × V)) (ks : List Str) (f : Sh), vs = [.ref d] ∧ H d = some (.dK kvs) ∧ PgK K H kvs ks f ∧ ks.length ≤ 1000 ∧ ∀ H', Ex H H' → Q (.int (totF ks f)) H'
end Gc
local macro_rules | `(tactic| walk_at "gc_pg") => `(tactic| first
  | assumption
  | (refine' Gc.PgK.et ?e ?h; (case h => assumption); (case e => walk_at "gc_et")))
local macro_rules | `(tactic| walk_at "gc_y") => `(tactic| first
  | walk_at "gc_pg"
  | exact Exists.intro _ (Evl.sq_of (by assumption))
  | exact Exists.intro _ (Evl.st_of (by assumption))
  | (refine' Gc.isD_of ?h; (case h => walk_at "gc_at")))
local macro_rules | `(tactic| walk_at "gc_x") => `(tactic| walk_at "gc_ra")

namespace Gc
open PySem L2 Evl
/-! ### what a page lacks -/
def rchB (f g : Sh) (z : Str) : Bool := reachB (f z).1 (f z).2 (g z).1 (g z).2
/-- the shares of g that f does not reach -/
def lackF (f g : Sh) : Sh := fun z => if rchB f g z = true then (0, 0) else g z
def lackK (ls : List Str) (f g : Sh) : List Str := ls.filter fun z => !rchB f g z
theorem mem_lackK {ls : List Str} {f g : Sh} {z : Str} : z ∈ lackK ls f g ↔ z ∈ ls ∧ rchB f g z = false := by
  unfold lackK
  rw [List.mem_filter]
  cases rchB f g z <;> simp
theorem lackK_nd {ls : List Str} {f g : Sh} (h : ls.Nodup) : (lackK ls f g).Nodup := List.Pairwise.filter _ h
theorem lackK_len {ls : List Str} {f g : Sh} : (lackK ls f g).length ≤ ls.length := List.length_filter_le _ _
theorem lackK_snoc {ls : List Str} {f g : Sh} {z : Str} : lackK (ls ++ [z]) f g = if rchB f g z = true then lackK ls f g else lackK ls f g ++ [z] := by
  unfold lackK
  rw [List.filter_append]
  cases h : rchB f g z <;> simp [List.filter, h]
theorem lackF_at {f g : Sh} {z : Str} (h : rchB f g z = false) : lackF f g z = g z := by
  unfold lackF
  rw [h]
  rfl
theorem rch_self (f : Sh) (z : Str) : rchB f f z = true := reachB_self _ _
theorem lackK_self {ls : List Str} {f : Sh} : lackK ls f f = [] := by
  unfold lackK
  exact List.filter_eq_nil_iff.mpr fun z _ => by rw [rch_self]; simp
theorem lackF_self {f : Sh} : lackF f f = fun _ => (0, 0) := by
  funext z
  unfold lackF
  rw [if_pos (rch_self f z)]
/-- all are reached iff nothing is lacking -/
theorem all_rch {ls : List Str} {f g : Sh} : (ls.all fun z => rchB f g z) = decide ((lackK ls f g).length = 0) := by
  cases h : ls.all fun z => rchB f g z with
  | true =>
    have : lackK ls f g = [] := List.filter_eq_nil_iff.mpr fun z hz => by rw [List.all_eq_true.mp h z hz]; simp
    rw [this]
    rfl
  | false =>
    obtain ⟨z, hz, hb⟩ := List.all_eq_false.mp h
    have hm : z ∈ lackK ls f g := mem_lackK.mpr ⟨hz, by cases q : rchB f g z with | true => exact absurd q hb | false => rfl⟩
    rw [decide_eq_false (fun e => by rw [List.eq_nil_of_length_eq_zero e] at hm; cases hm)]
theorem dictEq_nil {ks : List (Key × V)} {e : Key → Bool} : dictEqB ks [] e = decide (ks.length = 0) := by
  unfold dictEqB
  cases ks with
  | nil => rfl
  | cons p r =>
    rw [show decide ((p :: r).length = ([] : List (Key × V)).length) = false from decide_eq_false (by simp), Bool.false_and]
    exact (decide_eq_false (by simp)).symm
/-- the part of lackF on the first ones -/
def lackP (ls : List Str) (f g : Sh) : Sh := fun z => if z ∈ lackK ls f g then g z else (0, 0)
theorem lackP_nil {f g : Sh} : lackP [] f g = fun _ => (0, 0) := by
  funext z
  unfold lackP lackK
  rw [if_neg (by simp)]
theorem lackP_all {ls : List Str} {f g : Sh} (hg : ∀ z, ¬ z ∈ ls → g z = (0, 0)) : lackP ls f g = lackF f g := by
  funext z
  unfold lackP lackF
  by_cases c : z ∈ ls
  · cases h : rchB f g z with
    | true => rw [if_neg (fun q => by have := (mem_lackK.mp q).2; rw [h] at this; cases this), if_pos rfl]
    | false => rw [if_pos (mem_lackK.mpr ⟨c, h⟩), if_neg Bool.false_ne_true]
  · rw [if_neg (fun q => c (mem_lackK.mp q).1), hg z c]
    split <;> rfl
theorem lackP_yes {ls : List Str} {f g : Sh} {z : Str} (h : rchB f g z = true) : lackP (ls ++ [z]) f g = lackP ls f g := by
  have e : lackK (ls ++ [z]) f g = lackK ls f g := by rw [lackK_snoc, h]; rfl
  unfold lackP
  rw [e]
theorem lackP_no {ls : List Str} {f g : Sh} {z : Str} (h : rchB f g z = false) : lackP (ls ++ [z]) f g = setF (lackP ls f g) z (g z) := by
  have e : lackK (ls ++ [z]) f g = lackK ls f g ++ [z] := by rw [lackK_snoc, h]; rfl
  funext w
  show (if w ∈ lackK (ls ++ [z]) f g then g w else (0, 0)) = if w = z then g z else if w ∈ lackK ls f g then g w else (0, 0)
  rw [e]
  by_cases c : w = z
  · rw [if_pos c, if_pos (by rw [c]; simp), c]
  · rw [if_neg c]
    by_cases d : w ∈ lackK ls f g
    · rw [if_pos d, if_pos (List.mem_append_left _ d)]
    · rw [if_neg d, if_neg (by simp [d, c])]
/-- names are names, and no share is (0, 0) -/
structure NmP (ks : List Str) (f : Sh) : Prop where
  nm : NmOk ks
  pos : ∀ z ∈ ks, 0 < (f z).1 ∨ 0 < (f z).2
theorem NmP.nil : NmP [] (fun _ => (0, 0)) := ⟨NmOk.nil, fun z h => (by cases h)⟩
theorem NmP.add {ks : List Str} {f : Sh} (h : NmP ks f) {z : Str} {a b : Int} (hz : nameB z = true) (hp : 0 < a ∨ 0 < b) : NmP (addK ks z) (setF f z (a, b)) := by
  refine ⟨h.nm.add hz, fun w hw => ?_⟩
  unfold setF
  split
  · exact hp
  · rename_i c
    exact h.pos w ((mem_addK.mp hw).resolve_right c)
theorem pos_of {a b : Int} (ha : 0 ≤ a) (hb : 0 ≤ b) (h : (decide (a = 0) && decide (b = 0)) = false) : 0 < a ∨ 0 < b := by
  by_cases c : a = 0
  · by_cases d : b = 0
    · rw [decide_eq_true c, decide_eq_true d] at h; cases h
    · right; omega
  · left; omega
end Gc
namespace Gc
open PySem L2 Evl
theorem sorted_filter {l : List Str} (p : Str → Bool) (h : PyProof.Rows.sortedS l = true) : PyProof.Rows.sortedS (l.filter p) = true := by
  refine PyProof.Rows.sortedS_of_pairwise _ (List.Pairwise.filter _ ?_)
  refine List.Pairwise.imp (fun {a b} q => ?_) (sorted_pw h)
  rw [PyProof.Rows.ltCps_eq, decide_eq_false_iff_not]
  exact List.not_lt.mpr q
theorem lackK_take {ys : List Str} {f g : Sh} {i : Nat} {z : Str} (h : ys[i]? = some z) : lackK (ys.take (i + 1)) f g = if rchB f g z = true then lackK (ys.take i) f g else lackK (ys.take i) f g ++ [z] := by
  rw [take_snoc h, lackK_snoc]
theorem addK_lack {ys : List Str} (nd : ys.Nodup) {f g : Sh} {i : Nat} {z : Str} (h : ys[i]? = some z) : addK (lackK (ys.take i) f g) z = lackK (ys.take i) f g ++ [z] := if_neg fun q => not_take nd h (mem_lackK.mp q).1
/-- where it is reached nothing is put, else its share -/
theorem lack_yes {ys : List Str} {f g : Sh} {i : Nat} {z : Str} (h : ys[i]? = some z) (b : rchB f g z = true) : lackK (ys.take (i + 1)) f g = lackK (ys.take i) f g ∧ lackP (ys.take (i + 1)) f g = lackP (ys.take i) f g := by
  refine ⟨by rw [lackK_take h, if_pos b], ?_⟩
  rw [take_snoc h, lackP_yes b]
theorem lack_no {ys : List Str} (nd : ys.Nodup) {f g : Sh} {i : Nat} {z : Str} (h : ys[i]? = some z) (b : rchB f g z = false) : lackK (ys.take (i + 1)) f g = addK (lackK (ys.take i) f g) z ∧ lackP (ys.take (i + 1)) f g = setF (lackP (ys.take i) f g) z ((g z).1, (g z).2) := by
  refine ⟨by rw [lackK_take h, if_neg (by rw [b]; exact Bool.false_ne_true), addK_lack nd h], ?_⟩
  rw [take_snoc h, lackP_no b]
/-- of the page without names all is lacking -/
theorem rch_zero {g : Sh} {z : Str} (h : 0 < (g z).1 ∨ 0 < (g z).2) : rchB (fun _ => (0, 0)) g z = false := by
  show (decide ((g z).1 ≤ 0) && decide ((g z).2 ≤ 0)) = false
  rcases h with h | h
  · rw [decide_eq_false (by omega), Bool.false_and]
  · rw [decide_eq_false (p := (g z).2 ≤ 0) (by omega), Bool.and_false]
theorem lackK_zero {ls : List Str} {g : Sh} (h : ∀ z ∈ ls, 0 < (g z).1 ∨ 0 < (g z).2) : lackK ls (fun _ => (0, 0)) g = ls := by
  unfold lackK
  exact List.filter_eq_self.mpr fun z hz => by rw [rch_zero (h z hz)]; rfl
/-- not reached: one of both is greater -/
theorem rch_or {a b c d : Int} : (decide (a < c) || decide (b < d)) = !reachB a b c d := by
  show _ = !(decide (c ≤ a) && decide (d ≤ b))
  by_cases h : a < c
  · rw [decide_eq_true h, decide_eq_false (p := c ≤ a) (by omega)]; rfl
  · rw [decide_eq_false h, decide_eq_true (p := c ≤ a) (by omega)]
    by_cases q : b < d
    · rw [decide_eq_true q, decide_eq_false (p := d ≤ b) (by omega)]; rfl
    · rw [decide_eq_false q, decide_eq_true (p := d ≤ b) (by omega)]; rfl
theorem reach_both {a b c d : Int} (h : reachB a b c d = true) : c ≤ a ∧ d ≤ b := by
  unfold reachB at h
  rw [Bool.and_eq_true] at h
  exact ⟨of_decide_eq_true h.1, of_decide_eq_true h.2⟩
theorem reach_not {a b c d : Int} (h : reachB a b c d = false) (h1 : ¬ a < c) : b < d := by
  unfold reachB at h
  rw [decide_eq_true (p := c ≤ a) (by omega), Bool.true_and] at h
  have := of_decide_eq_false h
  omega
/-- what stands at a heap of law k06 -/
structure C6 (K : PySem.W.Frag) (H0 H : Hp) (o1 o2 c1 c2 D : Addr) (k1 k2 : List (Key × V)) (n1 n2 : List Str) (f1 f2 : Sh) : Prop where
  r1 : H o1 = some (.dK k1)
  r2 : H o2 = some (.dK k2)
  x1 : H c1 = some (.dK k1)
  x2 : H c2 = some (.dK k2)
  xd : H D = some (.lst [.ref c1, .ref c2])
  p1 : PgK K H k1 n1 f1
  p2 : PgK K H k2 n2 f2
  e : Ex H0 H
theorem C6.ex {K : PySem.W.Frag} {H0 H H' : Hp} {o1 o2 c1 c2 D : Addr} {k1 k2 : List (Key × V)} {n1 n2 : List Str} {f1 f2 : Sh} (c : C6 K H0 H o1 o2 c1 c2 D k1 k2 n1 n2 f1 f2) (e : Ex H H') : C6 K H0 H' o1 o2 c1 c2 D k1 k2 n1 n2 f1 f2 :=
  ⟨e _ _ c.r1, e _ _ c.r2, e _ _ c.x1, e _ _ c.x2, e _ _ c.xd, c.p1.et (Et.of e), c.p2.et (Et.of e), c.e.trans e⟩
/-- all but the old ones stays -/
theorem ex_of_none {H H' : Hp} {r : Addr} (e : Ex H H') (h : H' r = none) : H r = none := by
  cases z : H r with
  | none => rfl
  | some o => have := e _ _ z; rw [h] at this; cases this
end Gc

local macro_rules | `(tactic| walk_at "gc_pg") => `(tactic| exact Gc.PgK.nil)

namespace Gc
open PySem L2 Evl
def top (i : Nat) : Stmt := PySem.Challenge.pw_gossipcount_k06_pages_lacking.main.body.getD i (.Pass ⟨0, 0, 0, 0⟩)
abbrev s_l_number_by : Stmt := top 9
abbrev s_l_name_by : Stmt := top 11
abbrev s_l_mixed : Stmt := top 12
abbrev s_l_page_by : Stmt := top 13
abbrev s_l_near_by : Stmt := top 14
abbrev s_l_lacking : Stmt := top 17
abbrev s_l_truth : Stmt := top 16
abbrev s_l_cell_at : Stmt := top 7
abbrev s_reaches : Stmt := top 1
abbrev s_share_of : Stmt := top 3
abbrev s_lacking : Stmt := top 5
abbrev s_knows : Stmt := top 4
abbrev s_l_whole : Stmt := top 8
abbrev s_l_share : Stmt := top 10
abbrev s_l_same : Stmt := top 15
abbrev s_law_k06 : Stmt := top 18
theorem sc_l_number_by : FnScope ["_law_cell", "_law_kind"] ["_law_cell"] (defScope s_l_number_by) := ⟨rfl, rfl, rfl, by decide +kernel, rfl, by decide +kernel, by decide +kernel⟩
theorem sc_l_name_by : FnScope ["_law_cell", "_law_signs", "_law_step", "_law_word", "_law_k"] ["_law_cell"] (defScope s_l_name_by) := ⟨rfl, rfl, rfl, by decide +kernel, rfl, by decide +kernel, by decide +kernel⟩
theorem sc_l_mixed : FnScope ["_law_cell", "_law_k"] ["_law_cell", "_law_k"] (defScope s_l_mixed) := ⟨rfl, rfl, rfl, by decide +kernel, rfl, by decide +kernel, by decide +kernel⟩
theorem sc_l_page_by : FnScope ["_law_names", "_law_shares", "_law_size", "_law_page", "_law_k", "_law_share_here"] ["_law_names", "_law_shares", "_law_size"] (defScope s_l_page_by) := ⟨rfl, rfl, rfl, by decide +kernel, rfl, by decide +kernel, by decide +kernel⟩
theorem sc_l_near_by : FnScope ["_law_page", "_law_cell", "_law_other", "_law_k", "_law_name", "_law_kind", "_law_share_here", "_law_at", "_law_twin"] ["_law_page", "_law_cell"] (defScope s_l_near_by) := ⟨rfl, rfl, rfl, by decide +kernel, rfl, by decide +kernel, by decide +kernel⟩
theorem sc_l_lacking : FnScope ["_law_one", "_law_other", "_law_page", "_law_name", "_law_mine"] ["_law_one", "_law_other"] (defScope s_l_lacking) := ⟨rfl, rfl, rfl, by decide +kernel, rfl, by decide +kernel, by decide +kernel⟩
theorem sc_l_truth : FnScope ["_law_found", "_law_due"] ["_law_found", "_law_due"] (defScope s_l_truth) := ⟨rfl, rfl, rfl, by decide +kernel, rfl, by decide +kernel, by decide +kernel⟩
theorem sc_l_cell_at : FnScope ["_law_script", "_law_k"] ["_law_script", "_law_k"] (defScope s_l_cell_at) := ⟨rfl, rfl, rfl, by decide +kernel, rfl, by decide +kernel, by decide +kernel⟩
theorem sc_reaches : FnScope ["one", "other"] ["one", "other"] (defScope s_reaches) := ⟨rfl, rfl, rfl, by decide +kernel, rfl, by decide +kernel, by decide +kernel⟩
theorem sc_share_of : FnScope ["page", "name"] ["page", "name"] (defScope s_share_of) := ⟨rfl, rfl, rfl, by decide +kernel, rfl, by decide +kernel, by decide +kernel⟩
theorem sc_lacking : FnScope ["one", "other", "page", "name"] ["one", "other"] (defScope s_lacking) := ⟨rfl, rfl, rfl, by decide +kernel, rfl, by decide +kernel, by decide +kernel⟩
theorem sc_knows : FnScope ["one", "other", "name"] ["one", "other"] (defScope s_knows) := ⟨rfl, rfl, rfl, by decide +kernel, rfl, by decide +kernel, by decide +kernel⟩
theorem sc_l_whole : FnScope ["_law_found"] ["_law_found"] (defScope s_l_whole) := ⟨rfl, rfl, rfl, by decide +kernel, rfl, by decide +kernel, by decide +kernel⟩
theorem sc_l_share : FnScope ["_law_found", "_law_due"] ["_law_found", "_law_due"] (defScope s_l_share) := ⟨rfl, rfl, rfl, by decide +kernel, rfl, by decide +kernel, by decide +kernel⟩
theorem sc_l_same : FnScope ["_law_found", "_law_due", "_law_name"] ["_law_found", "_law_due"] (defScope s_l_same) := ⟨rfl, rfl, rfl, by decide +kernel, rfl, by decide +kernel, by decide +kernel⟩
theorem sc_law_k06 : FnScope ["_law_script", "_law_size", "_law_one", "_law_other", "_law_more", "_law_name", "_law_handed", "_law_left", "_law_right", "_law_some", "_law_page"] ["_law_script"] (defScope s_law_k06) := ⟨rfl, rfl, rfl, by decide +kernel, rfl, by decide +kernel, by decide +kernel⟩
structure Tx (K : PySem.W.Frag) (mg : Str → Option Value) where
  f_l_number_by : Addr
  fd_l_number_by : FuncData
  f_l_name_by : Addr
  fd_l_name_by : FuncData
  f_l_mixed : Addr
  fd_l_mixed : FuncData
  f_l_page_by : Addr
  fd_l_page_by : FuncData
  f_l_near_by : Addr
  fd_l_near_by : FuncData
  f_l_lacking : Addr
  fd_l_lacking : FuncData
  f_l_truth : Addr
  fd_l_truth : FuncData
  f_l_cell_at : Addr
  fd_l_cell_at : FuncData
  f_reaches : Addr
  fd_reaches : FuncData
  f_share_of : Addr
  fd_share_of : FuncData
  f_lacking : Addr
  fd_lacking : FuncData
  f_knows : Addr
  fd_knows : FuncData
  f_l_whole : Addr
  fd_l_whole : FuncData
  f_l_share : Addr
  fd_l_share : FuncData
  f_l_same : Addr
  fd_l_same : FuncData
  f_law_k06 : Addr
  fd_law_k06 : FuncData
  F_l_number_by : Fun K "_law_number_by" "_law_number_by" s_l_number_by f_l_number_by fd_l_number_by
  b_l_number_by : Binds K fd_l_number_by ["_law_cell"] []
  m_l_number_by : mg "_law_number_by" = some (.ref f_l_number_by)
  F_l_name_by : Fun K "_law_name_by" "_law_name_by" s_l_name_by f_l_name_by fd_l_name_by
  b_l_name_by : Binds K fd_l_name_by ["_law_cell"] []
  m_l_name_by : mg "_law_name_by" = some (.ref f_l_name_by)
  F_l_mixed : Fun K "_law_mixed" "_law_mixed" s_l_mixed f_l_mixed fd_l_mixed
  b_l_mixed : Binds K fd_l_mixed ["_law_cell", "_law_k"] []
  m_l_mixed : mg "_law_mixed" = some (.ref f_l_mixed)
  F_l_page_by : Fun K "_law_page_by" "_law_page_by" s_l_page_by f_l_page_by fd_l_page_by
  b_l_page_by : Binds K fd_l_page_by ["_law_names", "_law_shares", "_law_size"] []
  m_l_page_by : mg "_law_page_by" = some (.ref f_l_page_by)
  F_l_near_by : Fun K "_law_near_by" "_law_near_by" s_l_near_by f_l_near_by fd_l_near_by
  b_l_near_by : Binds K fd_l_near_by ["_law_page", "_law_cell"] []
  m_l_near_by : mg "_law_near_by" = some (.ref f_l_near_by)
  F_l_lacking : Fun K "_law_lacking" "_law_lacking" s_l_lacking f_l_lacking fd_l_lacking
  b_l_lacking : Binds K fd_l_lacking ["_law_one", "_law_other"] []
  m_l_lacking : mg "_law_lacking" = some (.ref f_l_lacking)
  F_l_truth : Fun K "_law_truth" "_law_truth" s_l_truth f_l_truth fd_l_truth
  b_l_truth : Binds K fd_l_truth ["_law_found", "_law_due"] []
  m_l_truth : mg "_law_truth" = some (.ref f_l_truth)
  F_l_cell_at : Fun K "_law_cell_at" "_law_cell_at" s_l_cell_at f_l_cell_at fd_l_cell_at
  b_l_cell_at : Binds K fd_l_cell_at ["_law_script", "_law_k"] []
  m_l_cell_at : mg "_law_cell_at" = some (.ref f_l_cell_at)
  F_reaches : Fun K "reaches" "reaches" s_reaches f_reaches fd_reaches
  b_reaches : Binds K fd_reaches ["one", "other"] []
  m_reaches : mg "reaches" = some (.ref f_reaches)
  F_share_of : Fun K "share_of" "share_of" s_share_of f_share_of fd_share_of
  b_share_of : Binds K fd_share_of ["page", "name"] []
  m_share_of : mg "share_of" = some (.ref f_share_of)
  F_lacking : Fun K "lacking" "lacking" s_lacking f_lacking fd_lacking
  b_lacking : Binds K fd_lacking ["one", "other"] []
  m_lacking : mg "lacking" = some (.ref f_lacking)
  F_knows : Fun K "knows" "knows" s_knows f_knows fd_knows
  b_knows : Binds K fd_knows ["one", "other"] []
  m_knows : mg "knows" = some (.ref f_knows)
  F_l_whole : Fun K "_law_whole" "_law_whole" s_l_whole f_l_whole fd_l_whole
  b_l_whole : Binds K fd_l_whole ["_law_found"] []
  m_l_whole : mg "_law_whole" = some (.ref f_l_whole)
  F_l_share : Fun K "_law_share" "_law_share" s_l_share f_l_share fd_l_share
  b_l_share : Binds K fd_l_share ["_law_found", "_law_due"] []
  m_l_share : mg "_law_share" = some (.ref f_l_share)
  F_l_same : Fun K "_law_same" "_law_same" s_l_same f_l_same fd_l_same
  b_l_same : Binds K fd_l_same ["_law_found", "_law_due"] []
  m_l_same : mg "_law_same" = some (.ref f_l_same)
  F_law_k06 : Fun K "law" "law" s_law_k06 f_law_k06 fd_law_k06
  b_law_k06 : Binds K fd_law_k06 ["_law_script"] []
  m_law_k06 : mg "law" = some (.ref f_law_k06)
  n_all : mg "all" = none
  n_bool : mg "bool" = none
  n_dict : mg "dict" = none
  n_enumerate : mg "enumerate" = none
  n_int : mg "int" = none
  n_isinstance : mg "isinstance" = none
  n_len : mg "len" = none
  n_list : mg "list" = none
  n_min : mg "min" = none
  n_range : mg "range" = none
  n_sorted : mg "sorted" = none
  n_str : mg "str" = none
  n_tuple : mg "tuple" = none
section
variable {P : Program} {w : World} {K : PySem.W.Frag} {mg : Str → Option Value} {base : Heap}
theorem ok_l_number_by (T : Tx K mg) : FnOk P w K mg base CX0 1 T.f_l_number_by T.fd_l_number_by ["_law_cell"] (sp_i1 numberBy) := by
  refine T.F_l_number_by.ok sc_l_number_by (fun vs H Q E h => ?_) (fun cdv A outer s H vs Q E hr h => ?_)
  · first | (obtain ⟨rfl, _⟩ := h; rfl) | (obtain ⟨_, rfl, _⟩ := h; rfl) | (obtain ⟨_, _, rfl, _⟩ := h; rfl) | (obtain ⟨_, _, _, rfl, _⟩ := h; rfl) | (obtain ⟨_, _, _, _, rfl, _⟩ := h; rfl) | (obtain ⟨_, _, _, _, _, rfl, _⟩ := h; rfl) | (obtain ⟨_, _, _, _, _, _, rfl, _⟩ := h; rfl) | (obtain ⟨_, _, _, _, _, _, _, rfl, _⟩ := h; rfl) | (obtain ⟨_, _, _, _, _, _, _, _, rfl, _⟩ := h; rfl)
  · obtain ⟨c, rfl, k⟩ := h
    refine ⟨_, (pss_cons (ps_set (i := 1) sc_l_number_by.nd rfl (Or.inl rfl) (pe_op op_mod (pv 0) pe_int)) (pss_cons (ps_if (pt_cmpR op_lt (pv 1) pe_int (nomark _)) (pss_one (ps_ret (pe_op op_mul (pe_op op_mod (pe_op op_fdiv (pv 0) pe_int) pe_int) (pv 1)))) pss_nil) (pss_cons (ps_if (pt_cmpR op_eq (pv 1) pe_int (nomark _)) (pss_one (ps_ret (pe_op op_mod (pe_op op_fdiv (pv 0) pe_int) pe_int))) pss_nil) (pss_cons (ps_if (pt_cmpR op_eq (pv 1) pe_int (nomark _)) (pss_one (ps_ret (pe_op op_mod (pe_op op_fdiv (pv 0) pe_int) (pe_op op_pow pe_int pe_int)))) pss_nil) (pss_one (ps_ret (pe_op op_sub (pe_op op_sub (pe_op op_pow pe_int pe_int) pe_int) (pe_op op_mod (pe_op op_fdiv (pv 0) pe_int) pe_int)))))))), ?_⟩
    walk_at "gc"
    refine Gc.lt_2 (fun h1 => ?_) (fun h1 => ?_)
    · walk_at "gc"
      have e : numberBy c = c / 5 % 3 * (c % 5) := if_pos h1
      rw [e] at k
      exact k
    walk_at "gc"
    refine Gc.eqI_2 (fun h2 => ?_) (fun h2 => ?_)
    · walk_at "gc"
      have e : numberBy c = c / 5 % 1000 := (if_neg h1).trans (if_pos h2)
      rw [e] at k
      exact k
    walk_at "gc"
    refine Gc.eqI_2 (fun h3 => ?_) (fun h3 => ?_)
    · walk_at "gc"
      have e : numberBy c = c / 5 % 10 ^ 60 := (if_neg h1).trans ((if_neg h2).trans (if_pos h3))
      rw [e] at k
      exact k
    walk_at "gc"
    have e : numberBy c = 10 ^ 60 - 1 - c / 5 % 1000 := (if_neg h1).trans ((if_neg h2).trans (if_neg h3))
    rw [e] at k
    exact k
/-- name_by(c): some name -/
def sp_name_by : Sp := fun vs H Q _ => ∃ c : Int, vs = [.int c] ∧ ∀ z : Str, nameB z = true → ∀ H', Ex H H' → Q (.str z) H'
theorem ok_l_name_by (T : Tx K mg) : FnOk P w K mg base CX0 1 T.f_l_name_by T.fd_l_name_by ["_law_cell"] (sp_name_by) := by
  refine T.F_l_name_by.ok sc_l_name_by (fun vs H Q E h => ?_) (fun cdv A outer s H vs Q E hr h => ?_)
  · first | (obtain ⟨rfl, _⟩ := h; rfl) | (obtain ⟨_, rfl, _⟩ := h; rfl) | (obtain ⟨_, _, rfl, _⟩ := h; rfl) | (obtain ⟨_, _, _, rfl, _⟩ := h; rfl) | (obtain ⟨_, _, _, _, rfl, _⟩ := h; rfl) | (obtain ⟨_, _, _, _, _, rfl, _⟩ := h; rfl) | (obtain ⟨_, _, _, _, _, _, rfl, _⟩ := h; rfl) | (obtain ⟨_, _, _, _, _, _, _, rfl, _⟩ := h; rfl) | (obtain ⟨_, _, _, _, _, _, _, _, rfl, _⟩ := h; rfl)
  · obtain ⟨c, rfl, k⟩ := h
    refine ⟨_, (pss_cons (ps_set (i := 1) sc_l_name_by.nd rfl (Or.inr rfl) pe_str) (pss_cons (ps_set (i := 2) sc_l_name_by.nd rfl (Or.inr rfl) (pe_op op_add pe_int (pe_op op_mod (pe_op op_fdiv (pv 0) pe_int) pe_int))) (pss_cons (ps_setLc (i := 3) (own := [("_law_k", 4)]) (g := gName 4) (tt := tYes) rfl sc_l_name_by.nd rfl rfl (sw_true rfl rfl rfl (by decide +kernel)) (pi_range1 rfl T.n_range (pa_cons (pe_op op_add pe_int (pe_op op_mod (pv 0) pe_int)) pa_nil)) (blkOk_by (own := [("_law_k", 4)]) (N := ["_law_cell", "_law_signs", "_law_step", "_law_word", "_law_k"]) (sc := defScope s_l_name_by) (by decide +kernel)) (fun _ _ _ _ _ => pg_name (i := 4) sc_l_name_by.nd rfl (Or.inl rfl)) (fun _ _ _ _ _ => pts_nil) (fun _ _ _ _ _ => (pe_ix ix_str (pv 1) (pe_op op_mod (pe_op op_add (pe_op op_fdiv (pv 0) pe_int) (pe_op op_mul (pv 4) (pv 2))) pe_int) (fun _ _ => rfl)))) (pss_cut (ps_if (pt_cmpR op_eq (pe_op op_mod (pe_op op_fdiv (pv 0) pe_int) pe_int) pe_int (nomark _)) (pss_one (ps_asg (pe_ix ix_str (pv 1) (pe_op op_mod (pe_op op_fdiv (pv 0) pe_int) pe_int) (fun _ _ => rfl)) (pg_sub (pv 3) (pe_op op_mod (pe_op op_fdiv (pv 0) pe_int) (pe_callB call_len_seq (by rfl) T.n_len PySem.boot_len (pa_cons (pv 3) pa_nil))) set_list))) pss_nil) (pss_one (ps_ret (pe_join pe_str (pv 3)))))))), ?_⟩
    have m8 := mod_in (a := c) (b := 8) (by decide)
    walk_at "gc"
    rename_i D hD
    refine Gc.lc_go (walk_range (lo := 0) (n := (1 + c % 8).toNat)) (fun i acc _ => Signs (fun x => x ∈ LET.cps.toList) acc ∧ acc.length = i) (by omega) hD (fun _ _ => trivial) (fun _ _ _ _ h => h) (fun _ _ => ⟨Signs.nil, rfl⟩) (fun i x acc H2 Kk Nn hi hy e hD2 p hK hN => ?_) (fun acc H2 e hD2 p => ?_)
    · have ex : x = .int (0 + (i : Int)) := hy
      subst ex
      have m := mod_in (a := c / 8 + (0 + (i : Int)) * (1 + c / 208 % 25)) (b := 26) (by decide)
      obtain ⟨s, hs, hmem⟩ := atI_in (xs := LET.cps.toList) m.1 m.2
      walk_at "gc"
      exact hK _ _ (Ex.refl _) ⟨p.1.one hmem, by rw [List.length_append, List.length_singleton, p.2]⟩
    refine ⟨fun σ' H' => Hold (∃ xs v1 v2 v3, σ' = [v1, v2, v3, some (.ref D), none] ∧ Signs (fun x => x ∈ LET.cps.toList) xs ∧ xs.length = (1 + c % 8).toNat ∧ H' D = some (.lst xs) ∧ Ex H H'), ?_, fun σ' H' hm => ?_⟩
    · walk_at "gc"
      refine Gc.eqI_2 (fun c1 => ?_) (fun c1 => ?_)
      · have m1 := mod_in (a := c / 83200) (b := 26) (by decide)
        have m2 := mod_in (a := c / 10400) (b := ((acc.length : Nat) : Int)) (by have := p.2; omega)
        obtain ⟨s, hs, hmem⟩ := atI_in (xs := LET.cps.toList) m1.1 m1.2
        have q := ixN_in (n := acc.length) m2.1 m2.2
        walk_at "gc"
        exact ⟨⟨_, _, _, _, rfl, p.1.put hmem _, by rw [List.length_set]; exact p.2, upd_same, Ex.mut e hD⟩⟩
      · exact ⟨⟨_, _, _, _, rfl, p.1, p.2, hD2, e⟩⟩
    obtain ⟨⟨xs, v1, v2, v3, rfl, hS, hl, hx, he⟩⟩ := hm
    obtain ⟨cs, rfl, hc⟩ := hS
    rw [List.length_map, List.length_map] at hl
    have hsz := sg_size cs (by omega)
    walk_at "gc"
    rw [join_sg]
    exact k ⟨cs.toArray⟩ (nameB_sg cs (by omega) (by omega) hc) _ he
theorem ok_l_mixed (T : Tx K mg) : FnOk P w K mg base CX0 1 T.f_l_mixed T.fd_l_mixed ["_law_cell", "_law_k"] (sp_i2 mixedI) := by
  refine T.F_l_mixed.ok sc_l_mixed (fun vs H Q E h => ?_) (fun cdv A outer s H vs Q E hr h => ?_)
  · first | (obtain ⟨rfl, _⟩ := h; rfl) | (obtain ⟨_, rfl, _⟩ := h; rfl) | (obtain ⟨_, _, rfl, _⟩ := h; rfl) | (obtain ⟨_, _, _, rfl, _⟩ := h; rfl) | (obtain ⟨_, _, _, _, rfl, _⟩ := h; rfl) | (obtain ⟨_, _, _, _, _, rfl, _⟩ := h; rfl) | (obtain ⟨_, _, _, _, _, _, rfl, _⟩ := h; rfl) | (obtain ⟨_, _, _, _, _, _, _, rfl, _⟩ := h; rfl) | (obtain ⟨_, _, _, _, _, _, _, _, rfl, _⟩ := h; rfl)
  · obtain ⟨c, e, rfl, k⟩ := h
    refine ⟨_, (pss_one (ps_ret (pe_op op_mod (pe_op op_mul (pe_op op_add (pe_op op_add (pe_op op_mod (pv 0) pe_int) (pe_op op_mul pe_int (pv 1))) pe_int) pe_int) pe_int))), ?_⟩
    walk_at "gc"
    exact k
/-- page_by(.., size): some page -/
def sp_page_by (K : PySem.W.Frag) : Sp := fun vs H Q _ => ∃ n m s : Int, vs = [.int n, .int m, .int s] ∧ 0 ≤ s ∧ s ≤ 100 ∧ ∀ p kvs ks f H', H p = none → Ex H H' → H' p = some (.dK kvs) → PgK K H' kvs ks f → NN f → NmP ks f → ks.length ≤ 100 → Q (.ref p) H'
theorem ok_l_page_by (T : Tx K mg) : FnOk P w K mg base CX0 2 T.f_l_page_by T.fd_l_page_by ["_law_names", "_law_shares", "_law_size"] (sp_page_by K) := by
  refine T.F_l_page_by.ok sc_l_page_by (fun vs H Q E h => ?_) (fun cdv A outer s H vs Q E hr h => ?_)
  · first | (obtain ⟨rfl, _⟩ := h; rfl) | (obtain ⟨_, rfl, _⟩ := h; rfl) | (obtain ⟨_, _, rfl, _⟩ := h; rfl) | (obtain ⟨_, _, _, rfl, _⟩ := h; rfl) | (obtain ⟨_, _, _, _, rfl, _⟩ := h; rfl) | (obtain ⟨_, _, _, _, _, rfl, _⟩ := h; rfl) | (obtain ⟨_, _, _, _, _, _, rfl, _⟩ := h; rfl) | (obtain ⟨_, _, _, _, _, _, _, rfl, _⟩ := h; rfl) | (obtain ⟨_, _, _, _, _, _, _, _, rfl, _⟩ := h; rfl)
  · obtain ⟨n, m, s, rfl, h0, h1, k⟩ := h
    refine ⟨_, (pss_cons (ps_set (i := 3) sc_l_page_by.nd rfl (Or.inl rfl) pe_dnewK) (pss_cons (ps_for PassesOwn.never rfl (pi_range1 rfl T.n_range (pa_cons (pv 2) pa_nil)) (pg_name (i := 4) sc_l_page_by.nd rfl (Or.inl rfl)) (pss_cons (ps_set (i := 5) sc_l_page_by.nd rfl (Or.inl rfl) (pe_tup (pa_cons (pe_call (ok_l_number_by T) (hr.mono (by decide)) rfl T.m_l_number_by T.F_l_number_by.kp T.b_l_number_by .nil pass0 (pa_cons (pe_call (ok_l_mixed T) (hr.mono (by decide)) rfl T.m_l_mixed T.F_l_mixed.kp T.b_l_mixed .nil pass0 (pa_cons (pv 1) (pa_cons (pe_op op_mul pe_int (pv 4)) pa_nil))) pa_nil)) (pa_cons (pe_call (ok_l_number_by T) (hr.mono (by decide)) rfl T.m_l_number_by T.F_l_number_by.kp T.b_l_number_by .nil pass0 (pa_cons (pe_call (ok_l_mixed T) (hr.mono (by decide)) rfl T.m_l_mixed T.F_l_mixed.kp T.b_l_mixed .nil pass0 (pa_cons (pv 1) (pa_cons (pe_op op_add (pe_op op_mul pe_int (pv 4)) pe_int) pa_nil))) pa_nil)) pa_nil)))) (pss_cut (ps_if (pt_cmpR (op_eqD hr.units) (pv 5) (pe_tup (pa_cons pe_int (pa_cons pe_int pa_nil))) (nomark _)) (pss_one (ps_set (i := 5) sc_l_page_by.nd rfl (Or.inl rfl) (pe_tup (pa_cons pe_int (pa_cons pe_int pa_nil))))) pss_nil) (pss_one (ps_dput (hu_of hr) (pv 3) (pe_call (ok_l_name_by T) (hr.mono (by decide)) rfl T.m_l_name_by T.F_l_name_by.kp T.b_l_name_by .nil pass0 (pa_cons (pe_call (ok_l_mixed T) (hr.mono (by decide)) rfl T.m_l_mixed T.F_l_mixed.kp T.b_l_mixed .nil pass0 (pa_cons (pv 0) (pa_cons (pv 4) pa_nil))) pa_nil)) (pv 5) rfl))))) (pss_one (ps_ret (pv 3))))), ?_⟩
    walk_at "gc"
    rename_i D hD H1 e1 f1
    refine for_it (walk_range (lo := 0) (n := s.toNat)) (fun i σ' H' => Hold (∃ v4 v5 kvs ks f, σ' = [some (.int n), some (.int m), some (.int s), some (.ref D), v4, v5] ∧ H' D = some (.dK kvs) ∧ PgK K H' kvs ks f ∧ NN f ∧ NmP ks f ∧ Hold (ks.length ≤ i) ∧ Ex H H')) ⟨⟨_, _, _, _, _, rfl, f1, PgK.nil, NN.zero, NmP.nil, ⟨Nat.le_refl _⟩, e1⟩⟩ (fun _ _ _ _ _ => trivial) (fun i x σ' H2 H3 hi hp hy => ?_) (fun σ' H2 hp => ?_)
    · obtain ⟨⟨v4, v5, kvs, ks, f, rfl, hd, hp, hn, hm, hlen, he⟩⟩ := hp
      obtain ⟨rfl, rfl⟩ := hy
      walk_at "gc"
      rename_i t ht H4 e4 f4
      have q1 := (numberBy_in (mixed_0 m (2 * (0 + (i : Int))))).1
      have q2 := (numberBy_in (mixed_0 m (2 * (0 + (i : Int)) + 1))).1
      generalize numberBy (mixedI m (2 * (0 + (i : Int)))) = a at f4 q1
      generalize numberBy (mixedI m (2 * (0 + (i : Int)) + 1)) = b at f4 q2
      refine ⟨fun σ' H' => Hold (∃ (t' : Addr) (a b : Int), σ' = [some (.int n), some (.int m), some (.int s), some (.ref D), some (.int (0 + (i : Int))), some (.ref t')] ∧ ShAt K H' t' a b ∧ 0 ≤ a ∧ 0 ≤ b ∧ (0 < a ∨ 0 < b) ∧ Ex H3 H'), ?_, fun σ' H' hm' => ?_⟩
      · have s1 : ShAt K H4 t a b := by walk_at "gc_at"
        walk_at "gc"
        rename_i u hu H5 e5 f5
        refine Gc.sheq_go (a := a) (b := b) (c := 0) (d := 0) (by walk_at "gc_at") (by walk_at "gc_at") ?_
        cases hq : (decide (a = 0) && decide (b = 0)) with
        | true =>
          walk_at "gc"
          rename_i w hw H6 e6 f6
          exact ⟨⟨w, 1, 0, rfl, by walk_at "gc_at", by decide, by decide, .inl (by decide), by walk_at "gc_ex"⟩⟩
        | false =>
          walk_at "gc"
          exact ⟨⟨t, a, b, rfl, by walk_at "gc_at", q1, q2, pos_of q1 q2 hq, by walk_at "gc_ex"⟩⟩
      obtain ⟨⟨t', a', b', rfl, hs', ha', hb', hpos', he'⟩⟩ := hm'
      walk_at "gc"
      rename_i z hz H5 e5
      have hd5 : H5 D = some (.dK kvs) := by walk_at "gc_at"
      refine ⟨DPut.k (k := .inr z) hd5 (Evl.sz_lt (by have := hp.len; have := hlen.it; omega)), ?_⟩
      have hp5 := (hp.et (by walk_at "gc_et")).put (z := z) (show ShAt K H5 t' a' b' by walk_at "gc_at")
      exact ⟨⟨_, _, _, _, _, rfl, upd_same, hp5.et (Et.dK hd5), hn.set ha' hb', hm.add hz hpos', ⟨by have := len_addK (ks := ks) (z := z); have := hlen.it; omega⟩, Ex.mut (by walk_at "gc_ex") hD⟩⟩
    · obtain ⟨⟨v4, v5, kvs, ks, f, rfl, hd, hp, hn, hm, hlen, he⟩⟩ := hp
      walk_at "gc"
      exact k D kvs ks f H2 hD he hd hp hn hm (by have := hlen.it; omega)
/-- near_by(page, ..): some page beside it -/
def sp_near_by (K : PySem.W.Frag) : Sp := fun vs H Q _ => ∃ (d : Addr) (kvs : List (Key × V)) (ks : List Str) (f : Sh) (c : Int), vs = [.ref d, .int c] ∧ H d = some (.dK kvs) ∧ PgK K H kvs ks f ∧ NN f ∧ NmOk ks ∧ ks.length ≤ 100 ∧
  ∀ p kvs' ms g H', H p = none → Ex H H' → H' p = some (.dK kvs') → PgK K H' kvs' ms g → NN g → NmP ms g → ms.length ≤ 200 → Q (.ref p) H'
theorem ok_l_near_by (T : Tx K mg) : FnOk P w K mg base CX0 2 T.f_l_near_by T.fd_l_near_by ["_law_page", "_law_cell"] (sp_near_by K) := by
  refine T.F_l_near_by.ok sc_l_near_by (fun vs H Q E h => ?_) (fun cdv A outer s H vs Q E hr h => ?_)
  · first | (obtain ⟨rfl, _⟩ := h; rfl) | (obtain ⟨_, rfl, _⟩ := h; rfl) | (obtain ⟨_, _, rfl, _⟩ := h; rfl) | (obtain ⟨_, _, _, rfl, _⟩ := h; rfl) | (obtain ⟨_, _, _, _, rfl, _⟩ := h; rfl) | (obtain ⟨_, _, _, _, _, rfl, _⟩ := h; rfl) | (obtain ⟨_, _, _, _, _, _, rfl, _⟩ := h; rfl) | (obtain ⟨_, _, _, _, _, _, _, rfl, _⟩ := h; rfl) | (obtain ⟨_, _, _, _, _, _, _, _, rfl, _⟩ := h; rfl)
  · obtain ⟨d, kvs, ks, f, c, rfl, hd, hp, hnn, hnm, hlen, k⟩ := h
    refine ⟨_, (pss_cons (ps_set (i := 2) sc_l_near_by.nd rfl (Or.inl rfl) pe_dnewK) (pss_cons (ps_lock (ps_for PassesOwn.never rfl (pi_enumD (by rfl) T.n_enumerate (pa_cons (pv 0) pa_nil)) (pg_tup rfl (pgs_cons (pg_name (i := 3) sc_l_near_by.nd rfl (Or.inl rfl)) (pgs_cons (pg_name (i := 4) sc_l_near_by.nd rfl (Or.inl rfl)) pgs_nil))) (pss_cons (ps_set (i := 5) sc_l_near_by.nd rfl (Or.inl rfl) (pe_op op_mod (pe_call (ok_l_mixed T) (hr.mono (by decide)) rfl T.m_l_mixed T.F_l_mixed.kp T.b_l_mixed .nil pass0 (pa_cons (pv 1) (pa_cons (pv 3) pa_nil))) pe_int)) (pss_cons (ps_set (i := 6) sc_l_near_by.nd rfl (Or.inl rfl) (pe_dget (hu_of hr) (pv 0) (pv 4) (fun _ _ => rfl))) (pss_cut (ps_if (pt_cmpR op_eq (pv 5) pe_int (nomark _)) (pss_one (ps_set (i := 6) sc_l_near_by.nd rfl (Or.inl rfl) (pe_tup (pa_cons (pe_callB (call_min2 rfl) (by rfl) T.n_min PyProof.Rows.boot_min (pa_cons (pe_op op_add (pe_ix ix_tup (pv 6) pe_int (fun _ _ => rfl)) pe_int) (pa_cons (pe_op op_sub (pe_op op_pow pe_int pe_int) pe_int) pa_nil))) (pa_cons (pe_ix ix_tup (pv 6) pe_int (fun _ _ => rfl)) pa_nil))))) pss_nil) (pss_cut (ps_if (pt_cmpR op_eq (pv 5) pe_int (nomark _)) (pss_one (ps_set (i := 6) sc_l_near_by.nd rfl (Or.inl rfl) (pe_tup (pa_cons (pe_ix ix_tup (pv 6) pe_int (fun _ _ => rfl)) (pa_cons (pe_callB (call_min2 rfl) (by rfl) T.n_min PyProof.Rows.boot_min (pa_cons (pe_op op_add (pe_ix ix_tup (pv 6) pe_int (fun _ _ => rfl)) pe_int) (pa_cons (pe_op op_sub (pe_op op_pow pe_int pe_int) pe_int) pa_nil))) pa_nil))))) pss_nil) (pss_cut (ps_if (pt_cmpR op_eq (pv 5) pe_int (nomark _)) (pss_one (ps_set (i := 6) sc_l_near_by.nd rfl (Or.inl rfl) (pe_tup (pa_cons (pe_op op_fdiv (pe_ix ix_tup (pv 6) pe_int (fun _ _ => rfl)) pe_int) (pa_cons (pe_callB (call_min2 rfl) (by rfl) T.n_min PyProof.Rows.boot_min (pa_cons (pe_op op_add (pe_ix ix_tup (pv 6) pe_int (fun _ _ => rfl)) pe_int) (pa_cons (pe_op op_sub (pe_op op_pow pe_int pe_int) pe_int) pa_nil))) pa_nil))))) pss_nil) (pss_cut (ps_if (PW.pt (pw_and (pt_cmpR op_gt (pv 5) pe_int (nomark _)) (pw_and1 (pt_cmpR (op_neD hr.units) (pv 6) (pe_tup (pa_cons pe_int (pa_cons pe_int pa_nil))) (nomark _))))) (pss_one (ps_dput (hu_of hr) (pv 2) (pv 4) (pv 6) rfl)) pss_nil) (pss_one (ps_if (pt_cmpR op_eq (pv 5) pe_int (nomark _)) (pss_cons (ps_set (i := 7) sc_l_near_by.nd rfl (Or.inl rfl) (pe_op op_mod (pe_op op_fdiv (pe_call (ok_l_mixed T) (hr.mono (by decide)) rfl T.m_l_mixed T.F_l_mixed.kp T.b_l_mixed .nil pass0 (pa_cons (pv 1) (pa_cons (pv 3) pa_nil))) pe_int) (pe_callB call_len_str (by rfl) T.n_len PySem.boot_len (pa_cons (pv 4) pa_nil)))) (pss_cons (ps_set (i := 8) sc_l_near_by.nd rfl (Or.inl rfl) (pe_op op_add_str (pe_op op_add_str (pe_slice sl_str (pv 4) po_none (po_some (pv 7))) (pe_ix ix_str pe_str (pe_op op_mod (pe_op op_fdiv (pe_call (ok_l_mixed T) (hr.mono (by decide)) rfl T.m_l_mixed T.F_l_mixed.kp T.b_l_mixed .nil pass0 (pa_cons (pv 1) (pa_cons (pv 3) pa_nil))) pe_int) pe_int) (fun _ _ => rfl))) (pe_slice sl_str (pv 4) (po_some (pe_op op_add (pv 7) pe_int)) po_none))) (pss_one (ps_dput (hu_of hr) (pv 2) (pv 8) (pe_tup (pa_cons (pe_ix ix_tup (pv 6) pe_int (fun _ _ => rfl)) (pa_cons pe_int pa_nil))) rfl)))) pss_nil)))))))))) (pss_one (ps_ret (pv 2))))), ?_⟩
    walk_at "gc"
    rename_i D hD H1 e1 f1
    have hd1 : H1 d = some (.dK kvs) := e1 _ _ hd
    have hDd : D ≠ d := fun z => by subst z; rw [hd] at hD; cases hD
    refine Gc.lock_go hd1 (fun od H2 hh2 er ul oth => ?_)
    walk_at "gc"
    have hl2 := hp.len
    refine for_it walk_enumK (fun i σ' H' => Hold (∃ v4 v5 v6 v7 v8 v9 kvs' ms g, σ' = [some (.ref d), some (.int c), some (.ref D), v4, v5, v6, v7, v8, v9] ∧ H' D = some (.dK kvs') ∧ PgK K H' kvs' ms g ∧ NN g ∧ NmP ms g ∧ Hold (ms.length ≤ 2 * i) ∧ Exs (fun a => a = d) H H' ∧ Et K H H' ∧ H' d = some (.frz od (.dK kvs)))) ⟨⟨_, _, _, _, _, _, _, _, _, rfl, (oth D hDd).trans f1, PgK.nil, NN.zero, NmP.nil, ⟨Nat.le_refl _⟩, fun a o n q => (oth a n).trans (e1 a o q), (Et.of e1).trans er.et, hh2⟩⟩ (fun _ _ _ _ hp => by obtain ⟨⟨_, _, _, _, _, _, _, _, _, _, _, _, _, _, _, _, _, e⟩⟩ := hp; exact e) (fun i x σ' H3 H4 hi hp' hy => ?_) (fun σ' H3 hp' => ?_)
    · obtain ⟨⟨v4, v5, v6, v7, v8, v9, kvs', ms, g, rfl, hpp, hpk, hng, hnmm, hml, hxs, het, hee⟩⟩ := hp'
      obtain ⟨T, key, y, rfl, hT, hX, hky⟩ := hy
      obtain ⟨z, rfl, hz, hzm⟩ := hp.key_at hky
      obtain ⟨t, ht, hst⟩ := hp.there hzm
      have e4 : Ex H3 H4 := Gc.ab_ex hT hX.symm
      have f4 := Gc.ab_at hX.symm
      clear hX
      have hs4 := (het.trans (Et.of e4)).tp _ _ hst
      have hee4 := e4 _ _ hee
      have hpp4 := e4 _ _ hpp
      walk_at "gc"
      refine ⟨Gc.dget_k (k := .inr z) (.inr ⟨_, hee4⟩) ht, ?_⟩
      walk_at "gc"
      have hz1 := (nameB_iff z).mp (hnm z hzm)
      refine ⟨fun σ' H' => Hold (∃ (t : Addr) (a b : Int), σ' = [some (.ref d), some (.int c), some (.ref D), some (.int (i : Nat)), some (.str z), some (.int (mixedI c i % 6)), some (.ref t), v8, v9] ∧ ShAt K H' t a b ∧ 0 ≤ a ∧ 0 ≤ b ∧ Ex H4 H'), ?_, fun σ' H5 hm => ?_⟩
      · walk_at "gc"
        refine Gc.eqI_2 (fun c1 => ?_) (fun c1 => ?_)
        · walk_at "gc"
          exact ⟨⟨_, _, _, rfl, by walk_at "gc_at", min_0 (by have := (hnn z).1; omega) (by decide), (hnn z).2, by walk_at "gc_ex"⟩⟩
        · exact ⟨⟨t, _, _, rfl, hs4, (hnn z).1, (hnn z).2, Ex.refl _⟩⟩
      obtain ⟨⟨t5, a5, b5, rfl, hs5, ha5, hb5, e5⟩⟩ := hm
      refine ⟨fun σ' H' => Hold (∃ (t : Addr) (a b : Int), σ' = [some (.ref d), some (.int c), some (.ref D), some (.int (i : Nat)), some (.str z), some (.int (mixedI c i % 6)), some (.ref t), v8, v9] ∧ ShAt K H' t a b ∧ 0 ≤ a ∧ 0 ≤ b ∧ Ex H5 H'), ?_, fun σ' H6 hm => ?_⟩
      · walk_at "gc"
        refine Gc.eqI_2 (fun c1 => ?_) (fun c1 => ?_)
        · walk_at "gc"
          exact ⟨⟨_, _, _, rfl, by walk_at "gc_at", ha5, min_0 (by omega) (by decide), by walk_at "gc_ex"⟩⟩
        · exact ⟨⟨t5, _, _, rfl, hs5, ha5, hb5, Ex.refl _⟩⟩
      obtain ⟨⟨t6, a6, b6, rfl, hs6, ha6, hb6, e6⟩⟩ := hm
      refine ⟨fun σ' H' => Hold (∃ (t : Addr) (a b : Int), σ' = [some (.ref d), some (.int c), some (.ref D), some (.int (i : Nat)), some (.str z), some (.int (mixedI c i % 6)), some (.ref t), v8, v9] ∧ ShAt K H' t a b ∧ 0 ≤ a ∧ 0 ≤ b ∧ Ex H6 H'), ?_, fun σ' H7 hm => ?_⟩
      · walk_at "gc"
        refine Gc.eqI_2 (fun c1 => ?_) (fun c1 => ?_)
        · walk_at "gc"
          exact ⟨⟨_, _, _, rfl, by walk_at "gc_at", by omega, min_0 (by omega) (by decide), by walk_at "gc_ex"⟩⟩
        · exact ⟨⟨t6, _, _, rfl, hs6, ha6, hb6, Ex.refl _⟩⟩
      obtain ⟨⟨t7, a7, b7, rfl, hs7, ha7, hb7, e7⟩⟩ := hm
      have e47 : Ex H4 H7 := (e5.trans e6).trans e7
      have hpp7 := e47 _ _ hpp4
      have hpk7 := hpk.et ((Et.of e4).trans (Et.of e47))
      have hxs7 : Exs (fun a => a = d) H H7 := (hxs.trans (Exs.of e4)).trans (Exs.of e47)
      have het7 := (het.trans (Et.of e4)).trans (Et.of e47)
      have hee7 := e47 _ _ hee4
      clear hs4 hee4 hpp4 hpk hxs het hee hpp e5 e6 e7 hs5 hs6 ht e47 e4 f4
      refine ⟨fun σ' H' => Hold (∃ kvs' ms g, σ' = [some (.ref d), some (.int c), some (.ref D), some (.int (i : Nat)), some (.str z), some (.int (mixedI c i % 6)), some (.ref t7), v8, v9] ∧ H' D = some (.dK kvs') ∧ PgK K H' kvs' ms g ∧ NN g ∧ NmP ms g ∧ Hold (ms.length ≤ 2 * i + 1) ∧ Exs (fun a => a = d) H H' ∧ Et K H H' ∧ H' d = some (.frz od (.dK kvs)) ∧ ShAt K H' t7 a7 b7), ?_, fun σ' H8 hm => ?_⟩
      · walk_at "gc"
        refine Gc.lt_2 (fun c1 => ?_) (fun c1 => ?_)
        · walk_at "gc"
          rename_i u hu H8 e8 f8
          refine Gc.shne_go (a := a7) (b := b7) (c := 0) (d := 0) (by walk_at "gc_at") (by walk_at "gc_at") ?_
          have hpp8 := e8 _ _ hpp7
          have hs8 : ShAt K H8 t7 a7 b7 := Er.sqT (Er.of e8) hs7
          cases hq : (decide (a7 = 0) && decide (b7 = 0)) with
          | true =>
            walk_at "gc"
            exact ⟨⟨_, _, _, rfl, hpp8, hpk7.et (Et.of e8), hng, hnmm, ⟨by have := hml.it; omega⟩, hxs7.trans (Exs.of e8), het7.trans (Et.of e8), e8 _ _ hee7, hs8⟩⟩
          | false =>
            walk_at "gc"
            refine ⟨DPut.k (k := .inr z) hpp8 (Evl.sz_lt (by have := hpk7.len; have := hml.it; omega)), ?_⟩
            have q := (hpk7.et (Et.of e8)).put (z := z) hs8
            exact ⟨⟨_, _, _, rfl, upd_same, q.et (Et.dK hpp8), hng.set ha7 hb7, hnmm.add (hnm z hzm) (pos_of ha7 hb7 hq), ⟨by have := len_addK (ks := ms) (z := z); have := hml.it; omega⟩, (hxs7.trans (Exs.of e8)).mut (.inr hD), (het7.trans (Et.of e8)).trans (Et.dK hpp8), by rw [upd_ne (Ne.symm hDd)]; exact e8 _ _ hee7, (Et.dK hpp8).tp _ _ hs8⟩⟩
        · exact ⟨⟨_, _, _, rfl, hpp7, hpk7, hng, hnmm, ⟨by have := hml.it; omega⟩, hxs7, het7, hee7, hs7⟩⟩
      clear hpp7 hpk7 hng hnmm hml hxs7 het7 hee7 hs7
      obtain ⟨⟨kvs', ms, g, rfl, hpp, hpk, hng, hnmm, hml, hxs, het, hee, hs8⟩⟩ := hm
      walk_at "gc"
      refine Gc.eqI_2 (fun c1 => ?_) (fun c1 => ?_)
      · have m1 := mod_in (a := mixedI c i / 6) (b := ((z.length : Nat) : Int)) (by omega)
        have m2 := mod_in (a := mixedI c i / 48) (b := 26) (by decide)
        obtain ⟨s, hs, hmem⟩ := atI_in (xs := LET.cps.toList) m2.1 m2.2
        have g0 : z.length ≤ sizeLine := Evl.sz_of (by omega)
        have hw : nameB ((cutS z none (some (mixedI c i / 6 % ((z.length : Nat) : Int))) ++ ⟨#[s]⟩ : Str) ++ cutS z (some (mixedI c i / 6 % ((z.length : Nat) : Int) + 1)) none) = true := by
          obtain ⟨n, hn⟩ : ∃ n : Nat, mixedI c i / 6 % ((z.length : Nat) : Int) = n := ⟨(mixedI c i / 6 % ((z.length : Nat) : Int)).toNat, by omega⟩
          rw [hn]
          exact nameB_twin (hnm z hzm) hmem (by omega)
        have g1 : (cutS z none (some (mixedI c i / 6 % ((z.length : Nat) : Int)))).length + (⟨#[s]⟩ : Str).length ≤ sizeLine := Evl.sz_of (by have := cutS_length z none (some (mixedI c i / 6 % ((z.length : Nat) : Int))); show _ + 1 ≤ 100000; omega)
        have g2 : ((cutS z none (some (mixedI c i / 6 % ((z.length : Nat) : Int))) ++ ⟨#[s]⟩ : Str)).length + (cutS z (some (mixedI c i / 6 % ((z.length : Nat) : Int) + 1)) none).length ≤ sizeLine := Evl.sz_of (by
          have := cutS_length z none (some (mixedI c i / 6 % ((z.length : Nat) : Int)))
          have := cutS_length z (some (mixedI c i / 6 % ((z.length : Nat) : Int) + 1)) none
          rw [app_len]
          show _ + 1 + _ ≤ 100000
          omega)
        walk_at "gc"
        rename_i u hu H9 e9 f9
        have hpp9 := e9 _ _ hpp
        refine ⟨DPut.k (k := .inr _) hpp9 (Evl.sz_lt (by have := hpk.len; have := hml.it; omega)), ?_⟩
        have q := (hpk.et (Et.of e9)).put (z := (cutS z none (some (mixedI c i / 6 % ((z.length : Nat) : Int))) ++ ⟨#[s]⟩ : Str) ++ cutS z (some (mixedI c i / 6 % ((z.length : Nat) : Int) + 1)) none) (show ShAt K H9 u a7 3 by walk_at "gc_at")
        exact ⟨⟨_, _, _, _, _, _, _, _, _, rfl, upd_same, q.et (Et.dK hpp9), hng.set ha7 (by decide), hnmm.add hw (.inr (by decide)), ⟨by have := hml.it; exact Nat.le_trans len_addK (by omega)⟩, (hxs.trans (Exs.of e9)).mut (.inr hD), (het.trans (Et.of e9)).trans (Et.dK hpp9), by rw [upd_ne (Ne.symm hDd)]; exact e9 _ _ hee⟩⟩
      · exact ⟨⟨_, _, _, _, _, _, _, _, _, rfl, hpp, hpk, hng, hnmm, ⟨by have := hml.it; omega⟩, hxs, het, hee⟩⟩
    · obtain ⟨⟨v4, v5, v6, v7, v8, v9, kvs', ms, g, rfl, hpp, hpk, hng, hnmm, hml, hxs, het, hee⟩⟩ := hp'
      have hfin := k D kvs' ms g (upd H3 d (.dK kvs)) hD (hxs.unlock hd (fun a h => .inl h)) (by rw [upd_ne hDd]; exact hpp) (hpk.et (Er.unlock hee).et) hng hnmm (by have := hml.it; omega)
      walk_at "gc"
      exact hfin
/-- the law's own lacking -/
def sp_l_lacking (K : PySem.W.Frag) : Sp := fun vs H Q _ => ∃ (d e : Addr) (kvs : List (Key × V)) (ks : List Str) (f : Sh) (kvs2 : List (Key × V)) (ls : List Str) (g : Sh), vs = [.ref d, .ref e] ∧ Rd H d (.dK kvs) ∧ H e = some (.dK kvs2) ∧ PgK K H kvs ks f ∧ PgK K H kvs2 ls g ∧ ls.length ≤ 1000 ∧
  ∀ p kvs' H', H p = none → Ex H H' → H' p = some (.dK kvs') → PgK K H' kvs' (lackK ls f g) (lackF f g) → Q (.ref p) H'
theorem ok_l_lacking (T : Tx K mg) : FnOk P w K mg base CX0 1 T.f_l_lacking T.fd_l_lacking ["_law_one", "_law_other"] (sp_l_lacking K) := by
  refine T.F_l_lacking.ok sc_l_lacking (fun vs H Q E h => ?_) (fun cdv A outer s H vs Q E hr h => ?_)
  · first | (obtain ⟨rfl, _⟩ := h; rfl) | (obtain ⟨_, rfl, _⟩ := h; rfl) | (obtain ⟨_, _, rfl, _⟩ := h; rfl) | (obtain ⟨_, _, _, rfl, _⟩ := h; rfl) | (obtain ⟨_, _, _, _, rfl, _⟩ := h; rfl) | (obtain ⟨_, _, _, _, _, rfl, _⟩ := h; rfl) | (obtain ⟨_, _, _, _, _, _, rfl, _⟩ := h; rfl) | (obtain ⟨_, _, _, _, _, _, _, rfl, _⟩ := h; rfl) | (obtain ⟨_, _, _, _, _, _, _, _, rfl, _⟩ := h; rfl)
  · obtain ⟨d, e, kvs, ks, f, kvs2, ls, g, rfl, hd, he, hp, hq, hlen, k⟩ := h
    refine ⟨_, (pss_cons (ps_set (i := 2) sc_l_lacking.nd rfl (Or.inl rfl) pe_dnewK) (pss_cons (ps_lock (ps_for PassesOwn.never rfl (pi_keys (pv 1)) (pg_name (i := 3) sc_l_lacking.nd rfl (Or.inl rfl)) (pss_cons (ps_set (i := 4) sc_l_lacking.nd rfl (Or.inl rfl) (pe_dget2 (hu_of hr) (pv 0) (pv 3) (pe_tup (pa_cons pe_int (pa_cons pe_int pa_nil))) ⟨rfl, rfl, rfl, rfl⟩)) (pss_one (ps_if (PW.pt (pw_or (pt_cmpR op_gt (pe_ix ix_tup (pe_dget (hu_of hr) (pv 1) (pv 3) (fun _ _ => rfl)) pe_int (fun _ _ => rfl)) (pe_ix ix_tup (pv 4) pe_int (fun _ _ => rfl)) (nomark _)) (pw_or1 (pt_cmpR op_gt (pe_ix ix_tup (pe_dget (hu_of hr) (pv 1) (pv 3) (fun _ _ => rfl)) pe_int (fun _ _ => rfl)) (pe_ix ix_tup (pv 4) pe_int (fun _ _ => rfl)) (nomark _))))) (pss_one (ps_dput (hu_of hr) (pv 2) (pv 3) (pe_dget (hu_of hr) (pv 1) (pv 3) (fun _ _ => rfl)) rfl)) pss_nil))))) (pss_one (ps_ret (pv 2))))), ?_⟩
    walk_at "gc"
    rename_i p hp0 H1 e1 f1
    have he1 : H1 e = some (.dK kvs2) := e1 _ _ he
    have hpe : p ≠ e := fun z => by subst z; rw [he] at hp0; cases hp0
    refine Gc.lock_go he1 (fun od H2 hh2 er ul oth => ?_)
    walk_at "gc"
    refine Or.inl ⟨kvs2, hh2, ?_⟩
    have hl2 := hq.len
    refine for_it walk_keys (fun i σ' H' => Hold (∃ v4 v5 kvs', σ' = [some (.ref d), some (.ref e), some (.ref p), v4, v5] ∧ H' p = some (.dK kvs') ∧ PgK K H' kvs' (lackK (ls.take i) f g) (lackP (ls.take i) f g) ∧ Exs (fun a => a = e) H H' ∧ Er H H' ∧ H' e = some (.frz od (.dK kvs2)))) ⟨⟨_, _, _, rfl, (oth p hpe).trans f1, by rw [List.take_zero, lackP_nil]; exact PgK.nil, fun a o n q => (oth a n).trans (e1 a o q), (Er.of e1).trans er, hh2⟩⟩ (fun _ _ _ _ hp => by obtain ⟨⟨_, _, _, _, _, _, _, _, e⟩⟩ := hp; exact e) (fun i x σ' H3 H4 hi hp' hy => ?_) (fun σ' H3 hp' => ?_)
    · obtain ⟨⟨v4, v5, kvs', rfl, hpp, hpk, hxs, her, hee⟩⟩ := hp'
      obtain ⟨rfl, key, y, hky, rfl⟩ := hy
      obtain ⟨z, rfl, hz, hzm⟩ := hq.key_at hky
      obtain ⟨t2, ht2, hs2⟩ := hq.there hzm
      have hs3 := her.sqT hs2
      have hd3 := her.rd hd
      have hp3 := hp.et her.et
      clear hs2 hd hp
      walk_at "gc"
      rename_i u hu H5 e5 f5
      refine ⟨_, Gc.dget_o (.inr z) ((Er.of e5).rd hd3), ?_⟩
      obtain ⟨t, ht, hst⟩ : ∃ t, (valV kvs (.inr z)).getD (.ref u) = .ref t ∧ ShAt K H5 t (f z).1 (f z).2 := by
        by_cases c : z ∈ ks
        · obtain ⟨t, ht, hs⟩ := hp3.there c
          exact ⟨t, by rw [ht]; rfl, Er.sqT (Er.of e5) hs⟩
        · exact ⟨u, by rw [hp3.miss c]; rfl, by rw [hp3.out z c]; walk_at "gc_at"⟩
      rw [ht]
      have hee5 : Rd H5 e (.dK kvs2) := .inr ⟨_, e5 _ _ hee⟩
      have hs5 : ShAt K H5 t2 (g z).1 (g z).2 := Er.sqT (Er.of e5) hs3
      have hpp5 := e5 _ _ hpp
      walk_at "gc"
      refine ⟨Gc.dget_k (k := .inr z) hee5 ht2, ?_⟩
      walk_at "gc"
      cases hb : reachB (f z).1 (f z).2 (g z).1 (g z).2 with
      | true =>
        obtain ⟨q1, q2⟩ := lack_yes hz (f := f) (g := g) hb
        obtain ⟨b1, b2⟩ := reach_both hb
        refine Gc.lt_f (by omega) ?_
        walk_at "gc"
        refine ⟨Gc.dget_k (k := .inr z) hee5 ht2, ?_⟩
        walk_at "gc"
        refine Gc.lt_f (by omega) ?_
        exact ⟨⟨_, _, _, rfl, hpp5, by rw [q1, q2]; exact hpk.et (Et.of e5), hxs.trans (Exs.of e5), her.trans (Er.of e5), e5 _ _ hee⟩⟩
      | false =>
        obtain ⟨q1, q2⟩ := lack_no hq.nd hz (f := f) (g := g) hb
        have q := (hpk.et (Et.of e5)).put (z := z) hs5
        rw [← q1, ← q2] at q
        have hlen2 : kvs'.length < sizeLine := Evl.sz_lt (by have := hpk.len; have := lackK_len (ls := ls.take i) (f := f) (g := g); rw [List.length_take] at this; omega)
        by_cases c1 : (f z).1 < (g z).1
        · refine Gc.lt_t c1 ?_
          walk_at "gc"
          refine ⟨Gc.dget_k (k := .inr z) hee5 ht2, ?_⟩
          walk_at "gc"
          refine ⟨DPut.k (k := .inr z) hpp5 hlen2, ?_⟩
          exact ⟨⟨_, _, _, rfl, upd_same, q.et (Et.dK hpp5), Exs.mut (hxs.trans (Exs.of e5)) (.inr hp0), er_mut (her.trans (Er.of e5)) hp0, by rw [upd_ne (Ne.symm hpe)]; exact e5 _ _ hee⟩⟩
        · refine Gc.lt_f c1 ?_
          walk_at "gc"
          refine ⟨Gc.dget_k (k := .inr z) hee5 ht2, ?_⟩
          walk_at "gc"
          refine Gc.lt_t (reach_not hb c1) ?_
          walk_at "gc"
          refine ⟨Gc.dget_k (k := .inr z) hee5 ht2, ?_⟩
          walk_at "gc"
          refine ⟨DPut.k (k := .inr z) hpp5 hlen2, ?_⟩
          exact ⟨⟨_, _, _, rfl, upd_same, q.et (Et.dK hpp5), Exs.mut (hxs.trans (Exs.of e5)) (.inr hp0), er_mut (her.trans (Er.of e5)) hp0, by rw [upd_ne (Ne.symm hpe)]; exact e5 _ _ hee⟩⟩
    · obtain ⟨⟨v4, v5, kvs', rfl, hpp, hpk, hxs, her, hee⟩⟩ := hp'
      rw [hl2, List.take_length, lackP_all hq.out] at hpk
      have hfin := k p kvs' (upd H3 e (.dK kvs2)) hp0 (hxs.unlock he (fun a h => .inl h)) (by rw [upd_ne hpe]; exact hpp) (hpk.et (Er.unlock hee).et)
      walk_at "gc"
      exact hfin
/-- truth(b, b) -/
def sp_truth : Sp := fun vs H Q _ => ∃ b : Bool, vs = [.bl b, .bl b] ∧ Q (.bl true) H
theorem ok_l_truth (T : Tx K mg) : FnOk P w K mg base CX0 1 T.f_l_truth T.fd_l_truth ["_law_found", "_law_due"] (sp_truth) := by
  refine T.F_l_truth.ok sc_l_truth (fun vs H Q E h => ?_) (fun cdv A outer s H vs Q E hr h => ?_)
  · first | (obtain ⟨rfl, _⟩ := h; rfl) | (obtain ⟨_, rfl, _⟩ := h; rfl) | (obtain ⟨_, _, rfl, _⟩ := h; rfl) | (obtain ⟨_, _, _, rfl, _⟩ := h; rfl) | (obtain ⟨_, _, _, _, rfl, _⟩ := h; rfl) | (obtain ⟨_, _, _, _, _, rfl, _⟩ := h; rfl) | (obtain ⟨_, _, _, _, _, _, rfl, _⟩ := h; rfl) | (obtain ⟨_, _, _, _, _, _, _, rfl, _⟩ := h; rfl) | (obtain ⟨_, _, _, _, _, _, _, _, rfl, _⟩ := h; rfl)
  · obtain ⟨b, rfl, k⟩ := h
    refine ⟨_, (pss_one (ps_ret (pe_and (pe_callB call_isi (by rfl) T.n_isinstance PyProof.Rows.boot_isinstance (pa_cons (pv 0) (pa_cons (pe_bltn (v := .ty "bool") (by rfl) T.n_bool PyProof.Rows.boot_bool rfl) pa_nil))) (pe_one (pe_cmpR op_eq (pv 0) (pv 1) (nomark _)))))), ?_⟩
    walk_at "gc"
    exact Gc.bl_eq (decide_eq_true rfl) k
/-- cell_at(script, k) -/
def sp_cell_at (K : PySem.W.Frag) : Sp := fun vs H Q _ => ∃ (a : Addr) (ns : List Int) (j : Int), vs = [.ref a, .int j] ∧ SqL K H a (ns.map V.int) ∧ 0 ≤ j ∧ Q (.int (cellI ns j)) H
theorem ok_l_cell_at (T : Tx K mg) : FnOk P w K mg base CX0 1 T.f_l_cell_at T.fd_l_cell_at ["_law_script", "_law_k"] (sp_cell_at K) := by
  refine T.F_l_cell_at.ok sc_l_cell_at (fun vs H Q E h => ?_) (fun cdv A outer s H vs Q E hr h => ?_)
  · first | (obtain ⟨rfl, _⟩ := h; rfl) | (obtain ⟨_, rfl, _⟩ := h; rfl) | (obtain ⟨_, _, rfl, _⟩ := h; rfl) | (obtain ⟨_, _, _, rfl, _⟩ := h; rfl) | (obtain ⟨_, _, _, _, rfl, _⟩ := h; rfl) | (obtain ⟨_, _, _, _, _, rfl, _⟩ := h; rfl) | (obtain ⟨_, _, _, _, _, _, rfl, _⟩ := h; rfl) | (obtain ⟨_, _, _, _, _, _, _, rfl, _⟩ := h; rfl) | (obtain ⟨_, _, _, _, _, _, _, _, rfl, _⟩ := h; rfl)
  · obtain ⟨a, ns, j, rfl, hs, h0, k⟩ := h
    refine ⟨_, (pss_cons (ps_if (pt_cmpR op_lt (pv 1) (pe_callB call_len_seq (by rfl) T.n_len PySem.boot_len (pa_cons (pv 0) pa_nil)) (nomark _)) (pss_one (ps_ret (pe_ix ix_list (pv 0) (pv 1) (fun _ _ => rfl)))) pss_nil) (pss_one (ps_ret pe_int))), ?_⟩
    walk_at "gc"
    rw [List.length_map]
    refine Gc.lt_2 (fun hc => ?_) (fun hc => ?_)
    · have hj : j.toNat < ns.length := by omega
      have ej : j = ((j.toNat : Nat) : Int) := by omega
      refine ⟨_, rfl, _, rfl, _, _, _, _, rfl, rfl, hs, (by rw [ej]; exact atI_nat (by rw [List.getElem?_map, List.getElem?_eq_getElem hj]; rfl)), ?_⟩
      have e : cellI ns j = ns[j.toNat] := by unfold cellI; simp [hj]
      rw [e] at k
      exact k
    · have hj : ns.length ≤ j.toNat := by omega
      have e : cellI ns j = 0 := by unfold cellI; simp [hj]
      rw [e] at k
      exact k
/-- reaches((a, b), (c, d)) -/
def sp_reaches (K : PySem.W.Frag) : Sp := fun vs H Q _ => ∃ (t u : Addr) (a b c d : Int), vs = [.ref t, .ref u] ∧ ShAt K H t a b ∧ ShAt K H u c d ∧ Q (.bl (reachB a b c d)) H
theorem ok_reaches (T : Tx K mg) : FnOk P w K mg base CX0 1 T.f_reaches T.fd_reaches ["one", "other"] (sp_reaches K) := by
  refine T.F_reaches.ok sc_reaches (fun vs H Q E h => ?_) (fun cdv A outer s H vs Q E hr h => ?_)
  · first | (obtain ⟨rfl, _⟩ := h; rfl) | (obtain ⟨_, rfl, _⟩ := h; rfl) | (obtain ⟨_, _, rfl, _⟩ := h; rfl) | (obtain ⟨_, _, _, rfl, _⟩ := h; rfl) | (obtain ⟨_, _, _, _, rfl, _⟩ := h; rfl) | (obtain ⟨_, _, _, _, _, rfl, _⟩ := h; rfl) | (obtain ⟨_, _, _, _, _, _, rfl, _⟩ := h; rfl) | (obtain ⟨_, _, _, _, _, _, _, rfl, _⟩ := h; rfl) | (obtain ⟨_, _, _, _, _, _, _, _, rfl, _⟩ := h; rfl)
  · obtain ⟨t, u, a, b, c, d, rfl, h1, h2, k⟩ := h
    refine ⟨_, (pss_one (ps_ret (pe_and (pe_cmpR op_ge (pe_ix ix_tup (pv 0) pe_int (fun _ _ => rfl)) (pe_ix ix_tup (pv 1) pe_int (fun _ _ => rfl)) (nomark _)) (pe_one (pe_cmpR op_ge (pe_ix ix_tup (pv 0) pe_int (fun _ _ => rfl)) (pe_ix ix_tup (pv 1) pe_int (fun _ _ => rfl)) (nomark _)))))), ?_⟩
    walk_at "gc"
    refine Gc.and_ev (decide (d ≤ b)) (fun _ Q' q => by walk_at "gc"; exact q) ?_
    exact k
/-- share_of(page, name) -/
def sp_share_of (K : PySem.W.Frag) : Sp := fun vs H Q _ => ∃ (d : Addr) (z : Str) (kvs : List (Key × V)) (ks : List Str) (f : Sh), vs = [.ref d, .str z] ∧ Rd H d (.dK kvs) ∧ PgK K H kvs ks f ∧ ∀ t H', Ex H H' → ShAt K H' t (f z).1 (f z).2 → Q (.ref t) H'
theorem ok_share_of (T : Tx K mg) : FnOk P w K mg base CX0 1 T.f_share_of T.fd_share_of ["page", "name"] (sp_share_of K) := by
  refine T.F_share_of.ok sc_share_of (fun vs H Q E h => ?_) (fun cdv A outer s H vs Q E hr h => ?_)
  · first | (obtain ⟨rfl, _⟩ := h; rfl) | (obtain ⟨_, rfl, _⟩ := h; rfl) | (obtain ⟨_, _, rfl, _⟩ := h; rfl) | (obtain ⟨_, _, _, rfl, _⟩ := h; rfl) | (obtain ⟨_, _, _, _, rfl, _⟩ := h; rfl) | (obtain ⟨_, _, _, _, _, rfl, _⟩ := h; rfl) | (obtain ⟨_, _, _, _, _, _, rfl, _⟩ := h; rfl) | (obtain ⟨_, _, _, _, _, _, _, rfl, _⟩ := h; rfl) | (obtain ⟨_, _, _, _, _, _, _, _, rfl, _⟩ := h; rfl)
  · obtain ⟨d, z, kvs, ks, f, rfl, hd, hp, k⟩ := h
    refine ⟨_, (pss_one (ps_ret (pe_dget2 (hu_of hr) (pv 0) (pv 1) (pe_tup (pa_cons pe_int (pa_cons pe_int pa_nil))) ⟨rfl, rfl, rfl, rfl⟩))), ?_⟩
    walk_at "gc"
    refine ⟨_, Gc.dget_o (.inr z) (by walk_at "gc_at"), ?_⟩
    by_cases c : z ∈ ks
    · obtain ⟨t, ht, hs⟩ := hp.there c
      rw [ht]
      exact k t _ (by walk_at "gc_ex") (by walk_at "gc_at")
    · rw [hp.miss c]
      refine k _ _ (by walk_at "gc_ex") ?_
      rw [hp.out z c]
      walk_at "gc_at"
/-- lacking(one, other) -/
def sp_lacking (K : PySem.W.Frag) : Sp := fun vs H Q _ => ∃ (d e : Addr) (kvs : List (Key × V)) (ks : List Str) (f : Sh) (kvs2 : List (Key × V)) (ls : List Str) (g : Sh), vs = [.ref d, .ref e] ∧ Rd H d (.dK kvs) ∧ Rd H e (.dK kvs2) ∧ PgK K H kvs ks f ∧ PgK K H kvs2 ls g ∧ ls.length ≤ 1000 ∧
  ∀ p kvs' ms H', H p = none → Ex H H' → H' p = some (.dK kvs') → PgK K H' kvs' ms (lackF f g) → PyProof.Rows.sortedS ms = true → (∀ z, z ∈ ms ↔ z ∈ lackK ls f g) → ms.length ≤ ls.length → Q (.ref p) H'
theorem ok_lacking (T : Tx K mg) : FnOk P w K mg base CX0 2 T.f_lacking T.fd_lacking ["one", "other"] (sp_lacking K) := by
  refine T.F_lacking.ok sc_lacking (fun vs H Q E h => ?_) (fun cdv A outer s H vs Q E hr h => ?_)
  · first | (obtain ⟨rfl, _⟩ := h; rfl) | (obtain ⟨_, rfl, _⟩ := h; rfl) | (obtain ⟨_, _, rfl, _⟩ := h; rfl) | (obtain ⟨_, _, _, rfl, _⟩ := h; rfl) | (obtain ⟨_, _, _, _, rfl, _⟩ := h; rfl) | (obtain ⟨_, _, _, _, _, rfl, _⟩ := h; rfl) | (obtain ⟨_, _, _, _, _, _, rfl, _⟩ := h; rfl) | (obtain ⟨_, _, _, _, _, _, _, rfl, _⟩ := h; rfl) | (obtain ⟨_, _, _, _, _, _, _, _, rfl, _⟩ := h; rfl)
  · obtain ⟨d, e, kvs, ks, f, kvs2, ls, g, rfl, hd, he, hp, hq, hlen, k⟩ := h
    refine ⟨_, (pss_cons (ps_set (i := 2) sc_lacking.nd rfl (Or.inl rfl) pe_dnewK) (pss_cons (ps_for PassesOwn.never rfl (pi_list (pe_callB (cr_sortedDA rfl) (by rfl) T.n_sorted PyProof.Rows.boot_sorted (pa_cons (pv 1) pa_nil))) (pg_name (i := 3) sc_lacking.nd rfl (Or.inl rfl)) (pss_one (ps_if (pt_not (pt_val (pe_call (ok_reaches T) (hr.mono (by decide)) rfl T.m_reaches T.F_reaches.kp T.b_reaches .nil pass0 (pa_cons (pe_call (ok_share_of T) (hr.mono (by decide)) rfl T.m_share_of T.F_share_of.kp T.b_share_of .nil pass0 (pa_cons (pv 0) (pa_cons (pv 3) pa_nil))) (pa_cons (pe_dget (hu_of hr) (pv 1) (pv 3) (fun _ _ => rfl)) pa_nil))))) (pss_one (ps_dput (hu_of hr) (pv 2) (pv 3) (pe_dget (hu_of hr) (pv 1) (pv 3) (fun _ _ => rfl)) rfl)) pss_nil))) (pss_one (ps_ret (pv 2))))), ?_⟩
    have hk2 := hq.keys
    walk_at "gc"
    rename_i p hp0 H1 e1 f1 ys hperm hys l2 hl2 H2 e2 f2
    have hnd : ys.Nodup := hperm.nodup_iff.mpr hq.nd
    have hmem : ∀ z, z ∈ ys ↔ z ∈ ls := fun z => hperm.mem_iff
    have hyl : ys.length = ls.length := hperm.length_eq
    have fp2 : H2 p = some (.dK []) := by walk_at "gc_at"
    have e02 : Ex H H2 := by walk_at "gc_ex"
    have hl2p : l2 ≠ p := fun z => by rw [z, f1] at hl2; cases hl2
    clear e1 f1 e2
    refine for_it (walk_list (xs := ys.map V.str)) (fun i σ' H' => Hold (∃ v kvs', σ' = [some (.ref d), some (.ref e), some (.ref p), v] ∧ H' p = some (.dK kvs') ∧ PgK K H' kvs' (lackK (ys.take i) f g) (lackP (ys.take i) f g) ∧ Ex H H' ∧ H' l2 = some (.lst (ys.map V.str)))) ⟨⟨_, _, rfl, fp2, by rw [List.take_zero, lackP_nil]; exact PgK.nil, e02, f2⟩⟩ (fun _ _ _ _ hp => by obtain ⟨⟨_, _, _, _, _, _, e⟩⟩ := hp; exact Evl.sq_of e) (fun i x σ' H6 H7 hi hp' hy => ?_) (fun σ' H6 hp' => ?_)
    · obtain ⟨⟨v, kvs', rfl, hpg, hpk, he6, hl6⟩⟩ := hp'
      obtain ⟨rfl, hxi⟩ := hy
      rw [List.getElem?_map] at hxi
      cases hz : ys[i]? with
      | none => rw [hz] at hxi; cases hxi
      | some z =>
        rw [hz] at hxi
        cases hxi
        have hzm : z ∈ ls := (hmem z).mp (List.mem_of_getElem? hz)
        obtain ⟨t, ht, hs⟩ := hq.there hzm
        have hs6 := (Et.of he6).tp _ _ hs
        have hd6 := (Er.of he6).rd hd
        have hq6 := (Er.of he6).rd he
        have hp6 := hp.et (Et.of he6)
        clear hd he hp hs
        walk_at "gc"
        rename_i t1 H8 e8 s1
        refine ⟨Gc.dget_k (k := .inr z) ((Er.of e8).rd hq6) ht, ?_⟩
        have hs8 := Er.sqT (Er.of e8) hs6
        have hpg8 := e8 _ _ hpg
        walk_at "gc"
        cases hb : reachB (f z).1 (f z).2 (g z).1 (g z).2 with
        | true =>
          obtain ⟨q1, q2⟩ := lack_yes hz (f := f) (g := g) hb
          walk_at "gc"
          exact ⟨⟨_, _, rfl, hpg8, by rw [q1, q2]; exact hpk.et (Et.of e8), he6.trans e8, e8 _ _ hl6⟩⟩
        | false =>
          obtain ⟨q1, q2⟩ := lack_no hnd hz (f := f) (g := g) hb
          walk_at "gc"
          refine ⟨Gc.dget_k (k := .inr z) ((Er.of e8).rd hq6) ht, ?_⟩
          walk_at "gc"
          refine ⟨DPut.k (k := .inr z) hpg8 (Evl.sz_lt (by have := hpk.len; have := lackK_len (ls := ys.take i) (f := f) (g := g); rw [List.length_take] at this; omega)), ?_⟩
          have q := (hpk.et (Et.of e8)).put (z := z) hs8
          refine ⟨⟨_, _, rfl, upd_same, by rw [q1, q2]; exact q.et (Et.dK hpg8), Ex.mut (he6.trans e8) hp0, ?_⟩⟩
          rw [upd_ne hl2p]
          exact e8 _ _ hl6
    · obtain ⟨⟨v, kvs', rfl, hpg, hpk, he6, hl6⟩⟩ := hp'
      rw [List.length_map, List.take_length, lackP_all (fun z hz => hq.out z fun c => hz ((hmem z).mpr c))] at hpk
      walk_at "gc"
      exact k p kvs' _ H6 hp0 he6 hpg hpk (sorted_filter _ hys) (fun z => mem_lackK.trans ((and_congr_left' (hmem z)).trans mem_lackK.symm)) (Nat.le_trans lackK_len (Nat.le_of_eq hyl))
/-- knows(one, other) -/
def sp_knows (K : PySem.W.Frag) : Sp := fun vs H Q _ => ∃ (d e : Addr) (kvs : List (Key × V)) (ks : List Str) (f : Sh) (kvs2 : List (Key × V)) (ls : List Str) (g : Sh), vs = [.ref d, .ref e] ∧ Rd H d (.dK kvs) ∧ H e = some (.dK kvs2) ∧ PgK K H kvs ks f ∧ PgK K H kvs2 ls g ∧ ls.length ≤ 1000 ∧
  ∀ H', Ex H H' → Q (.bl (ls.all fun z => rchB f g z)) H'
theorem ok_knows (T : Tx K mg) : FnOk P w K mg base CX0 2 T.f_knows T.fd_knows ["one", "other"] (sp_knows K) := by
  refine T.F_knows.ok sc_knows (fun vs H Q E h => ?_) (fun cdv A outer s H vs Q E hr h => ?_)
  · first | (obtain ⟨rfl, _⟩ := h; rfl) | (obtain ⟨_, rfl, _⟩ := h; rfl) | (obtain ⟨_, _, rfl, _⟩ := h; rfl) | (obtain ⟨_, _, _, rfl, _⟩ := h; rfl) | (obtain ⟨_, _, _, _, rfl, _⟩ := h; rfl) | (obtain ⟨_, _, _, _, _, rfl, _⟩ := h; rfl) | (obtain ⟨_, _, _, _, _, _, rfl, _⟩ := h; rfl) | (obtain ⟨_, _, _, _, _, _, _, rfl, _⟩ := h; rfl) | (obtain ⟨_, _, _, _, _, _, _, _, rfl, _⟩ := h; rfl)
  · obtain ⟨d, e0, kvs, ks, f, kvs2, ls, g, rfl, hd, he, hp, hq, hlen, k⟩ := h
    refine ⟨_, (pss_one (ps_ret (pe_callB (cr_all rfl) (by rfl) T.n_all PyProof.Rows.boot_all (pa_cons (pe_lock (pe_lc (own := [("name", 2)]) (g := gName 2) (tt := tYes) rfl sc_knows.nd (pi_keys (pv 1)) (blkOk_by (own := [("name", 2)]) (N := ["one", "other", "name"]) (sc := defScope s_knows) (by decide +kernel)) (fun _ _ _ _ _ => pg_name (i := 2) sc_knows.nd rfl (Or.inl rfl)) (fun _ _ _ _ _ => pts_nil) (fun _ _ _ _ _ => (pe_call (ok_reaches T) (hr.mono (by decide)) rfl T.m_reaches T.F_reaches.kp T.b_reaches .nil pass0 (pa_cons (pe_call (ok_share_of T) (hr.mono (by decide)) rfl T.m_share_of T.F_share_of.kp T.b_share_of .nil pass0 (pa_cons (pv 0) (pa_cons (pv 2) pa_nil))) (pa_cons (pe_dget (hu_of hr) (pv 1) (pv 2) (fun _ _ => rfl)) pa_nil)))))) pa_nil)))), ?_⟩
    walk_at "gc"
    refine Gc.lockE_go he (fun od H1 h1 er ul => ?_)
    walk_at "gc"
    refine Or.inl ⟨kvs2, h1, ?_⟩
    walk_at "gc"
    rename_i D hD
    have hkl := hq.len
    have hd1 := er.rd hd
    have hp1 := hp.et er.et
    refine Gc.lc_go walk_keys (fun i acc _ => acc = (ls.take i).map fun z => V.bl (rchB f g z)) (by omega) hD (fun H' e => e _ _ h1) (fun _ _ _ _ h => h) (fun _ _ => rfl) (fun i x acc H2 Kk Nn hi hy e hD2 p hK hN => ?_) (fun acc H2 e hD2 p => ?_)
    · obtain ⟨key, y, hky, rfl⟩ := hy
      obtain ⟨z, rfl, hz, hzm⟩ := hq.key_at hky
      obtain ⟨t, ht, hs⟩ := hq.there hzm
      have e2 : Et K H H2 := er.et.trans (Et.of e)
      have hs2 := e2.tp _ _ hs
      have h12 := e _ _ h1
      have hd2 := (Er.of e).rd hd1
      have hp2 := hp1.et (Et.of e)
      clear hd hd1 hp hp1 hs
      walk_at "gc"
      rename_i t1 H3 e3 s3
      refine ⟨Gc.dget_k (k := .inr z) (.inr ⟨_, e3 _ _ h12⟩) ht, ?_⟩
      have hs3 := Er.sqT (Er.of e3) hs2
      walk_at "gc"
      refine hK _ _ (by walk_at "gc_ex") ?_
      rw [p, take_snoc hz, List.map_append]
      rfl
    · refine ⟨e _ _ h1, ?_⟩
      have hk2 := k _ (ul _ e)
      rw [hkl, List.take_length] at p
      have e3 : acc = (ls.map fun z => rchB f g z).map V.bl := by rw [p, List.map_map]; rfl
      subst e3
      have hdd : e0 ≠ D := fun z => by rw [← z, h1] at hD; cases hD
      refine ⟨D, _, rfl, .inl (.inl (by rw [upd_ne (Ne.symm hdd)]; exact hD2)), ?_⟩
      exact Gc.bl_eq (by rw [List.all_map]; rfl) hk2
/-- whole(i), i a whole number -/
def sp_whole : Sp := fun vs H Q _ => ∃ i : Int, vs = [.int i] ∧ Q (.bl true) H
theorem ok_l_whole (T : Tx K mg) : FnOk P w K mg base CX0 1 T.f_l_whole T.fd_l_whole ["_law_found"] (sp_whole) := by
  refine T.F_l_whole.ok sc_l_whole (fun vs H Q E h => ?_) (fun cdv A outer s H vs Q E hr h => ?_)
  · first | (obtain ⟨rfl, _⟩ := h; rfl) | (obtain ⟨_, rfl, _⟩ := h; rfl) | (obtain ⟨_, _, rfl, _⟩ := h; rfl) | (obtain ⟨_, _, _, rfl, _⟩ := h; rfl) | (obtain ⟨_, _, _, _, rfl, _⟩ := h; rfl) | (obtain ⟨_, _, _, _, _, rfl, _⟩ := h; rfl) | (obtain ⟨_, _, _, _, _, _, rfl, _⟩ := h; rfl) | (obtain ⟨_, _, _, _, _, _, _, rfl, _⟩ := h; rfl) | (obtain ⟨_, _, _, _, _, _, _, _, rfl, _⟩ := h; rfl)
  · obtain ⟨i, rfl, k⟩ := h
    refine ⟨_, (pss_one (ps_ret (pe_and (pe_callB call_isi (by rfl) T.n_isinstance PyProof.Rows.boot_isinstance (pa_cons (pv 0) (pa_cons (pe_bltn (v := .ty "int") (by rfl) T.n_int PyProof.Rows.boot_int rfl) pa_nil))) (pe_one (pe_not (pe_callB call_isi (by rfl) T.n_isinstance PyProof.Rows.boot_isinstance (pa_cons (pv 0) (pa_cons (pe_bltn (v := .ty "bool") (by rfl) T.n_bool PyProof.Rows.boot_bool rfl) pa_nil)))))))), ?_⟩
    walk_at "gc"
    exact k
/-- share(found, due): both are the pair (a, b) -/
def sp_share (K : PySem.W.Frag) : Sp := fun vs H Q _ => ∃ (t u : Addr) (a b : Int), vs = [.ref t, .ref u] ∧ ShAt K H t a b ∧ ShAt K H u a b ∧ Q (.bl true) H
theorem ok_l_share (T : Tx K mg) : FnOk P w K mg base CX0 2 T.f_l_share T.fd_l_share ["_law_found", "_law_due"] (sp_share K) := by
  refine T.F_l_share.ok sc_l_share (fun vs H Q E h => ?_) (fun cdv A outer s H vs Q E hr h => ?_)
  · first | (obtain ⟨rfl, _⟩ := h; rfl) | (obtain ⟨_, rfl, _⟩ := h; rfl) | (obtain ⟨_, _, rfl, _⟩ := h; rfl) | (obtain ⟨_, _, _, rfl, _⟩ := h; rfl) | (obtain ⟨_, _, _, _, rfl, _⟩ := h; rfl) | (obtain ⟨_, _, _, _, _, rfl, _⟩ := h; rfl) | (obtain ⟨_, _, _, _, _, _, rfl, _⟩ := h; rfl) | (obtain ⟨_, _, _, _, _, _, _, rfl, _⟩ := h; rfl) | (obtain ⟨_, _, _, _, _, _, _, _, rfl, _⟩ := h; rfl)
  · obtain ⟨t, u, a, b, rfl, h1, h2, k⟩ := h
    refine ⟨_, (pss_cons (ps_if (PW.pt (pw_or (pt_not (pt_val (pe_callB call_isi (by rfl) T.n_isinstance PyProof.Rows.boot_isinstance (pa_cons (pv 0) (pa_cons (pe_bltn (v := .ty "tuple") (by rfl) T.n_tuple PyProof.Rows.boot_tuple rfl) pa_nil))))) (pw_or1 (pt_cmpR op_ne (pe_callB call_len_seq (by rfl) T.n_len PySem.boot_len (pa_cons (pv 0) pa_nil)) pe_int (nomark _))))) (pss_one (ps_ret pe_bl)) pss_nil) (pss_one (ps_ret (pe_and (pe_call (ok_l_whole T) (hr.mono (by decide)) rfl T.m_l_whole T.F_l_whole.kp T.b_l_whole .nil pass0 (pa_cons (pe_ix ix_tup (pv 0) pe_int (fun _ _ => rfl)) pa_nil)) (pe_and (pe_call (ok_l_whole T) (hr.mono (by decide)) rfl T.m_l_whole T.F_l_whole.kp T.b_l_whole .nil pass0 (pa_cons (pe_ix ix_tup (pv 0) pe_int (fun _ _ => rfl)) pa_nil)) (pe_and (pe_cmpR op_eq (pe_ix ix_tup (pv 0) pe_int (fun _ _ => rfl)) (pe_ix ix_tup (pv 1) pe_int (fun _ _ => rfl)) (nomark _)) (pe_one (pe_cmpR op_eq (pe_ix ix_tup (pv 0) pe_int (fun _ _ => rfl)) (pe_ix ix_tup (pv 1) pe_int (fun _ _ => rfl)) (nomark _))))))))), ?_⟩
    walk_at "gc"
    show Q (V.bl (decide (V.int b = V.int b))) _
    rw [decide_eq_true rfl]
    exact k
/-- same(found, due): the same page, found in sorted order -/
def sp_same (K : PySem.W.Frag) : Sp := fun vs H Q _ => ∃ (d e : Addr) (kvs : List (Key × V)) (ks : List Str) (f : Sh) (kvs2 : List (Key × V)) (ls : List Str) (g : Sh), vs = [.ref d, .ref e] ∧ H d = some (.dK kvs) ∧ Rd H e (.dK kvs2) ∧ PgK K H kvs ks f ∧ PgK K H kvs2 ls g ∧
  PyProof.Rows.sortedS ks = true ∧ NmOk ks ∧ (∀ z, z ∈ ks ↔ z ∈ ls) ∧ (∀ z ∈ ks, f z = g z) ∧ ∀ H', Ex H H' → Q (.bl true) H'
theorem ok_l_same (T : Tx K mg) : FnOk P w K mg base CX0 3 T.f_l_same T.fd_l_same ["_law_found", "_law_due"] (sp_same K) := by
  refine T.F_l_same.ok sc_l_same (fun vs H Q E h => ?_) (fun cdv A outer s H vs Q E hr h => ?_)
  · first | (obtain ⟨rfl, _⟩ := h; rfl) | (obtain ⟨_, rfl, _⟩ := h; rfl) | (obtain ⟨_, _, rfl, _⟩ := h; rfl) | (obtain ⟨_, _, _, rfl, _⟩ := h; rfl) | (obtain ⟨_, _, _, _, rfl, _⟩ := h; rfl) | (obtain ⟨_, _, _, _, _, rfl, _⟩ := h; rfl) | (obtain ⟨_, _, _, _, _, _, rfl, _⟩ := h; rfl) | (obtain ⟨_, _, _, _, _, _, _, rfl, _⟩ := h; rfl) | (obtain ⟨_, _, _, _, _, _, _, _, rfl, _⟩ := h; rfl)
  · obtain ⟨d, e, kvs, ks, f, kvs2, ls, g, rfl, hd, he, hp, hq, hsort, hnm, hmem, hfg, k⟩ := h
    refine ⟨_, (pss_cons (ps_if (PW.pt (pw_or (pt_not (pt_val (pe_callB call_isi (by rfl) T.n_isinstance PyProof.Rows.boot_isinstance (pa_cons (pv 0) (pa_cons (pe_bltn (v := .ty "dict") (by rfl) T.n_dict PyProof.Rows.boot_dict rfl) pa_nil))))) (pw_or1 (pt_cmpR (op_neD hr.units) (pe_callTy (call_listD rfl) (by rfl) T.n_list PyProof.Rows.boot_list (pa_cons (pv 0) pa_nil)) (pe_callB (cr_sortedDA rfl) (by rfl) T.n_sorted PyProof.Rows.boot_sorted (pa_cons (pv 1) pa_nil)) (nomark _))))) (pss_one (ps_ret pe_bl)) pss_nil) (pss_cons (ps_lock (ps_for PassesOwn.never rfl (pi_keys (pv 0)) (pg_name (i := 2) sc_l_same.nd rfl (Or.inl rfl)) (pss_one (ps_if (PW.pt (pw_or (pt_not (pt_val (pe_callB call_isi (by rfl) T.n_isinstance PyProof.Rows.boot_isinstance (pa_cons (pv 2) (pa_cons (pe_bltn (v := .ty "str") (by rfl) T.n_str PyProof.Rows.boot_str rfl) pa_nil))))) (pw_or1 (pt_not (pt_val (pe_call (ok_l_share T) (hr.mono (by decide)) rfl T.m_l_share T.F_l_share.kp T.b_l_share .nil pass0 (pa_cons (pe_dget (hu_of hr) (pv 0) (pv 2) (fun _ _ => rfl)) (pa_cons (pe_dget (hu_of hr) (pv 1) (pv 2) (fun _ _ => rfl)) pa_nil)))))))) (pss_one (ps_ret pe_bl)) pss_nil)))) (pss_one (ps_ret pe_bl)))), ?_⟩
    have hk2 := hq.keys
    walk_at "gc"
    rename_i l1 hl1 H1 e1 f1 ys hperm hys l2 hl2 H2 e2 f2
    have hyk : ys = ks := sorted_unique hys hsort (hperm.nodup_iff.mpr hq.nd) hp.nd (fun z => hperm.mem_iff.trans (hmem z).symm)
    rw [hp.kst] at f1
    rw [hyk] at f2
    refine Gc.neS_go hnm (by walk_at "gc_at") (by walk_at "gc_at") ?_
    walk_at "gc"
    have hd2 : H2 d = some (.dK kvs) := by walk_at "gc_at"
    have e02 : Ex H H2 := by walk_at "gc_ex"
    refine Gc.lock_go hd2 (fun od H3 h3 er ul oth => ?_)
    walk_at "gc"
    refine Or.inl ⟨kvs, h3, ?_⟩
    refine for_it walk_keys (fun i σ' H' => Hold (∃ v, σ' = [some (.ref d), some (.ref e), v] ∧ H' = H3)) ⟨⟨_, rfl, rfl⟩⟩ (fun _ _ _ _ hp => by obtain ⟨⟨_, _, e⟩⟩ := hp; rw [e]; exact h3) (fun i x σ' H4 H5 hi hp' hy => ?_) (fun σ' H4 hp' => ?_)
    · obtain ⟨⟨v, rfl, rfl⟩⟩ := hp'
      obtain ⟨rfl, key, y, hky, rfl⟩ := hy
      obtain ⟨z, rfl, hz, hzm⟩ := hp.key_at hky
      obtain ⟨t, ht, hs⟩ := hp.there hzm
      obtain ⟨t2, ht2, hs2⟩ := hq.there ((hmem z).mp hzm)
      rw [← hfg z hzm] at hs2
      have s1 := er.sqT (Er.sqT (Er.of e02) hs)
      have s2 := er.sqT (Er.sqT (Er.of e02) hs2)
      have he3 := er.rd ((Er.of e02).rd he)
      walk_at "gc"
      refine ⟨Gc.dget_k (k := .inr z) (.inr ⟨_, h3⟩) ht, ?_⟩
      walk_at "gc"
      refine ⟨Gc.dget_k (k := .inr z) he3 ht2, ?_⟩
      walk_at "gc"
      exact ⟨⟨_, rfl, rfl⟩⟩
    · obtain ⟨⟨v, rfl, rfl⟩⟩ := hp'
      walk_at "gc"
      exact k _ (e02.trans (ul _ (Ex.refl _)))
theorem ok_law_k06 (T : Tx K mg) : FnOk P w K mg base CX0 4 T.f_law_k06 T.fd_law_k06 ["_law_script"] (sp_law K) := by
  refine T.F_law_k06.ok sc_law_k06 (fun vs H Q E h => ?_) (fun cdv A outer s H vs Q E hr h => ?_)
  · first | (obtain ⟨rfl, _⟩ := h; rfl) | (obtain ⟨_, rfl, _⟩ := h; rfl) | (obtain ⟨_, _, rfl, _⟩ := h; rfl) | (obtain ⟨_, _, _, rfl, _⟩ := h; rfl) | (obtain ⟨_, _, _, _, rfl, _⟩ := h; rfl) | (obtain ⟨_, _, _, _, _, rfl, _⟩ := h; rfl) | (obtain ⟨_, _, _, _, _, _, rfl, _⟩ := h; rfl) | (obtain ⟨_, _, _, _, _, _, _, rfl, _⟩ := h; rfl) | (obtain ⟨_, _, _, _, _, _, _, _, rfl, _⟩ := h; rfl)
  · obtain ⟨a, ns, rfl, hs, hl, k⟩ := h
    refine ⟨_, (pss_cut (ps_set (i := 1) sc_law_k06.nd rfl (Or.inl rfl) (pe_op op_mod (pe_call (ok_l_cell_at T) (hr.mono (by decide)) rfl T.m_l_cell_at T.F_l_cell_at.kp T.b_l_cell_at .nil pass0 (pa_cons (pv 0) (pa_cons pe_int pa_nil))) pe_int)) (pss_cut (ps_if (pt_cmpR op_eq (pe_op op_mod (pe_op op_fdiv (pe_call (ok_l_cell_at T) (hr.mono (by decide)) rfl T.m_l_cell_at T.F_l_cell_at.kp T.b_l_cell_at .nil pass0 (pa_cons (pv 0) (pa_cons pe_int pa_nil))) pe_int) pe_int) pe_int (nomark _)) (pss_one (ps_set (i := 1) sc_law_k06.nd rfl (Or.inl rfl) (pe_op op_add pe_int (pe_op op_mod (pe_op op_fdiv (pe_call (ok_l_cell_at T) (hr.mono (by decide)) rfl T.m_l_cell_at T.F_l_cell_at.kp T.b_l_cell_at .nil pass0 (pa_cons (pv 0) (pa_cons pe_int pa_nil))) pe_int) pe_int)))) pss_nil) (pss_cut (ps_set (i := 2) sc_law_k06.nd rfl (Or.inl rfl) (pe_call (ok_l_page_by T) (hr.mono (by decide)) rfl T.m_l_page_by T.F_l_page_by.kp T.b_l_page_by .nil pass0 (pa_cons (pe_call (ok_l_cell_at T) (hr.mono (by decide)) rfl T.m_l_cell_at T.F_l_cell_at.kp T.b_l_cell_at .nil pass0 (pa_cons (pv 0) (pa_cons pe_int pa_nil))) (pa_cons (pe_call (ok_l_cell_at T) (hr.mono (by decide)) rfl T.m_l_cell_at T.F_l_cell_at.kp T.b_l_cell_at .nil pass0 (pa_cons (pv 0) (pa_cons pe_int pa_nil))) (pa_cons (pv 1) pa_nil))))) (pss_cut (ps_set (i := 3) sc_law_k06.nd rfl (Or.inl rfl) (pe_call (ok_l_near_by T) (hr.mono (by decide)) rfl T.m_l_near_by T.F_l_near_by.kp T.b_l_near_by .nil pass0 (pa_cons (pv 2) (pa_cons (pe_call (ok_l_cell_at T) (hr.mono (by decide)) rfl T.m_l_cell_at T.F_l_cell_at.kp T.b_l_cell_at .nil pass0 (pa_cons (pv 0) (pa_cons pe_int pa_nil))) pa_nil)))) (pss_cut (ps_if (pt_cmpR op_eq (pe_op op_mod (pe_call (ok_l_cell_at T) (hr.mono (by decide)) rfl T.m_l_cell_at T.F_l_cell_at.kp T.b_l_cell_at .nil pass0 (pa_cons (pv 0) (pa_cons pe_int pa_nil))) pe_int) pe_int (nomark _)) (pss_cons (ps_set (i := 4) sc_law_k06.nd rfl (Or.inl rfl) (pe_call (ok_l_page_by T) (hr.mono (by decide)) rfl T.m_l_page_by T.F_l_page_by.kp T.b_l_page_by .nil pass0 (pa_cons (pe_call (ok_l_cell_at T) (hr.mono (by decide)) rfl T.m_l_cell_at T.F_l_cell_at.kp T.b_l_cell_at .nil pass0 (pa_cons (pv 0) (pa_cons pe_int pa_nil))) (pa_cons (pe_call (ok_l_cell_at T) (hr.mono (by decide)) rfl T.m_l_cell_at T.F_l_cell_at.kp T.b_l_cell_at .nil pass0 (pa_cons (pv 0) (pa_cons pe_int pa_nil))) (pa_cons (pe_op op_mod (pe_op op_fdiv (pe_call (ok_l_cell_at T) (hr.mono (by decide)) rfl T.m_l_cell_at T.F_l_cell_at.kp T.b_l_cell_at .nil pass0 (pa_cons (pv 0) (pa_cons pe_int pa_nil))) pe_int) pe_int) pa_nil))))) (pss_one (ps_lock (ps_for PassesOwn.never rfl (pi_keys (pv 4)) (pg_name (i := 5) sc_law_k06.nd rfl (Or.inl rfl)) (pss_one (ps_dput (hu_of hr) (pv 3) (pv 5) (pe_dget (hu_of hr) (pv 4) (pv 5) (fun _ _ => rfl)) rfl)))))) pss_nil) (pss_cut (ps_set (i := 6) sc_law_k06.nd rfl (Or.inl rfl) (pe_lst (pa_cons (pe_callTy call_dictD (by rfl) T.n_dict PyProof.Rows.boot_dict (pa_cons (pv 2) pa_nil)) (pa_cons (pe_callTy call_dictD (by rfl) T.n_dict PyProof.Rows.boot_dict (pa_cons (pv 3) pa_nil)) pa_nil)))) (pss_cut (ps_set (i := 7) sc_law_k06.nd rfl (Or.inl rfl) (pe_call (ok_l_lacking T) (hr.mono (by decide)) rfl T.m_l_lacking T.F_l_lacking.kp T.b_l_lacking .nil pass0 (pa_cons (pv 2) (pa_cons (pv 3) pa_nil)))) (pss_cut (ps_set (i := 8) sc_law_k06.nd rfl (Or.inl rfl) (pe_call (ok_l_lacking T) (hr.mono (by decide)) rfl T.m_l_lacking T.F_l_lacking.kp T.b_l_lacking .nil pass0 (pa_cons (pv 3) (pa_cons (pv 2) pa_nil)))) (pss_cut (ps_if (PW.pt (pw_or (pt_not (pt_val (pe_call (ok_l_same T) (hr.mono (by decide)) rfl T.m_l_same T.F_l_same.kp T.b_l_same .nil pass0 (pa_cons (pe_call (ok_lacking T) (hr.mono (by decide)) rfl T.m_lacking T.F_lacking.kp T.b_lacking .nil pass0 (pa_cons (pe_ix ix_list (pv 6) pe_int (fun _ _ => rfl)) (pa_cons (pe_ix ix_list (pv 6) pe_int (fun _ _ => rfl)) pa_nil))) (pa_cons (pv 7) pa_nil))))) (pw_or1 (pt_not (pt_val (pe_call (ok_l_same T) (hr.mono (by decide)) rfl T.m_l_same T.F_l_same.kp T.b_l_same .nil pass0 (pa_cons (pe_call (ok_lacking T) (hr.mono (by decide)) rfl T.m_lacking T.F_lacking.kp T.b_lacking .nil pass0 (pa_cons (pe_ix ix_list (pv 6) pe_int (fun _ _ => rfl)) (pa_cons (pe_ix ix_list (pv 6) pe_int (fun _ _ => rfl)) pa_nil))) (pa_cons (pv 8) pa_nil)))))))) (pss_one (ps_ret pe_bl)) pss_nil) (pss_cut (ps_if (pt_not (pt_val (pe_call (ok_l_truth T) (hr.mono (by decide)) rfl T.m_l_truth T.F_l_truth.kp T.b_l_truth .nil pass0 (pa_cons (pe_call (ok_knows T) (hr.mono (by decide)) rfl T.m_knows T.F_knows.kp T.b_knows .nil pass0 (pa_cons (pe_ix ix_list (pv 6) pe_int (fun _ _ => rfl)) (pa_cons (pe_ix ix_list (pv 6) pe_int (fun _ _ => rfl)) pa_nil))) (pa_cons (pe_cmpR (op_pgEq (hu70 hr)) (pv 7) pe_dnewK (nomark _)) pa_nil))))) (pss_one (ps_ret pe_bl)) pss_nil) (pss_cut (ps_if (pt_not (pt_val (pe_call (ok_l_truth T) (hr.mono (by decide)) rfl T.m_l_truth T.F_l_truth.kp T.b_l_truth .nil pass0 (pa_cons (pe_call (ok_knows T) (hr.mono (by decide)) rfl T.m_knows T.F_knows.kp T.b_knows .nil pass0 (pa_cons (pe_ix ix_list (pv 6) pe_int (fun _ _ => rfl)) (pa_cons (pe_ix ix_list (pv 6) pe_int (fun _ _ => rfl)) pa_nil))) (pa_cons (pe_cmpR (op_pgEq (hu70 hr)) (pv 8) pe_dnewK (nomark _)) pa_nil))))) (pss_one (ps_ret pe_bl)) pss_nil) (pss_cut (ps_set (i := 9) sc_law_k06.nd rfl (Or.inl rfl) (pe_lst (pa_cons (pe_call (ok_lacking T) (hr.mono (by decide)) rfl T.m_lacking T.F_lacking.kp T.b_lacking .nil pass0 (pa_cons pe_dnewK (pa_cons (pe_ix ix_list (pv 6) pe_int (fun _ _ => rfl)) pa_nil))) (pa_cons (pe_call (ok_lacking T) (hr.mono (by decide)) rfl T.m_lacking T.F_lacking.kp T.b_lacking .nil pass0 (pa_cons (pe_ix ix_list (pv 6) pe_int (fun _ _ => rfl)) (pa_cons (pe_ix ix_list (pv 6) pe_int (fun _ _ => rfl)) pa_nil))) (pa_cons (pe_call (ok_lacking T) (hr.mono (by decide)) rfl T.m_lacking T.F_lacking.kp T.b_lacking .nil pass0 (pa_cons pe_dnewK (pa_cons (pe_ix ix_list (pv 6) pe_int (fun _ _ => rfl)) pa_nil))) pa_nil))))) (pss_cut (ps_expr (pe_bm PySem.F.plainAttrs_list PySem.F.slot_list_append PySem.F.type_list_append mt_append (pv 9) (pa_cons (pe_call (ok_lacking T) (hr.mono (by decide)) rfl T.m_lacking T.F_lacking.kp T.b_lacking .nil pass0 (pa_cons (pe_ix ix_list (pv 6) pe_int (fun _ _ => rfl)) (pa_cons (pe_ix ix_list (pv 6) pe_int (fun _ _ => rfl)) pa_nil))) pa_nil))) (pss_cut (ps_for PassesOwn.never rfl (pi_list (pv 9)) (pg_name (i := 10) sc_law_k06.nd rfl (Or.inl rfl)) (pss_one (ps_dput (hu_of hr) (pv 10) pe_str (pe_tup (pa_cons pe_int (pa_cons pe_int pa_nil))) rfl))) (pss_cut (ps_if (PW.pt (pw_or (pt_cmpR (op_pgEqN (hu70 hr)) (pe_call (ok_lacking T) (hr.mono (by decide)) rfl T.m_lacking T.F_lacking.kp T.b_lacking .nil pass0 (pa_cons (pe_ix ix_list (pv 6) pe_int (fun _ _ => rfl)) (pa_cons (pe_ix ix_list (pv 6) pe_int (fun _ _ => rfl)) pa_nil))) pe_dnewK (nomark _)) (pw_or1 (pt_not (pt_val (pe_call (ok_l_same T) (hr.mono (by decide)) rfl T.m_l_same T.F_l_same.kp T.b_l_same .nil pass0 (pa_cons (pe_call (ok_lacking T) (hr.mono (by decide)) rfl T.m_lacking T.F_lacking.kp T.b_lacking .nil pass0 (pa_cons (pe_ix ix_list (pv 6) pe_int (fun _ _ => rfl)) (pa_cons (pe_ix ix_list (pv 6) pe_int (fun _ _ => rfl)) pa_nil))) (pa_cons (pv 7) pa_nil)))))))) (pss_one (ps_ret pe_bl)) pss_nil) (pss_cut (ps_if (PW.pt (pw_or (pt_cmpR (op_pgEqN (hu70 hr)) (pe_ix ix_list (pv 6) pe_int (fun _ _ => rfl)) (pv 2) (nomark _)) (pw_or (pt_cmpR (op_pgEqN (hu70 hr)) (pe_ix ix_list (pv 6) pe_int (fun _ _ => rfl)) (pv 3) (nomark _)) (pw_or1 (pt_not (pt_val (pe_call (ok_l_same T) (hr.mono (by decide)) rfl T.m_l_same T.F_l_same.kp T.b_l_same .nil pass0 (pa_cons (pe_call (ok_lacking T) (hr.mono (by decide)) rfl T.m_lacking T.F_lacking.kp T.b_lacking .nil pass0 (pa_cons pe_dnewK (pa_cons (pe_ix ix_list (pv 6) pe_int (fun _ _ => rfl)) pa_nil))) (pa_cons (pv 3) pa_nil))))))))) (pss_one (ps_ret pe_bl)) pss_nil) (pss_cut (ps_if (PW.pt (pw_or (pt_cmpR op_isnot_bl (pe_call (ok_knows T) (hr.mono (by decide)) rfl T.m_knows T.F_knows.kp T.b_knows .nil pass0 (pa_cons (pe_callTy call_dictD (by rfl) T.n_dict PyProof.Rows.boot_dict (pa_cons (pv 2) pa_nil)) (pa_cons (pe_callTy call_dictD (by rfl) T.n_dict PyProof.Rows.boot_dict (pa_cons (pv 2) pa_nil)) pa_nil))) pe_bl (nomark _)) (pw_or1 (pt_cmpR op_isnot_bl (pe_call (ok_knows T) (hr.mono (by decide)) rfl T.m_knows T.F_knows.kp T.b_knows .nil pass0 (pa_cons (pe_callTy call_dictD (by rfl) T.n_dict PyProof.Rows.boot_dict (pa_cons (pv 2) pa_nil)) (pa_cons pe_dnewK pa_nil))) pe_bl (nomark _))))) (pss_one (ps_ret pe_bl)) pss_nil) (pss_one (ps_ret (pe_call (ok_l_truth T) (hr.mono (by decide)) rfl T.m_l_truth T.F_l_truth.kp T.b_l_truth .nil pass0 (pa_cons (pe_call (ok_knows T) (hr.mono (by decide)) rfl T.m_knows T.F_knows.kp T.b_knows .nil pass0 (pa_cons pe_dnewK (pa_cons (pe_callTy call_dictD (by rfl) T.n_dict PyProof.Rows.boot_dict (pa_cons (pv 2) pa_nil)) pa_nil))) (pa_cons (pe_cmpR (op_pgEq (hu70 hr)) (pv 2) pe_dnewK (nomark _)) pa_nil)))))))))))))))))))))), ?_⟩
    have m5 := mod_in (a := cellI ns 0) (b := 5) (by decide)
    have m56 := mod_in (a := cellI ns 0 / 40) (b := 56) (by decide)
    have m4 := mod_in (a := cellI ns 5 / 2) (b := 4) (by decide)
    refine Gc.op_go fun N9 R9 B9 E9 hN9 hR9 => ?_
    walk_at "gc"
    refine hN9 _ _ ?_
    clear hN9 hR9
    refine Gc.cut_go (fun σ' H' => Hold (∃ s : Int, σ' = [some (.ref a), some (.int s), none, none, none, none, none, none, none, none, none] ∧ H' = H ∧ 0 ≤ s ∧ s ≤ 100)) (fun R9 B9 E9 => ?_) (fun σ' H' hm => ?_)
    · walk_at "gc"
      refine Gc.eqI_2 (fun c1 => ?_) (fun c1 => ?_)
      · walk_at "gc"
        exact ⟨⟨_, rfl, rfl, by omega, by omega⟩⟩
      · exact ⟨⟨_, rfl, rfl, by omega, by omega⟩⟩
    obtain ⟨⟨s, rfl, rfl, s0, s1⟩⟩ := hm
    refine Gc.op_go fun N9 R9 B9 E9 hN9 hR9 => ?_
    walk_at "gc"
    rename_i o1 k1 n1 f1 H1 ho1 e1 r1 p1 q1 w1 l1
    have v1 := w1.nm
    refine hN9 _ _ ?_
    clear hN9 hR9
    refine Gc.op_go fun N9 R9 B9 E9 hN9 hR9 => ?_
    walk_at "gc"
    rename_i o2 k2 n2 f2 H2 ho2 e2 r2 p2 q2 w2 l2
    refine hN9 _ _ ?_
    clear hN9 hR9
    have h12 : o1 ≠ o2 := fun z => by rw [← z, r1] at ho2; cases ho2
    refine Gc.cut_go (fun σ' H9 => Hold (∃ v4 v5 k2 n2 f2, σ' = [some (.ref a), some (.int s), some (.ref o1), some (.ref o2), v4, v5, none, none, none, none, none] ∧ H9 o2 = some (.dK k2) ∧ PgK K H9 k2 n2 f2 ∧ NmP n2 f2 ∧ n2.length ≤ 400 ∧ Ex H1 H9)) (fun R9 B9 E9 => ?_) (fun σ' H9 hm => ?_)
    · walk_at "gc"
      refine Gc.eqI_2 (fun c1 => ?_) (fun c1 => ?_)
      · walk_at "gc"
        rename_i o3 k3 n3 f3 H3 ho3 e3 r3 p3 q3 w3 l3
        have h23 : o2 ≠ o3 := fun z => by rw [← z, r2] at ho3; cases ho3
        have r23 := e3 _ _ r2
        have p23 := p2.et (Et.of e3)
        have hln3 := p3.len
        refine Gc.lock_go r3 (fun od H4 h4 er4 ul4 oth4 => ?_)
        walk_at "gc"
        refine Or.inl ⟨k3, h4, ?_⟩
        refine Gc.for_go walk_keys (fun i σ' H' => Hold (∃ v5 k2 n2 f2, σ' = [some (.ref a), some (.int s), some (.ref o1), some (.ref o2), some (.ref o3), v5, none, none, none, none, none] ∧ H' o2 = some (.dK k2) ∧ PgK K H' k2 n2 f2 ∧ NmP n2 f2 ∧ Hold (n2.length ≤ 200 + i) ∧ Exs (fun b => b = o3 ∨ b = o2) H3 H' ∧ Et K H3 H' ∧ H' o3 = some (.frz od (.dK k3)))) ⟨⟨_, k2, n2, f2, rfl, (oth4 o2 h23).trans r23, p23.et er4.et, w2, ⟨by omega⟩, fun b o n q => (oth4 b (fun z => n (.inl z))).trans q, er4.et, h4⟩⟩ (fun _ _ _ _ hp => by obtain ⟨⟨_, _, _, _, _, _, _, _, _, _, _, e⟩⟩ := hp; exact e) (fun R9 B9 i x σ' H5 H6 hi hp' hy => ?_) (fun σ' H5 hp' => ?_)
        · obtain ⟨⟨v5, k2, n2, f2, rfl, hpp, hpk, hnmm, hml, hxs, het, hee⟩⟩ := hp'
          obtain ⟨rfl, key, y, hky, rfl⟩ := hy
          obtain ⟨z, rfl, hz, hzm⟩ := p3.key_at hky
          obtain ⟨t, ht, hst⟩ := p3.there hzm
          have hst2 := het.tp _ _ hst
          walk_at "gc"
          refine ⟨Gc.dget_k (k := .inr z) (.inr ⟨_, hee⟩) ht, ?_⟩
          walk_at "gc"
          refine ⟨DPut.k (k := .inr z) hpp (Evl.sz_lt (by have := hpk.len; have := hml.it; omega)), ?_⟩
          have q := hpk.put (z := z) hst2
          exact ⟨⟨_, _, _, _, rfl, upd_same, q.et (Et.dK hpp), hnmm.add (w3.nm z hzm) (w3.pos z hzm), ⟨by have := len_addK (ks := n2) (z := z); have := hml.it; omega⟩, hxs.mut (.inl (.inr rfl)), het.trans (Et.dK hpp), by rw [upd_ne (Ne.symm h23)]; exact hee⟩⟩
        obtain ⟨⟨v5', k2, n2, f2, rfl, hpp, hpk, hnmm, hml, hxs, het, hee⟩⟩ := hp'
        refine ⟨hee, ?_⟩
        refine ⟨⟨_, _, k2, n2, f2, rfl, by rw [upd_ne h23]; exact hpp, hpk.et (Er.unlock hee).et, hnmm, by have := hml.it; omega, ?_⟩⟩
        intro b o q
        have q3' := e3 _ _ (e2 _ _ q)
        by_cases c : b = o3
        · subst c
          rw [r3] at q3'
          cases q3'
          exact upd_same
        · rw [upd_ne c]
          exact hxs b o (fun z => z.elim c (fun z2 => by rw [z2, ho2] at q; cases q)) q3'
      · exact ⟨⟨_, _, k2, n2, f2, rfl, r2, p2, w2, by omega, e2⟩⟩
    clear r2 p2 q2 w2 l2 ho2 e2
    obtain ⟨⟨v4', v5', k2, n2, f2, rfl, r2, p2, w2, l2, e2⟩⟩ := hm
    have v2 := w2.nm
    have e02 := e1.trans e2
    replace r1 := e2 _ _ r1
    replace p1 := p1.et (Et.of e2)
    clear e1 e2 ho1
    refine Gc.cut_go (fun σ' H8 => Hold (∃ c1 c2 D, σ' = [some (.ref a), some (.int s), some (.ref o1), some (.ref o2), v4', v5', some (.ref D), none, none, none, none] ∧ C6 K H' H8 o1 o2 c1 c2 D k1 k2 n1 n2 f1 f2)) (fun R9 B9 E9 => ?_) (fun σ' H8 hm => ?_)
    · walk_at "gc"
      rename_i c1 hc1 H8 e8 x1 c2 hc2 H9 e9 x2 D hD H10 e10 x3
      exact ⟨⟨c1, c2, D, rfl, by walk_at "gc_at", by walk_at "gc_at", by walk_at "gc_at", by walk_at "gc_at", x3, by walk_at "gc_pg", by walk_at "gc_pg", e02.trans (e8.trans (e9.trans e10))⟩⟩
    clear r1 r2 p1 p2 e02
    obtain ⟨⟨c1, c2, D, rfl, C⟩⟩ := hm
    obtain ⟨r1, r2, x1, x2, xd, p1, p2, ee⟩ := id C
    refine Gc.op_go fun N9 R9 B9 E9 hN9 hR9 => ?_
    walk_at "gc"
    rename_i o4 k4 H9 ho4 e9 r4 p4
    refine hN9 _ _ ?_
    clear hN9 hR9
    replace C := C.ex e9
    clear r1 r2 x1 x2 xd p1 p2 ee e9 ho4
    obtain ⟨r1, r2, x1, x2, xd, p1, p2, ee⟩ := id C
    refine Gc.op_go fun N9 R9 B9 E9 hN9 hR9 => ?_
    walk_at "gc"
    rename_i o5 k5 H10 ho5 e10 r5 p5
    refine hN9 _ _ ?_
    clear hN9 hR9
    replace C := C.ex e10
    replace r4 := e10 _ _ r4
    replace p4 := p4.et (Et.of e10)
    clear r1 r2 x1 x2 xd p1 p2 ee e10 ho5
    have hl4 : (lackK n2 f1 f2).length ≤ 400 := Nat.le_trans lackK_len l2
    have hl5 : (lackK n1 f2 f1).length ≤ 400 := Nat.le_trans lackK_len (by omega)
    -- both are lacking what they lack
    refine Gc.op_go fun N9 R9 B9 E9 hN9 hR9 => ?_
    obtain ⟨r1, r2, x1, x2, xd, p1, p2, ee⟩ := id C
    walk_at "gc"
    rename_i j1 kj1 y1 H11 hj1 e11 rj1 pj1 sj1 mj1 lj1
    refine ⟨fun z hz => v2 z (mem_lackK.mp ((mj1 z).mp hz)).1, mj1, fun z _ => rfl, fun H12 e12 => ?_⟩
    clear rj1 pj1 hj1
    walk_at "gc"
    rename_i j2 kj2 y2 H13 hj2 e13 rj2 pj2 sj2 mj2 lj2
    refine ⟨fun z hz => v1 z (mem_lackK.mp ((mj2 z).mp hz)).1, mj2, fun z _ => rfl, fun H14 e14 => ?_⟩
    clear rj2 pj2 hj2
    walk_at "gc"
    refine hN9 _ _ ?_
    clear hN9 hR9
    have e4 := ((e11.trans e12).trans e13).trans e14
    replace C := C.ex e4
    replace r4 := e4 _ _ r4
    replace r5 := e4 _ _ r5
    replace p4 := p4.et (Et.of e4)
    replace p5 := p5.et (Et.of e4)
    clear r1 r2 x1 x2 xd p1 p2 ee e11 e12 e13 e14 e4 sj1 mj1 lj1 sj2 mj2 lj2
    have t4 : (n2.all fun z => rchB f1 f2 z) = decide (k4.length = 0) := by rw [all_rch, p4.len]
    have t5 : (n1.all fun z => rchB f2 f1 z) = decide (k5.length = 0) := by rw [all_rch, p5.len]
    refine Gc.op_go fun N9 R9 B9 E9 hN9 hR9 => ?_
    obtain ⟨r1, r2, x1, x2, xd, p1, p2, ee⟩ := id C
    walk_at "gc"
    rename_i H15 e15 d1 hd1 H16 e16 f16
    refine Gc.pg_go (ks := k4) (ls := []) (fun _ => true) (by walk_at "gc_at") (by walk_at "gc_at") (fun p hp v' q => by cases q) ?_
    rw [dictEq_nil, t4]
    walk_at "gc"
    refine hN9 _ _ ?_
    clear hN9 hR9
    replace e16 := e15.trans e16
    replace C := C.ex e16
    replace r4 := e16 _ _ r4
    replace r5 := e16 _ _ r5
    replace p4 := p4.et (Et.of e16)
    replace p5 := p5.et (Et.of e16)
    clear r1 r2 x1 x2 xd p1 p2 ee e15 e16 hd1 f16
    refine Gc.op_go fun N9 R9 B9 E9 hN9 hR9 => ?_
    obtain ⟨r1, r2, x1, x2, xd, p1, p2, ee⟩ := id C
    walk_at "gc"
    rename_i H17 e17 d1 hd1 H18 e18 f18
    refine Gc.pg_go (ks := k5) (ls := []) (fun _ => true) (by walk_at "gc_at") (by walk_at "gc_at") (fun p hp v' q => by cases q) ?_
    rw [dictEq_nil, t5]
    walk_at "gc"
    refine hN9 _ _ ?_
    clear hN9 hR9
    replace e18 := e17.trans e18
    replace C := C.ex e18
    replace r4 := e18 _ _ r4
    replace p4 := p4.et (Et.of e18)
    clear r1 r2 x1 x2 xd p1 p2 ee e17 e18 hd1 f18 r5 p5 t4 t5
    -- some
    have hn2 : n2.length ≤ 400 := l2
    refine Gc.op_go fun N9 R9 B9 E9 hN9 hR9 => ?_
    obtain ⟨r1, r2, x1, x2, xd, p1, p2, ee⟩ := id C
    walk_at "gc"
    rename_i d1 hd1 G1 u1 z1 j1 kj1 y1 G2 hj1 u2 rj1 pj1 sj1 mj1 lj1 j2 kj2 y2 G3 hj2 u3 rj2 pj2 sj2 mj2 lj2 d3 hd3 G4 u4 z4 j3 kj3 y3 G5 hj3 u5 rj3 pj3 sj3 mj3 lj3 L hL G6 u6 z6
    refine hN9 _ _ ?_
    clear hN9 hR9
    clear r1 r2 x1 x2 xd p1 p2 ee z1 sj1 mj1 sj2 mj2 z4 sj3 mj3 hd1 hd3
    have u02 := u1.trans u2
    have u04 := (u02.trans u3).trans u4
    have u06 := (u04.trans u5).trans u6
    have t1 : H18 j1 = none := ex_of_none u1 hj1
    have t2 : H18 j2 = none := ex_of_none u02 hj2
    have t3 : H18 j3 = none := ex_of_none u04 hj3
    have t4 : H18 L = none := ex_of_none (u04.trans u5) hL
    have y1' : G6 j1 = some (.dK kj1) := u6 _ _ (u5 _ _ (u4 _ _ (u3 _ _ rj1)))
    have y2' : G6 j2 = some (.dK kj2) := u6 _ _ (u5 _ _ (u4 _ _ rj2))
    have y3' : G6 j3 = some (.dK kj3) := u6 _ _ rj3
    have C' := C.ex u06
    have g1 : kj1.length ≤ 1000 := by have := pj1.len; omega
    have g2 : kj2.length ≤ 1000 := by have := pj2.len; omega
    have g3 : kj3.length ≤ 1000 := by have := pj3.len; omega
    clear pj1 pj2 pj3 lj1 lj2 lj3 rj1 rj2 rj3 u1 u2 u3 u4 u5 u6 u02 u04 hj1 hj2 hj3 hL
    refine Gc.op_go fun N9 R9 B9 E9 hN9 hR9 => ?_
    obtain ⟨r1, r2, x1, x2, xd, p1, p2, ee⟩ := id C'
    walk_at "gc"
    rename_i j4 kj4 w4 G7 hj4 u7 rj4 pj4 sj4 mj4 lj4
    have t5 : H18 j4 = none := ex_of_none u06 hj4
    have z7 : G7 L = some (.lst [.ref j1, .ref j2, .ref j3]) := u7 _ _ z6
    have g4 : kj4.length ≤ 1000 := by have := pj4.len; omega
    refine hN9 _ _ ?_
    clear hN9 hR9
    have e8 : Ex H18 (upd G7 L (.lst ([.ref j1, .ref j2, .ref j3] ++ [.ref j4]))) := Ex.mut (u06.trans u7) t4
    have f8 : upd G7 L (.lst ([.ref j1, .ref j2, .ref j3] ++ [.ref j4])) L = some (.lst [.ref j1, .ref j2, .ref j3, .ref j4]) := upd_same
    have hall : ∀ r ∈ [j1, j2, j3, j4], H18 r = none ∧ r ≠ L ∧ ∃ kvs : List (Key × V), upd G7 L (.lst ([.ref j1, .ref j2, .ref j3] ++ [.ref j4])) r = some (.dK kvs) ∧ kvs.length ≤ 1000 := by
      have nL : ∀ r kvs, G7 r = some (.dK kvs) → r ≠ L := fun r kvs q z => by rw [z, z7] at q; cases q
      intro r hr
      simp only [List.mem_cons, List.not_mem_nil, or_false] at hr
      rcases hr with rfl | rfl | rfl | rfl
      · exact ⟨t1, nL _ _ (u7 _ _ y1'), _, (upd_ne (nL _ _ (u7 _ _ y1'))).trans (u7 _ _ y1'), g1⟩
      · exact ⟨t2, nL _ _ (u7 _ _ y2'), _, (upd_ne (nL _ _ (u7 _ _ y2'))).trans (u7 _ _ y2'), g2⟩
      · exact ⟨t3, nL _ _ (u7 _ _ y3'), _, (upd_ne (nL _ _ (u7 _ _ y3'))).trans (u7 _ _ y3'), g3⟩
      · exact ⟨t5, nL _ _ rj4, _, (upd_ne (nL _ _ rj4)).trans rj4, g4⟩
    clear y1' y2' y3' rj4 z6 z7 u06 u7 hj4 pj4 sj4 mj4 lj4 C' r1 r2 x1 x2 xd p1 p2 ee t1 t2 t3 t5 g1 g2 g3 g4
    generalize upd G7 L (.lst ([.ref j1, .ref j2, .ref j3] ++ [.ref j4])) = G8 at *
    have vL := Evl.sq_of (K := K) f8
    refine Gc.op_go fun N9 R9 B9 E9 hN9 hR9 => ?_
    walk_at "gc"
    refine Gc.for_go (walk_list (xs := [V.ref j1, .ref j2, .ref j3, .ref j4])) (fun i σ' H9 => Hold (∃ v, σ' = [some (.ref a), some (.int s), some (.ref o1), some (.ref o2), v4', v5', some (.ref D), some (.ref o4), some (.ref o5), some (.ref L), v] ∧ Ex H18 H9 ∧ H9 L = some (.lst [.ref j1, .ref j2, .ref j3, .ref j4]) ∧ ∀ r ∈ [j1, j2, j3, j4], ∃ kvs : List (Key × V), H9 r = some (.dK kvs) ∧ Hold (kvs.length ≤ 1000 + i))) ⟨⟨_, rfl, e8, f8, fun r hr => let ⟨_, _, kvs, q1, q2⟩ := hall r hr; ⟨kvs, q1, ⟨q2⟩⟩⟩⟩ (fun _ _ _ _ hp => by obtain ⟨⟨_, _, _, e, _⟩⟩ := hp; exact Evl.sq_of e) (fun R9 B9 i x σ' H5 H6 hi hp' hy => ?_) (fun σ' H5 hp' => ?_)
    · obtain ⟨⟨v, rfl, he, hLL, hr⟩⟩ := hp'
      obtain ⟨rfl, hxi⟩ := hy
      obtain ⟨r, hrm, rfl⟩ : ∃ r ∈ [j1, j2, j3, j4], x = .ref r := by
        have := List.mem_of_getElem? hxi
        simp only [List.mem_cons, List.not_mem_nil, or_false] at this
        rcases this with rfl | rfl | rfl | rfl
        · exact ⟨_, by simp, rfl⟩
        · exact ⟨_, by simp, rfl⟩
        · exact ⟨_, by simp, rfl⟩
        · exact ⟨_, by simp, rfl⟩
      obtain ⟨kvs, hrk, hkl⟩ := hr r hrm
      obtain ⟨hrn, hrL, _⟩ := hall r hrm
      walk_at "gc"
      rename_i tq htq H8 e9 f9
      have hrk8 := e9 _ _ hrk
      have hi4 : i < 4 := hi
      refine ⟨DPut.k (k := .inr ("zz" : Str)) hrk8 (Evl.sz_lt (by have := hkl.it; omega)), ?_⟩
      refine ⟨⟨_, rfl, Ex.mut (he.trans e9) hrn, by rw [upd_ne (Ne.symm hrL)]; exact e9 _ _ hLL, fun r' hr' => ?_⟩⟩
      by_cases c : r' = r
      · subst c
        exact ⟨_, upd_same, ⟨by have := length_putK kvs (.inr ("zz" : Str)) (.ref tq); have := hkl.it; omega⟩⟩
      · obtain ⟨kvs', q1, q2⟩ := hr r' hr'
        exact ⟨kvs', by rw [upd_ne c]; exact e9 _ _ q1, ⟨by have := q2.it; omega⟩⟩
    obtain ⟨⟨v, rfl, he, _, _⟩⟩ := hp'
    refine hN9 _ _ ?_
    clear hN9 hR9
    replace C := C.ex he
    replace r4 := he _ _ r4
    replace p4 := p4.et (Et.of he)
    clear hall f8 e8 vL he
    -- lacking again
    refine Gc.op_go fun N9 R9 B9 E9 hN9 hR9 => ?_
    obtain ⟨r1, r2, x1, x2, xd, p1, p2, ee⟩ := id C
    walk_at "gc"
    rename_i j5 kj5 y5 G1 hj5 u1 rj5 pj5 sj5 mj5 lj5 d5 hd5 G2 u2 z2
    have hy5 : y5 = [] := List.eq_nil_iff_forall_not_mem.mpr fun z hz => by have := (mj5 z).mp hz; rw [lackK_self] at this; cases this
    have hk5 : kj5 = [] := List.eq_nil_of_length_eq_zero (by rw [pj5.len, hy5]; rfl)
    rw [hk5] at rj5
    refine Gc.pgN_go (ks := []) (ls := []) (fun _ => true) (by walk_at "gc_at") (by walk_at "gc_at") (fun p hp => by cases hp) ?_
    rw [dictEq_self']
    clear rj5 pj5 sj5 mj5 lj5 hj5 z2 hd5
    walk_at "gc"
    rename_i j6 kj6 y6 G3 hj6 u3 rj6 pj6 sj6 mj6 lj6
    refine ⟨fun z hz => v2 z (mem_lackK.mp ((mj6 z).mp hz)).1, mj6, fun z _ => rfl, fun H12 e12 => ?_⟩
    walk_at "gc"
    refine hN9 _ _ ?_
    clear hN9 hR9
    have e4 := ((u1.trans u2).trans u3).trans e12
    replace C := C.ex e4
    clear r1 r2 x1 x2 xd p1 p2 ee u1 u2 u3 e12 e4 rj6 pj6 sj6 mj6 lj6 hj6 r4 p4
    -- the pages as handed in
    refine Gc.op_go fun N9 R9 B9 E9 hN9 hR9 => ?_
    obtain ⟨r1, r2, x1, x2, xd, p1, p2, ee⟩ := id C
    walk_at "gc"
    refine Gc.pgN_go (ks := k1) (ls := k1) (fun _ => true) (by walk_at "gc_at") (by walk_at "gc_at") (p1.eqj _) ?_
    rw [dictEq_self']
    walk_at "gc"
    refine Gc.pgN_go (ks := k2) (ls := k2) (fun _ => true) (by walk_at "gc_at") (by walk_at "gc_at") (p2.eqj _) ?_
    rw [dictEq_self']
    walk_at "gc"
    rename_i d7 hd7 G1 u1 z1 j7 kj7 y7 G2 hj7 u2 rj7 pj7 sj7 mj7 lj7
    rw [lackK_zero w2.pos] at mj7
    refine ⟨fun z hz => v2 z ((mj7 z).mp hz), mj7, fun z hz => lackF_at (rch_zero (w2.pos z ((mj7 z).mp hz))), fun H12 e12 => ?_⟩
    walk_at "gc"
    refine hN9 _ _ ?_
    clear hN9 hR9
    have e4 := (u1.trans u2).trans e12
    replace C := C.ex e4
    clear r1 r2 x1 x2 xd p1 p2 ee u1 u2 e12 e4 rj7 pj7 sj7 mj7 lj7 hj7 hd7 z1
    -- knows
    refine Gc.op_go fun N9 R9 B9 E9 hN9 hR9 => ?_
    obtain ⟨r1, r2, x1, x2, xd, p1, p2, ee⟩ := id C
    walk_at "gc"
    rename_i d8 hd8 G1 u1 z1 d9 hd9 G2 u2 z2 G3 u3
    rw [show (n1.all fun z => rchB f1 f1 z) = true from List.all_eq_true.mpr fun z _ => rch_self f1 z]
    refine L2.iteF ?_
    walk_at "gc"
    rename_i d10 hd10 G4 u4 z4 d11 hd11 G5 u5 z5 G6' u6
    refine L2.iteF ?_
    walk_at "gc"
    refine hN9 _ _ ?_
    clear hN9 hR9
    have e4 := ((((u1.trans u2).trans u3).trans u4).trans u5).trans u6
    replace C := C.ex e4
    clear r1 r2 x1 x2 xd p1 p2 ee u1 u2 u3 u4 u5 u6 e4 z1 z2 z4 z5 hd8 hd9 hd10 hd11
    obtain ⟨r1, r2, x1, x2, xd, p1, p2, ee⟩ := id C
    refine Gc.end_go fun N9 R9 B9 E9 hN9 hR9 => ?_
    walk_at "gc"
    refine Gc.pg_go (ks := k1) (ls := []) (fun _ => true) (by walk_at "gc_at") (by walk_at "gc_at") (fun p hp v' q => by cases q) ?_
    rw [dictEq_nil, show (n1.all fun z => rchB (fun _ => (0, 0)) f1 z) = decide (k1.length = 0) by rw [all_rch, lackK_zero w1.pos, p1.len]]
    walk_at "gc"
    exact hR9 _ _ (k _)
end
section
theorem all_mk {l : PySem.W.OpenLaw} {w : World} {K : PySem.W.Frag} {h : Heap} {mg : Str → Option Value} {fa : Addr} (X : K.In h) (G : h.Ns mainGlobals mg) (hfa : mg "law" = some (.ref fa))
    {f_l_number_by f_l_name_by f_l_mixed f_l_page_by f_l_near_by f_l_lacking f_l_truth f_l_cell_at f_reaches f_share_of f_lacking f_knows f_l_whole f_l_share f_l_same f_law_k06 : Addr}
    {od_l_number_by an_l_number_by od_l_name_by an_l_name_by od_l_mixed an_l_mixed od_l_page_by an_l_page_by od_l_near_by an_l_near_by od_l_lacking an_l_lacking od_l_truth an_l_truth od_l_cell_at an_l_cell_at od_reaches an_reaches od_share_of an_share_of od_lacking an_lacking od_knows an_knows od_l_whole an_l_whole od_l_share an_l_share od_l_same an_l_same od_law_k06 an_law_k06 : Option Addr} {sl_l_number_by sl_l_name_by sl_l_mixed sl_l_page_by sl_l_near_by sl_l_lacking sl_l_truth sl_l_cell_at sl_reaches sl_share_of sl_lacking sl_knows sl_l_whole sl_l_share sl_l_same sl_law_k06 : Array (Option Value)} {oc_l_number_by kV_l_number_by dc_l_number_by pm_l_number_by cd_l_number_by ct_l_number_by oc_l_name_by kV_l_name_by dc_l_name_by pm_l_name_by cd_l_name_by ct_l_name_by oc_l_mixed kV_l_mixed dc_l_mixed pm_l_mixed cd_l_mixed ct_l_mixed oc_l_page_by kV_l_page_by dc_l_page_by pm_l_page_by cd_l_page_by ct_l_page_by oc_l_near_by kV_l_near_by dc_l_near_by pm_l_near_by cd_l_near_by ct_l_near_by oc_l_lacking kV_l_lacking dc_l_lacking pm_l_lacking cd_l_lacking ct_l_lacking oc_l_truth kV_l_truth dc_l_truth pm_l_truth cd_l_truth ct_l_truth oc_l_cell_at kV_l_cell_at dc_l_cell_at pm_l_cell_at cd_l_cell_at ct_l_cell_at oc_reaches kV_reaches dc_reaches pm_reaches cd_reaches ct_reaches oc_share_of kV_share_of dc_share_of pm_share_of cd_share_of ct_share_of oc_lacking kV_lacking dc_lacking pm_lacking cd_lacking ct_lacking oc_knows kV_knows dc_knows pm_knows cd_knows ct_knows oc_l_whole kV_l_whole dc_l_whole pm_l_whole cd_l_whole ct_l_whole oc_l_share kV_l_share dc_l_share pm_l_share cd_l_share ct_l_share oc_l_same kV_l_same dc_l_same pm_l_same cd_l_same ct_l_same oc_law_k06 kV_law_k06 dc_law_k06 pm_law_k06 cd_law_k06 ct_law_k06 : Value}
    (a_l_number_by : PySem.W.nsIn K mainGlobals "_law_number_by" = some (some (.ref f_l_number_by)))
    (l_l_number_by : K.lookup f_l_number_by = some ⟨oc_l_number_by, od_l_number_by, .func (PySem.W.fnOf "_law_number_by" "_law_number_by" (defArgs s_l_number_by) (defBody s_l_number_by) (defScope s_l_number_by) .none kV_l_number_by dc_l_number_by pm_l_number_by an_l_number_by cd_l_number_by ct_l_number_by), sl_l_number_by⟩)
    (cI_l_number_by : PySem.W.codeIn K cd_l_number_by "_law_number_by" = true)
    (kk_l_number_by : PySem.W.keepIn K (.ref f_l_number_by) = true)
    (a_l_name_by : PySem.W.nsIn K mainGlobals "_law_name_by" = some (some (.ref f_l_name_by)))
    (l_l_name_by : K.lookup f_l_name_by = some ⟨oc_l_name_by, od_l_name_by, .func (PySem.W.fnOf "_law_name_by" "_law_name_by" (defArgs s_l_name_by) (defBody s_l_name_by) (defScope s_l_name_by) .none kV_l_name_by dc_l_name_by pm_l_name_by an_l_name_by cd_l_name_by ct_l_name_by), sl_l_name_by⟩)
    (cI_l_name_by : PySem.W.codeIn K cd_l_name_by "_law_name_by" = true)
    (kk_l_name_by : PySem.W.keepIn K (.ref f_l_name_by) = true)
    (a_l_mixed : PySem.W.nsIn K mainGlobals "_law_mixed" = some (some (.ref f_l_mixed)))
    (l_l_mixed : K.lookup f_l_mixed = some ⟨oc_l_mixed, od_l_mixed, .func (PySem.W.fnOf "_law_mixed" "_law_mixed" (defArgs s_l_mixed) (defBody s_l_mixed) (defScope s_l_mixed) .none kV_l_mixed dc_l_mixed pm_l_mixed an_l_mixed cd_l_mixed ct_l_mixed), sl_l_mixed⟩)
    (cI_l_mixed : PySem.W.codeIn K cd_l_mixed "_law_mixed" = true)
    (kk_l_mixed : PySem.W.keepIn K (.ref f_l_mixed) = true)
    (a_l_page_by : PySem.W.nsIn K mainGlobals "_law_page_by" = some (some (.ref f_l_page_by)))
    (l_l_page_by : K.lookup f_l_page_by = some ⟨oc_l_page_by, od_l_page_by, .func (PySem.W.fnOf "_law_page_by" "_law_page_by" (defArgs s_l_page_by) (defBody s_l_page_by) (defScope s_l_page_by) .none kV_l_page_by dc_l_page_by pm_l_page_by an_l_page_by cd_l_page_by ct_l_page_by), sl_l_page_by⟩)
    (cI_l_page_by : PySem.W.codeIn K cd_l_page_by "_law_page_by" = true)
    (kk_l_page_by : PySem.W.keepIn K (.ref f_l_page_by) = true)
    (a_l_near_by : PySem.W.nsIn K mainGlobals "_law_near_by" = some (some (.ref f_l_near_by)))
    (l_l_near_by : K.lookup f_l_near_by = some ⟨oc_l_near_by, od_l_near_by, .func (PySem.W.fnOf "_law_near_by" "_law_near_by" (defArgs s_l_near_by) (defBody s_l_near_by) (defScope s_l_near_by) .none kV_l_near_by dc_l_near_by pm_l_near_by an_l_near_by cd_l_near_by ct_l_near_by), sl_l_near_by⟩)
    (cI_l_near_by : PySem.W.codeIn K cd_l_near_by "_law_near_by" = true)
    (kk_l_near_by : PySem.W.keepIn K (.ref f_l_near_by) = true)
    (a_l_lacking : PySem.W.nsIn K mainGlobals "_law_lacking" = some (some (.ref f_l_lacking)))
    (l_l_lacking : K.lookup f_l_lacking = some ⟨oc_l_lacking, od_l_lacking, .func (PySem.W.fnOf "_law_lacking" "_law_lacking" (defArgs s_l_lacking) (defBody s_l_lacking) (defScope s_l_lacking) .none kV_l_lacking dc_l_lacking pm_l_lacking an_l_lacking cd_l_lacking ct_l_lacking), sl_l_lacking⟩)
    (cI_l_lacking : PySem.W.codeIn K cd_l_lacking "_law_lacking" = true)
    (kk_l_lacking : PySem.W.keepIn K (.ref f_l_lacking) = true)
    (a_l_truth : PySem.W.nsIn K mainGlobals "_law_truth" = some (some (.ref f_l_truth)))
    (l_l_truth : K.lookup f_l_truth = some ⟨oc_l_truth, od_l_truth, .func (PySem.W.fnOf "_law_truth" "_law_truth" (defArgs s_l_truth) (defBody s_l_truth) (defScope s_l_truth) .none kV_l_truth dc_l_truth pm_l_truth an_l_truth cd_l_truth ct_l_truth), sl_l_truth⟩)
    (cI_l_truth : PySem.W.codeIn K cd_l_truth "_law_truth" = true)
    (kk_l_truth : PySem.W.keepIn K (.ref f_l_truth) = true)
    (a_l_cell_at : PySem.W.nsIn K mainGlobals "_law_cell_at" = some (some (.ref f_l_cell_at)))
    (l_l_cell_at : K.lookup f_l_cell_at = some ⟨oc_l_cell_at, od_l_cell_at, .func (PySem.W.fnOf "_law_cell_at" "_law_cell_at" (defArgs s_l_cell_at) (defBody s_l_cell_at) (defScope s_l_cell_at) .none kV_l_cell_at dc_l_cell_at pm_l_cell_at an_l_cell_at cd_l_cell_at ct_l_cell_at), sl_l_cell_at⟩)
    (cI_l_cell_at : PySem.W.codeIn K cd_l_cell_at "_law_cell_at" = true)
    (kk_l_cell_at : PySem.W.keepIn K (.ref f_l_cell_at) = true)
    (a_reaches : PySem.W.nsIn K mainGlobals "reaches" = some (some (.ref f_reaches)))
    (l_reaches : K.lookup f_reaches = some ⟨oc_reaches, od_reaches, .func (PySem.W.fnOf "reaches" "reaches" (defArgs s_reaches) (defBody s_reaches) (defScope s_reaches) .none kV_reaches dc_reaches pm_reaches an_reaches cd_reaches ct_reaches), sl_reaches⟩)
    (cI_reaches : PySem.W.codeIn K cd_reaches "reaches" = true)
    (kk_reaches : PySem.W.keepIn K (.ref f_reaches) = true)
    (a_share_of : PySem.W.nsIn K mainGlobals "share_of" = some (some (.ref f_share_of)))
    (l_share_of : K.lookup f_share_of = some ⟨oc_share_of, od_share_of, .func (PySem.W.fnOf "share_of" "share_of" (defArgs s_share_of) (defBody s_share_of) (defScope s_share_of) .none kV_share_of dc_share_of pm_share_of an_share_of cd_share_of ct_share_of), sl_share_of⟩)
    (cI_share_of : PySem.W.codeIn K cd_share_of "share_of" = true)
    (kk_share_of : PySem.W.keepIn K (.ref f_share_of) = true)
    (a_lacking : PySem.W.nsIn K mainGlobals "lacking" = some (some (.ref f_lacking)))
    (l_lacking : K.lookup f_lacking = some ⟨oc_lacking, od_lacking, .func (PySem.W.fnOf "lacking" "lacking" (defArgs s_lacking) (defBody s_lacking) (defScope s_lacking) .none kV_lacking dc_lacking pm_lacking an_lacking cd_lacking ct_lacking), sl_lacking⟩)
    (cI_lacking : PySem.W.codeIn K cd_lacking "lacking" = true)
    (kk_lacking : PySem.W.keepIn K (.ref f_lacking) = true)
    (a_knows : PySem.W.nsIn K mainGlobals "knows" = some (some (.ref f_knows)))
    (l_knows : K.lookup f_knows = some ⟨oc_knows, od_knows, .func (PySem.W.fnOf "knows" "knows" (defArgs s_knows) (defBody s_knows) (defScope s_knows) .none kV_knows dc_knows pm_knows an_knows cd_knows ct_knows), sl_knows⟩)
    (cI_knows : PySem.W.codeIn K cd_knows "knows" = true)
    (kk_knows : PySem.W.keepIn K (.ref f_knows) = true)
    (a_l_whole : PySem.W.nsIn K mainGlobals "_law_whole" = some (some (.ref f_l_whole)))
    (l_l_whole : K.lookup f_l_whole = some ⟨oc_l_whole, od_l_whole, .func (PySem.W.fnOf "_law_whole" "_law_whole" (defArgs s_l_whole) (defBody s_l_whole) (defScope s_l_whole) .none kV_l_whole dc_l_whole pm_l_whole an_l_whole cd_l_whole ct_l_whole), sl_l_whole⟩)
    (cI_l_whole : PySem.W.codeIn K cd_l_whole "_law_whole" = true)
    (kk_l_whole : PySem.W.keepIn K (.ref f_l_whole) = true)
    (a_l_share : PySem.W.nsIn K mainGlobals "_law_share" = some (some (.ref f_l_share)))
    (l_l_share : K.lookup f_l_share = some ⟨oc_l_share, od_l_share, .func (PySem.W.fnOf "_law_share" "_law_share" (defArgs s_l_share) (defBody s_l_share) (defScope s_l_share) .none kV_l_share dc_l_share pm_l_share an_l_share cd_l_share ct_l_share), sl_l_share⟩)
    (cI_l_share : PySem.W.codeIn K cd_l_share "_law_share" = true)
    (kk_l_share : PySem.W.keepIn K (.ref f_l_share) = true)
    (a_l_same : PySem.W.nsIn K mainGlobals "_law_same" = some (some (.ref f_l_same)))
    (l_l_same : K.lookup f_l_same = some ⟨oc_l_same, od_l_same, .func (PySem.W.fnOf "_law_same" "_law_same" (defArgs s_l_same) (defBody s_l_same) (defScope s_l_same) .none kV_l_same dc_l_same pm_l_same an_l_same cd_l_same ct_l_same), sl_l_same⟩)
    (cI_l_same : PySem.W.codeIn K cd_l_same "_law_same" = true)
    (kk_l_same : PySem.W.keepIn K (.ref f_l_same) = true)
    (a_law_k06 : PySem.W.nsIn K mainGlobals "law" = some (some (.ref f_law_k06)))
    (l_law_k06 : K.lookup f_law_k06 = some ⟨oc_law_k06, od_law_k06, .func (PySem.W.fnOf "law" "law" (defArgs s_law_k06) (defBody s_law_k06) (defScope s_law_k06) .none kV_law_k06 dc_law_k06 pm_law_k06 an_law_k06 cd_law_k06 ct_law_k06), sl_law_k06⟩)
    (cI_law_k06 : PySem.W.codeIn K cd_law_k06 "law" = true)
    (kk_law_k06 : PySem.W.keepIn K (.ref f_law_k06) = true)
    (z_all : PySem.W.nsIn K mainGlobals "all" = some none)
    (z_bool : PySem.W.nsIn K mainGlobals "bool" = some none)
    (z_dict : PySem.W.nsIn K mainGlobals "dict" = some none)
    (z_enumerate : PySem.W.nsIn K mainGlobals "enumerate" = some none)
    (z_int : PySem.W.nsIn K mainGlobals "int" = some none)
    (z_isinstance : PySem.W.nsIn K mainGlobals "isinstance" = some none)
    (z_len : PySem.W.nsIn K mainGlobals "len" = some none)
    (z_list : PySem.W.nsIn K mainGlobals "list" = some none)
    (z_min : PySem.W.nsIn K mainGlobals "min" = some none)
    (z_range : PySem.W.nsIn K mainGlobals "range" = some none)
    (z_sorted : PySem.W.nsIn K mainGlobals "sorted" = some none)
    (z_str : PySem.W.nsIn K mainGlobals "str" = some none)
    (z_tuple : PySem.W.nsIn K mainGlobals "tuple" = some none)
    : ∃ fd : FuncData, (∀ (s : Shared) (v : Value), BindsTo s fd ⟨[v], []⟩ [("_law_script", v)]) ∧ ∀ base : Heap, K.In base → base.Ns mainGlobals mg → FnOk l.prog w K mg base CX0 4 fa fd ["_law_script"] (sp_law K) := by
  have e := hfa.symm.trans (PySem.W.mg_of X G a_law_k06)
  cases e
  have F_l_number_by := fun_mk (st := s_l_number_by) l_l_number_by cI_l_number_by kk_l_number_by
  have b_l_number_by := F_l_number_by.binds (ps := ["_law_cell"]) fun _ _ _ _ _ _ us hl => match us, hl with | [_], _ => rfl
  have F_l_name_by := fun_mk (st := s_l_name_by) l_l_name_by cI_l_name_by kk_l_name_by
  have b_l_name_by := F_l_name_by.binds (ps := ["_law_cell"]) fun _ _ _ _ _ _ us hl => match us, hl with | [_], _ => rfl
  have F_l_mixed := fun_mk (st := s_l_mixed) l_l_mixed cI_l_mixed kk_l_mixed
  have b_l_mixed := F_l_mixed.binds (ps := ["_law_cell", "_law_k"]) fun _ _ _ _ _ _ us hl => match us, hl with | [_, _], _ => rfl
  have F_l_page_by := fun_mk (st := s_l_page_by) l_l_page_by cI_l_page_by kk_l_page_by
  have b_l_page_by := F_l_page_by.binds (ps := ["_law_names", "_law_shares", "_law_size"]) fun _ _ _ _ _ _ us hl => match us, hl with | [_, _, _], _ => rfl
  have F_l_near_by := fun_mk (st := s_l_near_by) l_l_near_by cI_l_near_by kk_l_near_by
  have b_l_near_by := F_l_near_by.binds (ps := ["_law_page", "_law_cell"]) fun _ _ _ _ _ _ us hl => match us, hl with | [_, _], _ => rfl
  have F_l_lacking := fun_mk (st := s_l_lacking) l_l_lacking cI_l_lacking kk_l_lacking
  have b_l_lacking := F_l_lacking.binds (ps := ["_law_one", "_law_other"]) fun _ _ _ _ _ _ us hl => match us, hl with | [_, _], _ => rfl
  have F_l_truth := fun_mk (st := s_l_truth) l_l_truth cI_l_truth kk_l_truth
  have b_l_truth := F_l_truth.binds (ps := ["_law_found", "_law_due"]) fun _ _ _ _ _ _ us hl => match us, hl with | [_, _], _ => rfl
  have F_l_cell_at := fun_mk (st := s_l_cell_at) l_l_cell_at cI_l_cell_at kk_l_cell_at
  have b_l_cell_at := F_l_cell_at.binds (ps := ["_law_script", "_law_k"]) fun _ _ _ _ _ _ us hl => match us, hl with | [_, _], _ => rfl
  have F_reaches := fun_mk (st := s_reaches) l_reaches cI_reaches kk_reaches
  have b_reaches := F_reaches.binds (ps := ["one", "other"]) fun _ _ _ _ _ _ us hl => match us, hl with | [_, _], _ => rfl
  have F_share_of := fun_mk (st := s_share_of) l_share_of cI_share_of kk_share_of
  have b_share_of := F_share_of.binds (ps := ["page", "name"]) fun _ _ _ _ _ _ us hl => match us, hl with | [_, _], _ => rfl
  have F_lacking := fun_mk (st := s_lacking) l_lacking cI_lacking kk_lacking
  have b_lacking := F_lacking.binds (ps := ["one", "other"]) fun _ _ _ _ _ _ us hl => match us, hl with | [_, _], _ => rfl
  have F_knows := fun_mk (st := s_knows) l_knows cI_knows kk_knows
  have b_knows := F_knows.binds (ps := ["one", "other"]) fun _ _ _ _ _ _ us hl => match us, hl with | [_, _], _ => rfl
  have F_l_whole := fun_mk (st := s_l_whole) l_l_whole cI_l_whole kk_l_whole
  have b_l_whole := F_l_whole.binds (ps := ["_law_found"]) fun _ _ _ _ _ _ us hl => match us, hl with | [_], _ => rfl
  have F_l_share := fun_mk (st := s_l_share) l_l_share cI_l_share kk_l_share
  have b_l_share := F_l_share.binds (ps := ["_law_found", "_law_due"]) fun _ _ _ _ _ _ us hl => match us, hl with | [_, _], _ => rfl
  have F_l_same := fun_mk (st := s_l_same) l_l_same cI_l_same kk_l_same
  have b_l_same := F_l_same.binds (ps := ["_law_found", "_law_due"]) fun _ _ _ _ _ _ us hl => match us, hl with | [_, _], _ => rfl
  have F_law_k06 := fun_mk (st := s_law_k06) l_law_k06 cI_law_k06 kk_law_k06
  have b_law_k06 := F_law_k06.binds (ps := ["_law_script"]) fun _ _ _ _ _ _ us hl => match us, hl with | [_], _ => rfl
  let T : Tx K mg := { f_l_number_by := f_l_number_by, fd_l_number_by := _, F_l_number_by := F_l_number_by, b_l_number_by := b_l_number_by, m_l_number_by := PySem.W.mg_of X G a_l_number_by, f_l_name_by := f_l_name_by, fd_l_name_by := _, F_l_name_by := F_l_name_by, b_l_name_by := b_l_name_by, m_l_name_by := PySem.W.mg_of X G a_l_name_by, f_l_mixed := f_l_mixed, fd_l_mixed := _, F_l_mixed := F_l_mixed, b_l_mixed := b_l_mixed, m_l_mixed := PySem.W.mg_of X G a_l_mixed, f_l_page_by := f_l_page_by, fd_l_page_by := _, F_l_page_by := F_l_page_by, b_l_page_by := b_l_page_by, m_l_page_by := PySem.W.mg_of X G a_l_page_by, f_l_near_by := f_l_near_by, fd_l_near_by := _, F_l_near_by := F_l_near_by, b_l_near_by := b_l_near_by, m_l_near_by := PySem.W.mg_of X G a_l_near_by, f_l_lacking := f_l_lacking, fd_l_lacking := _, F_l_lacking := F_l_lacking, b_l_lacking := b_l_lacking, m_l_lacking := PySem.W.mg_of X G a_l_lacking, f_l_truth := f_l_truth, fd_l_truth := _, F_l_truth := F_l_truth, b_l_truth := b_l_truth, m_l_truth := PySem.W.mg_of X G a_l_truth, f_l_cell_at := f_l_cell_at, fd_l_cell_at := _, F_l_cell_at := F_l_cell_at, b_l_cell_at := b_l_cell_at, m_l_cell_at := PySem.W.mg_of X G a_l_cell_at, f_reaches := f_reaches, fd_reaches := _, F_reaches := F_reaches, b_reaches := b_reaches, m_reaches := PySem.W.mg_of X G a_reaches, f_share_of := f_share_of, fd_share_of := _, F_share_of := F_share_of, b_share_of := b_share_of, m_share_of := PySem.W.mg_of X G a_share_of, f_lacking := f_lacking, fd_lacking := _, F_lacking := F_lacking, b_lacking := b_lacking, m_lacking := PySem.W.mg_of X G a_lacking, f_knows := f_knows, fd_knows := _, F_knows := F_knows, b_knows := b_knows, m_knows := PySem.W.mg_of X G a_knows, f_l_whole := f_l_whole, fd_l_whole := _, F_l_whole := F_l_whole, b_l_whole := b_l_whole, m_l_whole := PySem.W.mg_of X G a_l_whole, f_l_share := f_l_share, fd_l_share := _, F_l_share := F_l_share, b_l_share := b_l_share, m_l_share := PySem.W.mg_of X G a_l_share, f_l_same := f_l_same, fd_l_same := _, F_l_same := F_l_same, b_l_same := b_l_same, m_l_same := PySem.W.mg_of X G a_l_same, f_law_k06 := fa, fd_law_k06 := _, F_law_k06 := F_law_k06, b_law_k06 := b_law_k06, m_law_k06 := PySem.W.mg_of X G a_law_k06, n_all := PySem.W.mg_none_of X G z_all, n_bool := PySem.W.mg_none_of X G z_bool, n_dict := PySem.W.mg_none_of X G z_dict, n_enumerate := PySem.W.mg_none_of X G z_enumerate, n_int := PySem.W.mg_none_of X G z_int, n_isinstance := PySem.W.mg_none_of X G z_isinstance, n_len := PySem.W.mg_none_of X G z_len, n_list := PySem.W.mg_none_of X G z_list, n_min := PySem.W.mg_none_of X G z_min, n_range := PySem.W.mg_none_of X G z_range, n_sorted := PySem.W.mg_none_of X G z_sorted, n_str := PySem.W.mg_none_of X G z_str, n_tuple := PySem.W.mg_none_of X G z_tuple }
  exact ⟨T.fd_law_k06, fun s v => .of_eq rfl, fun base _ _ => ok_law_k06 T⟩
end
theorem walk {l : PySem.W.OpenLaw} {q : Program} {loose : List Str} {XP : (Str → Option Value) → Heap → Prop} {YP : World → Heap → Prop} {d : DefRec} {K : Params → PySem.W.Frag} (hn : l.most = some 63) (hdf : d.params.defaults = [])
    (hY : ∀ (w : World) (h : Heap), YP w h → (K w.params).In h)
    (F : ∀ (w : World) (mg : Str → Option Value) (fa : Addr) (h : Heap), (K w.params).In h → h.Ns mainGlobals mg → mg d.name = some (.ref fa) →
      ∃ fd : FuncData, (∀ (s : Shared) (u : Value), BindsTo s fd ⟨[u], []⟩ [("_law_script", u)]) ∧ ∀ base : Heap, (K w.params).In base → base.Ns mainGlobals mg → FnOk l.prog w (K w.params) mg base CX0 4 fa fd ["_law_script"] (sp_law (K w.params))) :
    PySem.W.WalkO q loose XP YP l.row.toRowW d [] (fun f vs => PySem.call f vs) :=
  L2.walk_of (n := 63) (k := 4) (x := "_law_script") (CX := fun _ => CX0) (sp := fun w => sp_law (K w.params)) hn (by decide) hdf ⟨rfl, by decide, by decide⟩ hY F (fun _ _ a ns hl _ hS => ⟨a, ns, rfl, hS, hl, fun _ => rfl⟩) fun _ _ _ _ _ z => z
end Gc

open PySem PySem.W PyProof.Rows in
set_option maxRecDepth 100000 in
set_option maxHeartbeats 0 in
theorem PySem.Challenge.cw_gossipcount_k06_pages_lacking_holds : PySem.Challenge.rw_gossipcount_k06_pages_lacking.Holds := by
  w_on; o_law; k_head; (case hw => w_witness2)
  k_fill
  refine Gc.walk (l := PySem.Challenge.rw_gossipcount_k06_pages_lacking) rfl rfl (fun w h Y => PySem.W.kIn_of Y) ?F
  case F =>
    intro w mg fa h KX G hmg
    refine' Gc.all_mk KX G hmg ?a_l_number_by ?l_l_number_by ?cI_l_number_by ?kk_l_number_by ?a_l_name_by ?l_l_name_by ?cI_l_name_by ?kk_l_name_by ?a_l_mixed ?l_l_mixed ?cI_l_mixed ?kk_l_mixed ?a_l_page_by ?l_l_page_by ?cI_l_page_by ?kk_l_page_by ?a_l_near_by ?l_l_near_by ?cI_l_near_by ?kk_l_near_by ?a_l_lacking ?l_l_lacking ?cI_l_lacking ?kk_l_lacking ?a_l_truth ?l_l_truth ?cI_l_truth ?kk_l_truth ?a_l_cell_at ?l_l_cell_at ?cI_l_cell_at ?kk_l_cell_at ?a_reaches ?l_reaches ?cI_reaches ?kk_reaches ?a_share_of ?l_share_of ?cI_share_of ?kk_share_of ?a_lacking ?l_lacking ?cI_lacking ?kk_lacking ?a_knows ?l_knows ?cI_knows ?kk_knows ?a_l_whole ?l_l_whole ?cI_l_whole ?kk_l_whole ?a_l_share ?l_l_share ?cI_l_share ?kk_l_share ?a_l_same ?l_l_same ?cI_l_same ?kk_l_same ?a_law_k06 ?l_law_k06 ?cI_law_k06 ?kk_law_k06 ?z_all ?z_bool ?z_dict ?z_enumerate ?z_int ?z_isinstance ?z_len ?z_list ?z_min ?z_range ?z_sorted ?z_str ?z_tuple
    (case a_l_number_by => k_is)
    (case l_l_number_by => k_is)
    (case cI_l_number_by => k_is)
    (case kk_l_number_by => k_is)
    (case a_l_name_by => k_is)
    (case l_l_name_by => k_is)
    (case cI_l_name_by => k_is)
    (case kk_l_name_by => k_is)
    (case a_l_mixed => k_is)
    (case l_l_mixed => k_is)
    (case cI_l_mixed => k_is)
    (case kk_l_mixed => k_is)
    (case a_l_page_by => k_is)
    (case l_l_page_by => k_is)
    (case cI_l_page_by => k_is)
    (case kk_l_page_by => k_is)
    (case a_l_near_by => k_is)
    (case l_l_near_by => k_is)
    (case cI_l_near_by => k_is)
    (case kk_l_near_by => k_is)
    (case a_l_lacking => k_is)
    (case l_l_lacking => k_is)
    (case cI_l_lacking => k_is)
    (case kk_l_lacking => k_is)
    (case a_l_truth => k_is)
    (case l_l_truth => k_is)
    (case cI_l_truth => k_is)
    (case kk_l_truth => k_is)
    (case a_l_cell_at => k_is)
    (case l_l_cell_at => k_is)
    (case cI_l_cell_at => k_is)
    (case kk_l_cell_at => k_is)
    (case a_reaches => k_is)
    (case l_reaches => k_is)
    (case cI_reaches => k_is)
    (case kk_reaches => k_is)
    (case a_share_of => k_is)
    (case l_share_of => k_is)
    (case cI_share_of => k_is)
    (case kk_share_of => k_is)
    (case a_lacking => k_is)
    (case l_lacking => k_is)
    (case cI_lacking => k_is)
    (case kk_lacking => k_is)
    (case a_knows => k_is)
    (case l_knows => k_is)
    (case cI_knows => k_is)
    (case kk_knows => k_is)
    (case a_l_whole => k_is)
    (case l_l_whole => k_is)
    (case cI_l_whole => k_is)
    (case kk_l_whole => k_is)
    (case a_l_share => k_is)
    (case l_l_share => k_is)
    (case cI_l_share => k_is)
    (case kk_l_share => k_is)
    (case a_l_same => k_is)
    (case l_l_same => k_is)
    (case cI_l_same => k_is)
    (case kk_l_same => k_is)
    (case a_law_k06 => k_is)
    (case l_law_k06 => k_is)
    (case cI_law_k06 => k_is)
    (case kk_law_k06 => k_is)
    (case z_all => k_is)
    (case z_bool => k_is)
    (case z_dict => k_is)
    (case z_enumerate => k_is)
    (case z_int => k_is)
    (case z_isinstance => k_is)
    (case z_len => k_is)
    (case z_list => k_is)
    (case z_min => k_is)
    (case z_range => k_is)
    (case z_sorted => k_is)
    (case z_str => k_is)
    (case z_tuple => k_is)
#print axioms PySem.Challenge.cw_gossipcount_k06_pages_lacking_holds
