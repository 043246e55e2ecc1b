import PyProof.Rows.All
import Wide.All
import OpenK.AllK
import Wide.FinOn
import HandS.ForMost
import HandS.Evl
import HandS.IsInst
import HandS.Walk
import HandS.TupLe
import HandS.Codes
import PySem.Challenge.RW_gossipcount_k03_names_and_amounts
set_option Elab.async false
set_option linter.all false
set_option maxRecDepth 100000
set_option maxHeartbeats 4000000
namespace Gc
open PySem L2 Evl
/-! ### heaps that grow; small words -/
theorem tup_new {H : Hp} {xs : List V} {Q : VK} (h : ∀ p H', H p = none → Ex H H' → H' p = some (.tup xs) → Q (.ref p) H') : ∀ p, H p = none → Q (.ref p) (upd H p (.tup xs)) := fun p hp => h p _ hp (Ex.new hp) upd_same
theorem lst_new {H : Hp} {xs : List V} {Q : VK} (h : ∀ p H', H p = none → Ex H H' → H' p = some (.lst xs) → Q (.ref p) H') : ∀ p, H p = none → Q (.ref p) (upd H p (.lst xs)) := fun p hp => h p _ hp (Ex.new hp) upd_same
theorem dct_new {H : Hp} {xs : List (Key × V)} {Q : VK} (h : ∀ p H', H p = none → Ex H H' → H' p = some (.dK xs) → Q (.ref p) H') : ∀ p, H p = none → Q (.ref p) (upd H p (.dK xs)) := fun p hp => h p _ hp (Ex.new hp) upd_same
theorem ex_at {H H' : Hp} {a : Addr} {o : HO} (e : Ex H H') (h : H a = some o) : H' a = some o := e a o h
theorem ex_same {H H' : Hp} (e : Ex H H') : Same H H' := e
theorem bne_self {b : Bool} : (!b) = (if b = true then false else true) := by cases b <;> rfl
theorem sz (n : Nat) (h : Nat.ble n 100000 = true := by rfl) : n ≤ sizeLine := sz_of (Nat.le_of_ble_eq_true h)
/-- a share at t: the pair (a, b) -/
abbrev ShAt (K : PySem.W.Frag) (H : Hp) (t : Addr) (a b : Int) : Prop := SqT K H t [.int a, .int b]
theorem tyx_t {K : PySem.W.Frag} {H : Hp} {a : Addr} {xs : List V} (h : SqT K H a xs) : TyX K H (.ref a) (.type "tuple") := by
  rcases h with (h | ⟨o, h⟩) | ⟨o, its, n, hk, hc, _⟩
  · exact .base (.tup h)
  · exact .fTuple h
  · exact .kTuple hk hc
theorem tyx_l {K : PySem.W.Frag} {H : Hp} {a : Addr} {xs : List V} (h : SqL K H a xs) : TyX K H (.ref a) (.type "list") := by
  rcases h with (h | ⟨o, h⟩) | ⟨o, its, n, hk, hc, _⟩
  · exact .base (.lst h)
  · exact .base (.frz h)
  · exact .kList hk hc
theorem tyx_d {K : PySem.W.Frag} {H : Hp} {a : Addr} {kvs : List (Key × V)} (h : Rd H a (.dK kvs)) : TyX K H (.ref a) (.type "dict") := by
  rcases h with h | ⟨o, h⟩
  · exact .base (.dK h)
  · exact .fDict h
theorem ab_ex {H H1 : Hp} {p : Addr} {o : HO} (hp : H p = none) (h : upd H p o = H1) : Ex H H1 := h ▸ Ex.new hp
theorem ab_at {H H1 : Hp} {p : Addr} {o : HO} (h : upd H p o = H1) : H1 p = some o := h ▸ upd_same
/-- what is said here is not opened by the walk -/
structure Hold (P : Prop) : Prop where
  it : P
theorem ab_mut {H H1 H2 : Hp} {p : Addr} {o : HO} (hp : H p = none) (e : Ex H H1) (h : upd H1 p o = H2) : Ex H H2 := h ▸ Ex.mut e hp
theorem pos60 : (0 : Int) < 10 ^ (60 : Int).toNat := by decide
theorem ite_refl {x : V} {A B : Prop} (h : A) : if decide (x = x) = true then A else B := by
  rw [if_pos (decide_eq_true rfl)]; exact h
theorem ite_nrefl {x : V} {A B : Prop} (h : B) : if (!decide (x = x)) = true then A else B := by
  rw [decide_eq_true (rfl : x = x)]; exact iteF h
theorem ite_pos {c : Bool} {A B : Prop} (hc : c = true) (h : A) : if c = true then A else B := by
  rw [if_pos hc]; exact h
theorem ite_neg {c : Bool} {A B : Prop} (hc : c = false) (h : B) : if c = true then A else B := by
  rw [hc]; exact iteF h
theorem lt_t {i j : Int} {A B : Prop} (hc : i < j) (h : A) : if decide (i < j) = true then A else B := ite_pos (decide_eq_true hc) h
theorem lt_f {i j : Int} {A B : Prop} (hc : ¬ i < j) (h : B) : if decide (i < j) = true then A else B := ite_neg (decide_eq_false hc) h
theorem le_t {i j : Int} {A B : Prop} (hc : i ≤ j) (h : A) : if decide (i ≤ j) = true then A else B := ite_pos (decide_eq_true hc) h
theorem le_f {i j : Int} {A B : Prop} (hc : ¬ i ≤ j) (h : B) : if decide (i ≤ j) = true then A else B := ite_neg (decide_eq_false hc) h
theorem eqI_t {i j : Int} {A B : Prop} (hc : i = j) (h : A) : if decide (V.int i = V.int j) = true then A else B := ite_pos (decide_eq_true (by rw [hc])) h
theorem eqI_f {i j : Int} {A B : Prop} (hc : ¬ i = j) (h : B) : if decide (V.int i = V.int j) = true then A else B := ite_neg (decide_eq_false (fun e => hc (V.int.inj e))) h
theorem neI_t {i j : Int} {A B : Prop} (hc : ¬ i = j) (h : A) : if (!decide (V.int i = V.int j)) = true then A else B := ite_pos (by rw [decide_eq_false (fun e => hc (V.int.inj e))]; rfl) h
theorem neI_f {i j : Int} {A B : Prop} (hc : i = j) (h : B) : if (!decide (V.int i = V.int j)) = true then A else B := ite_neg (by rw [decide_eq_true (by rw [hc])]; rfl) h
theorem iteN_t {c : Bool} {A B : Prop} (hc : c = false) (h : A) : if (!c) = true then A else B := ite_pos (by rw [hc]; rfl) h
theorem iteN_f {c : Bool} {A B : Prop} (hc : c = true) (h : B) : if (!c) = true then A else B := ite_neg (by rw [hc]; rfl) h
/-- a and b, b without a new thing -/
theorem and_ev {te : TE} {σ : L2.St} {H : Hp} {Q : VK} {b1 : Bool} (b2 : Bool) (hv : b1 = true → ∀ Q' : VK, Q' (.bl b2) H → te σ H Q') (h : Q (.bl (b1 && b2)) H) : if b1 = true then te σ H Q else Q (.bl false) H := by
  cases b1 with
  | true => exact iteT (hv rfl Q h)
  | false => exact iteF h
theorem or_ev {te : TE} {σ : L2.St} {H : Hp} {Q : VK} {b1 : Bool} (b2 : Bool) (hv : b1 = false → ∀ Q' : VK, Q' (.bl b2) H → te σ H Q') (h : Q (.bl (b1 || b2)) H) : if b1 = true then Q (.bl true) H else te σ H Q := by
  cases b1 with
  | true => exact iteT h
  | false => exact iteF (hv rfl Q h)
theorem chain_ev {tc : TE} {r' : R2} {y : V} {σ : L2.St} {H : Hp} {Q : VK} {b1 : Bool} (b2 : Bool) (hv : b1 = true → ∀ Q' : VK, Q' (.bl b2) H → tc σ H fun w' H4 => r' y w' H4 Q') (h : Q (.bl (b1 && b2)) H) :
    if b1 = true then (tc σ H fun w' H4 => r' y w' H4 Q) else Q (.bl false) H := by
  cases b1 with
  | true => exact iteT (hv rfl Q h)
  | false => exact iteF h
theorem bl_eq {H : Hp} {Q : VK} {b c : Bool} (e : b = c) (h : Q (.bl c) H) : Q (.bl b) H := e ▸ h
theorem eqI_b {i j : Int} (h : i = j) : decide (V.int i = V.int j) = true := decide_eq_true (by rw [h])
/-- an open test on two whole numbers -/
theorem lt_2 {i j : Int} {A B : Prop} (h1 : i < j → A) (h2 : ¬ i < j → B) : if decide (i < j) = true then A else B := by
  by_cases hc : i < j
  · exact lt_t hc (h1 hc)
  · exact lt_f hc (h2 hc)
theorem le_2 {i j : Int} {A B : Prop} (h1 : i ≤ j → A) (h2 : ¬ i ≤ j → B) : if decide (i ≤ j) = true then A else B := by
  by_cases hc : i ≤ j
  · exact le_t hc (h1 hc)
  · exact le_f hc (h2 hc)
theorem ltN_2 {i j : Int} {A B : Prop} (h1 : ¬ i < j → A) (h2 : i < j → B) : if (!decide (i < j)) = true then A else B := by
  by_cases hc : i < j
  · rw [decide_eq_true hc]; exact iteF (h2 hc)
  · rw [decide_eq_false hc]; exact iteT (h1 hc)
theorem leN_2 {i j : Int} {A B : Prop} (h1 : ¬ i ≤ j → A) (h2 : i ≤ j → B) : if (!decide (i ≤ j)) = true then A else B := by
  by_cases hc : i ≤ j
  · rw [decide_eq_true hc]; exact iteF (h2 hc)
  · rw [decide_eq_false hc]; exact iteT (h1 hc)
theorem eqI_2 {i j : Int} {A B : Prop} (h1 : i = j → A) (h2 : ¬ i = j → B) : if decide (V.int i = V.int j) = true then A else B := by
  by_cases hc : i = j
  · exact eqI_t hc (h1 hc)
  · exact eqI_f hc (h2 hc)
theorem neI_2 {i j : Int} {A B : Prop} (h1 : ¬ i = j → A) (h2 : i = j → B) : if (!decide (V.int i = V.int j)) = true then A else B := by
  by_cases hc : i = j
  · exact neI_f hc (h2 hc)
  · exact neI_t hc (h1 hc)
theorem tyx_mono {K : PySem.W.Frag} {H H' : Hp} {x : V} {t : Value} (e : Ex H H') (h : TyX K H x t) : TyX K H' x t := by
  cases h with
  | base b =>
    cases b with
    | non => exact .base .non
    | bl y => exact .base (.bl y)
    | int y => exact .base (.int y)
    | str y => exact .base (.str y)
    | flt y => exact .base (.flt y)
    | lst q => exact .base (.lst (e _ _ q))
    | frz q => exact .base (.frz (e _ _ q))
    | tup q => exact .base (.tup (e _ _ q))
    | dK q => exact .base (.dK (e _ _ q))
    | dT q => exact .base (.dT (e _ _ q))
    | ins q c a n k m => exact .base (.ins (e _ _ q) c a n k m)
  | byt b => exact .byt b
  | set q => exact .set (e _ _ q)
  | kList q c => exact .kList q c
  | kTuple q c => exact .kTuple q c
  | kDict q c => exact .kDict q c
  | fTuple q => exact .fTuple (e _ _ q)
  | fDict q => exact .fDict (e _ _ q)
/-- a comprehension: P by the turn, the list so far and the heap -/
theorem lc_go {J : It} {n : Nat} {G : Hp → Prop} {Yv : Nat → V → Prop} (w : Walk J n G (fun i H x H' => H' = H ∧ Yv i x)) {g : TG} {tt : TT} {te : TE} {vs : List Nat} {σ : L2.St} {H1 : Hp} {D : Addr} {Qd : Hp → Prop}
    (P : Nat → List V → Hp → Prop) (hn : n ≤ 100000) (hD : H1 D = none) (hG : ∀ H, Ex H1 H → G H) (hP : ∀ i acc H o, P i acc H → P i acc (upd H D o)) (h0 : ∀ H, Ex H1 H → P 0 [] H)
    (hs : ∀ i x acc H (Kk : VK) (Nn : Hp → Prop), i < n → Yv i x → Ex H1 H → H D = some (.lst acc) → P i acc H → (∀ y H4, Ex H H4 → P (i + 1) (acc ++ [y]) H4 → Kk y H4) → (∀ H3, Ex H H3 → P (i + 1) acc H3 → Nn H3) →
      g x (wipe σ vs) H fun σ2 H2 => wipe σ2 vs = wipe σ vs ∧ tt σ2 H2 fun b H3 => if b = true then te σ2 H3 Kk else Nn H3)
    (hd : ∀ acc H, Ex H1 H → H D = some (.lst acc) → P n acc H → Qd H) :
    ∃ W : Nat → Nat → Hp → Prop, (∃ m, W 0 m (upd H1 D (.lst []))) ∧ ∀ i m H, W i m H →
      (J.stop i H ∧ Qd H) ∨ (J.go i H ∧ ∃ Nx : Hp → Prop, (∀ H', Nx H' → ∃ m', m' < m ∧ W (i + 1) m' H') ∧ ∀ x H', J.yld i H x H' → g x (wipe σ vs) H' fun σ2 H2 => wipe σ2 vs = wipe σ vs ∧ tt σ2 H2 fun b H3 =>
        if b = true then te σ2 H3 fun y H4 => ∃ acc, H4 D = some (.lst acc) ∧ acc.length < sizeLine ∧ Nx (upd H4 D (.lst (acc ++ [y]))) else Nx H3) := by
  refine lc_it w (fun i H => ∃ acc, H D = some (.lst acc) ∧ acc.length ≤ i ∧ Ex H1 H ∧ P i acc H) ⟨[], upd_same, Nat.le_refl _, Ex.new hD, h0 _ (Ex.new hD)⟩ (fun i H _ h => ?_) (fun i x H H' hi h y => ?_) (fun H h => ?_)
  · obtain ⟨acc, _, _, e, _⟩ := h
    exact hG H e
  · obtain ⟨acc, ha, hl, e, p⟩ := h
    obtain ⟨rfl, hy⟩ := y
    refine hs i x acc H' _ _ hi hy e ha p (fun y H4 e4 p4 => ?_) (fun H3 e3 p3 => ?_)
    · refine ⟨acc, e4 _ _ ha, sz_lt (by omega), acc ++ [y], upd_same, by rw [List.length_append, List.length_singleton]; omega, Ex.mut (e.trans e4) hD, hP _ _ _ _ p4⟩
    · exact ⟨acc, e3 _ _ ha, by omega, e.trans e3, p3⟩
  · obtain ⟨acc, ha, _, e, p⟩ := h
    exact hd acc H e ha p
/-- what is_whole answers of x -/
def WholeJ (K : PySem.W.Frag) (H : Hp) (x : V) (b : Bool) : Prop := ∃ (t : String) (b1 b2 : Bool), TyX K H x (.type t) ∧ PySem.W.kitOne K (.type t) (.type "int") = some b1 ∧ PySem.W.kitOne K (.type t) (.type "bool") = some b2 ∧ b = (b1 && !b2)
/-- x is no text -/
def NoStr (K : PySem.W.Frag) (H : Hp) (x : V) : Prop := ∃ t : String, TyX K H x (.type t) ∧ PySem.W.kitOne K (.type t) (.type "str") = some false
theorem kit_int_int {K : PySem.W.Frag} : PySem.W.kitOne K (.type "int") (.type "int") = some true := kit_ty (by decide +kernel)
theorem kit_int_bool {K : PySem.W.Frag} : PySem.W.kitOne K (.type "int") (.type "bool") = some false := kit_ty (by decide +kernel)
theorem kit_int_str {K : PySem.W.Frag} : PySem.W.kitOne K (.type "int") (.type "str") = some false := kit_ty (by decide +kernel)
theorem kit_int_tuple {K : PySem.W.Frag} : PySem.W.kitOne K (.type "int") (.type "tuple") = some false := kit_ty (by decide +kernel)
theorem kit_int_dict {K : PySem.W.Frag} : PySem.W.kitOne K (.type "int") (.type "dict") = some false := kit_ty (by decide +kernel)
theorem kit_int_list {K : PySem.W.Frag} : PySem.W.kitOne K (.type "int") (.type "list") = some false := kit_ty (by decide +kernel)
theorem kit_bool_int {K : PySem.W.Frag} : PySem.W.kitOne K (.type "bool") (.type "int") = some true := kit_ty (by decide +kernel)
theorem kit_bool_bool {K : PySem.W.Frag} : PySem.W.kitOne K (.type "bool") (.type "bool") = some true := kit_ty (by decide +kernel)
theorem kit_bool_str {K : PySem.W.Frag} : PySem.W.kitOne K (.type "bool") (.type "str") = some false := kit_ty (by decide +kernel)
theorem kit_bool_tuple {K : PySem.W.Frag} : PySem.W.kitOne K (.type "bool") (.type "tuple") = some false := kit_ty (by decide +kernel)
theorem kit_bool_dict {K : PySem.W.Frag} : PySem.W.kitOne K (.type "bool") (.type "dict") = some false := kit_ty (by decide +kernel)
theorem kit_bool_list {K : PySem.W.Frag} : PySem.W.kitOne K (.type "bool") (.type "list") = some false := kit_ty (by decide +kernel)
theorem kit_str_int {K : PySem.W.Frag} : PySem.W.kitOne K (.type "str") (.type "int") = some false := kit_ty (by decide +kernel)
theorem kit_str_bool {K : PySem.W.Frag} : PySem.W.kitOne K (.type "str") (.type "bool") = some false := kit_ty (by decide +kernel)
theorem kit_str_str {K : PySem.W.Frag} : PySem.W.kitOne K (.type "str") (.type "str") = some true := kit_ty (by decide +kernel)
theorem kit_str_tuple {K : PySem.W.Frag} : PySem.W.kitOne K (.type "str") (.type "tuple") = some false := kit_ty (by decide +kernel)
theorem kit_str_dict {K : PySem.W.Frag} : PySem.W.kitOne K (.type "str") (.type "dict") = some false := kit_ty (by decide +kernel)
theorem kit_str_list {K : PySem.W.Frag} : PySem.W.kitOne K (.type "str") (.type "list") = some false := kit_ty (by decide +kernel)
theorem kit_NoneType_int {K : PySem.W.Frag} : PySem.W.kitOne K (.type "NoneType") (.type "int") = some false := kit_ty (by decide +kernel)
theorem kit_NoneType_bool {K : PySem.W.Frag} : PySem.W.kitOne K (.type "NoneType") (.type "bool") = some false := kit_ty (by decide +kernel)
theorem kit_NoneType_str {K : PySem.W.Frag} : PySem.W.kitOne K (.type "NoneType") (.type "str") = some false := kit_ty (by decide +kernel)
theorem kit_NoneType_tuple {K : PySem.W.Frag} : PySem.W.kitOne K (.type "NoneType") (.type "tuple") = some false := kit_ty (by decide +kernel)
theorem kit_NoneType_dict {K : PySem.W.Frag} : PySem.W.kitOne K (.type "NoneType") (.type "dict") = some false := kit_ty (by decide +kernel)
theorem kit_NoneType_list {K : PySem.W.Frag} : PySem.W.kitOne K (.type "NoneType") (.type "list") = some false := kit_ty (by decide +kernel)
theorem kit_tuple_int {K : PySem.W.Frag} : PySem.W.kitOne K (.type "tuple") (.type "int") = some false := kit_ty (by decide +kernel)
theorem kit_tuple_bool {K : PySem.W.Frag} : PySem.W.kitOne K (.type "tuple") (.type "bool") = some false := kit_ty (by decide +kernel)
theorem kit_tuple_str {K : PySem.W.Frag} : PySem.W.kitOne K (.type "tuple") (.type "str") = some false := kit_ty (by decide +kernel)
theorem kit_tuple_tuple {K : PySem.W.Frag} : PySem.W.kitOne K (.type "tuple") (.type "tuple") = some true := kit_ty (by decide +kernel)
theorem kit_tuple_dict {K : PySem.W.Frag} : PySem.W.kitOne K (.type "tuple") (.type "dict") = some false := kit_ty (by decide +kernel)
theorem kit_tuple_list {K : PySem.W.Frag} : PySem.W.kitOne K (.type "tuple") (.type "list") = some false := kit_ty (by decide +kernel)
theorem kit_list_int {K : PySem.W.Frag} : PySem.W.kitOne K (.type "list") (.type "int") = some false := kit_ty (by decide +kernel)
theorem kit_list_bool {K : PySem.W.Frag} : PySem.W.kitOne K (.type "list") (.type "bool") = some false := kit_ty (by decide +kernel)
theorem kit_list_str {K : PySem.W.Frag} : PySem.W.kitOne K (.type "list") (.type "str") = some false := kit_ty (by decide +kernel)
theorem kit_list_tuple {K : PySem.W.Frag} : PySem.W.kitOne K (.type "list") (.type "tuple") = some false := kit_ty (by decide +kernel)
theorem kit_list_dict {K : PySem.W.Frag} : PySem.W.kitOne K (.type "list") (.type "dict") = some false := kit_ty (by decide +kernel)
theorem kit_list_list {K : PySem.W.Frag} : PySem.W.kitOne K (.type "list") (.type "list") = some true := kit_ty (by decide +kernel)
theorem kit_dict_int {K : PySem.W.Frag} : PySem.W.kitOne K (.type "dict") (.type "int") = some false := kit_ty (by decide +kernel)
theorem kit_dict_bool {K : PySem.W.Frag} : PySem.W.kitOne K (.type "dict") (.type "bool") = some false := kit_ty (by decide +kernel)
theorem kit_dict_str {K : PySem.W.Frag} : PySem.W.kitOne K (.type "dict") (.type "str") = some false := kit_ty (by decide +kernel)
theorem kit_dict_tuple {K : PySem.W.Frag} : PySem.W.kitOne K (.type "dict") (.type "tuple") = some false := kit_ty (by decide +kernel)
theorem kit_dict_dict {K : PySem.W.Frag} : PySem.W.kitOne K (.type "dict") (.type "dict") = some true := kit_ty (by decide +kernel)
theorem kit_dict_list {K : PySem.W.Frag} : PySem.W.kitOne K (.type "dict") (.type "list") = some false := kit_ty (by decide +kernel)
theorem WholeJ.int {K : PySem.W.Frag} {H : Hp} (i : Int) : WholeJ K H (.int i) true := ⟨"int", true, false, .base (.int i), kit_int_int, kit_int_bool, rfl⟩
theorem WholeJ.bl {K : PySem.W.Frag} {H : Hp} (i : Bool) : WholeJ K H (.bl i) false := ⟨"bool", true, true, .base (.bl i), kit_bool_int, kit_bool_bool, rfl⟩
theorem WholeJ.str {K : PySem.W.Frag} {H : Hp} (i : Str) : WholeJ K H (.str i) false := ⟨"str", false, false, .base (.str i), kit_str_int, kit_str_bool, rfl⟩
theorem WholeJ.non {K : PySem.W.Frag} {H : Hp} : WholeJ K H .non false := ⟨"NoneType", false, false, .base .non, kit_NoneType_int, kit_NoneType_bool, rfl⟩
theorem WholeJ.tup {K : PySem.W.Frag} {H : Hp} {t : Addr} {xs : List V} (h : SqT K H t xs) : WholeJ K H (.ref t) false := ⟨"tuple", false, false, tyx_t h, kit_tuple_int, kit_tuple_bool, rfl⟩
theorem WholeJ.lst {K : PySem.W.Frag} {H : Hp} {t : Addr} {xs : List V} (h : SqL K H t xs) : WholeJ K H (.ref t) false := ⟨"list", false, false, tyx_l h, kit_list_int, kit_list_bool, rfl⟩
theorem WholeJ.dct {K : PySem.W.Frag} {H : Hp} {t : Addr} {xs : List (Key × V)} (h : Rd H t (.dK xs)) : WholeJ K H (.ref t) false := ⟨"dict", false, false, tyx_d h, kit_dict_int, kit_dict_bool, rfl⟩
theorem NoStr.int {K : PySem.W.Frag} {H : Hp} (i : Int) : NoStr K H (.int i) := ⟨"int", .base (.int i), kit_int_str⟩
theorem NoStr.bl {K : PySem.W.Frag} {H : Hp} (i : Bool) : NoStr K H (.bl i) := ⟨"bool", .base (.bl i), kit_bool_str⟩
theorem NoStr.non {K : PySem.W.Frag} {H : Hp} : NoStr K H .non := ⟨"NoneType", .base .non, kit_NoneType_str⟩
theorem NoStr.tup {K : PySem.W.Frag} {H : Hp} {t : Addr} {xs : List V} (h : SqT K H t xs) : NoStr K H (.ref t) := ⟨"tuple", tyx_t h, kit_tuple_str⟩
theorem NoStr.lst {K : PySem.W.Frag} {H : Hp} {t : Addr} {xs : List V} (h : SqL K H t xs) : NoStr K H (.ref t) := ⟨"list", tyx_l h, kit_list_str⟩
theorem NoStr.dct {K : PySem.W.Frag} {H : Hp} {t : Addr} {xs : List (Key × V)} (h : Rd H t (.dK xs)) : NoStr K H (.ref t) := ⟨"dict", tyx_d h, kit_dict_str⟩
/-- an item of a list at an open place in bounds -/
theorem tl_len (z : Str) : z.cps.toList.length = z.length := Array.length_toList
theorem ixN_in {n : Nat} {i : Int} (h0 : 0 ≤ i) (h1 : i < n) : ixN n i = some i.toNat := by
  have q : ixN n ((i.toNat : Nat) : Int) = some i.toNat := Evl.ixN_nat (by omega)
  rw [show ((i.toNat : Nat) : Int) = i by omega] at q
  exact q
theorem mod_in {a b : Int} (h : 0 < b) : 0 ≤ a % b ∧ a % b < b := ⟨Int.emod_nonneg _ (by omega), Int.emod_lt_of_pos _ h⟩
theorem atI_in {α : Type} {xs : List α} {i : Int} (h0 : 0 ≤ i) (h1 : i < xs.length) : ∃ v, atI xs i = some v ∧ v ∈ xs := by
  have hj : i.toNat < xs.length := by omega
  have q : atI xs ((i.toNat : Nat) : Int) = some xs[i.toNat] := atI_nat (List.getElem?_eq_getElem hj)
  exact ⟨xs[i.toNat], by rw [show ((i.toNat : Nat) : Int) = i by omega] at q; exact q, List.getElem_mem hj⟩
theorem WholeJ.mono {K : PySem.W.Frag} {H H' : Hp} {x : V} {b : Bool} (e : Ex H H') (h : WholeJ K H x b) : WholeJ K H' x b := by
  obtain ⟨t, b1, b2, h1, h2⟩ := h
  exact ⟨t, b1, b2, tyx_mono e h1, h2⟩
theorem NoStr.mono {K : PySem.W.Frag} {H H' : Hp} {x : V} (e : Ex H H') (h : NoStr K H x) : NoStr K H' x := by
  obtain ⟨t, h1, h2⟩ := h
  exact ⟨t, tyx_mono e h1, h2⟩
end Gc
/- what is known of an earlier heap, at a later one -/
local macro_rules | `(tactic| walk_at "gc_ex") => `(tactic| first
  | assumption
  | exact Evl.Ex.refl _
  | (refine Evl.Ex.trans ?_ (by assumption); walk_at "gc_ex"))
local macro_rules | `(tactic| walk_at "gc_at") => `(tactic| first
  | assumption
  | exact Evl.st_of (by assumption)
  | exact Evl.sq_of (by assumption)
  | exact L2.Rd.of (by assumption)
  | (refine Evl.ex_t (by assumption) ?_; walk_at "gc_at")
  | (refine Evl.ex_l (by assumption) ?_; walk_at "gc_at")
  | (refine Evl.ex_rd (by assumption) ?_; walk_at "gc_at")
  | (refine Gc.ex_at (by assumption) ?_; walk_at "gc_at"))
local macro_rules | `(tactic| walk_at "gc_ty") => `(tactic| first
  | exact L2.TyX.base (L2.TyOf.int _)
  | exact L2.TyX.base (L2.TyOf.bl _)
  | exact L2.TyX.base (L2.TyOf.str _)
  | exact L2.TyX.base L2.TyOf.non
  | assumption
  | (refine' Gc.tyx_t ?h; (case h => walk_at "gc_at"))
  | (refine' Gc.tyx_l ?h; (case h => walk_at "gc_at"))
  | (refine' Gc.tyx_d ?h; (case h => walk_at "gc_at")))
local macro_rules | `(tactic| walk_at "gc_kit") => `(tactic| first
  | exact Gc.kit_int_int
  | exact Gc.kit_int_bool
  | exact Gc.kit_int_str
  | exact Gc.kit_int_tuple
  | exact Gc.kit_int_dict
  | exact Gc.kit_int_list
  | exact Gc.kit_bool_int
  | exact Gc.kit_bool_bool
  | exact Gc.kit_bool_str
  | exact Gc.kit_bool_tuple
  | exact Gc.kit_bool_dict
  | exact Gc.kit_bool_list
  | exact Gc.kit_str_int
  | exact Gc.kit_str_bool
  | exact Gc.kit_str_str
  | exact Gc.kit_str_tuple
  | exact Gc.kit_str_dict
  | exact Gc.kit_str_list
  | exact Gc.kit_NoneType_int
  | exact Gc.kit_NoneType_bool
  | exact Gc.kit_NoneType_str
  | exact Gc.kit_NoneType_tuple
  | exact Gc.kit_NoneType_dict
  | exact Gc.kit_NoneType_list
  | exact Gc.kit_tuple_int
  | exact Gc.kit_tuple_bool
  | exact Gc.kit_tuple_str
  | exact Gc.kit_tuple_tuple
  | exact Gc.kit_tuple_dict
  | exact Gc.kit_tuple_list
  | exact Gc.kit_list_int
  | exact Gc.kit_list_bool
  | exact Gc.kit_list_str
  | exact Gc.kit_list_tuple
  | exact Gc.kit_list_dict
  | exact Gc.kit_list_list
  | exact Gc.kit_dict_int
  | exact Gc.kit_dict_bool
  | exact Gc.kit_dict_str
  | exact Gc.kit_dict_tuple
  | exact Gc.kit_dict_dict
  | exact Gc.kit_dict_list)
/- the answers that need no thought -/
local macro_rules | `(tactic| walk_at "gc_sd") => `(tactic| first
  | rfl
  | walk_at "gc_at"
  | exact L2.ClsV.ty _
  | walk_at "gc_ty"
  | walk_at "gc_kit"
  | exact Gc.sz _
  | exact Gc.pos60
  | exact ⟨by decide, by decide⟩
  | exact ⟨_, rfl⟩
  | exact Or.inl (by walk_at "gc_at")
  | exact Or.inr (by walk_at "gc_at")
  | exact Or.inr ⟨by decide, by decide⟩
  | exact Or.inl ⟨by decide, by decide⟩
  | exact Or.inr ⟨by omega, by omega⟩
  | exact Or.inl ⟨by omega, by omega⟩
  | exact ⟨by decide, by decide, by decide⟩
  | exact ⟨by omega, by omega⟩
  | exact Evl.sz_of (by omega)
  | exact Evl.sz_lt (by omega)
  | decide
  | omega)
local macro_rules | `(tactic| walk_at "gc_e") => `(tactic| (apply Exists.intro; first | refine And.intro rfl ?_ | walk_at "gc_e"))
/- one step of a reading -/
local macro_rules | `(tactic| walk_at "gc_1") => `(tactic| first
  | (refine And.intro rfl ?_)
  | walk_at "gc_e"
  | (refine L2.iteT ?_)
  | (refine L2.iteF ?_)
  | (refine Gc.ite_refl ?_)
  | (refine Gc.ite_nrefl ?_)
  | (intro p hp; refine (?_ : ∃ W : Nat → Nat → L2.Hp → Prop, _))
  | (intro p hp; generalize hX : L2.upd _ p _ = H1; have e1 := Gc.ab_ex hp hX; have f1 := Gc.ab_at hX; clear hX)
  | (refine' And.intro ?s ?_; (case s => walk_at "gc_sd"))
  | intro _)
local macro_rules | `(tactic| walk_at "gc") => `(tactic| repeat walk_at "gc_1")

namespace Gc
open PySem L2 Evl
/-! ### the laws' numbers -/
/-- the greater one, as the program's max takes it -/
def gmax (i j : Int) : Int := if j > i then j else i
/-- the lesser one, as the program's min takes it -/
def gmin (i j : Int) : Int := if j < i then j else i
theorem gmax_comm (i j : Int) : gmax i j = gmax j i := by unfold gmax; split <;> split <;> omega
theorem gmax_back (i j : Int) : gmax (gmax i j) i = gmax i j := by unfold gmax; split <;> split <;> omega
theorem gmax_in (i j : Int) : gmax i (gmax j i) = gmax j i := by unfold gmax; split <;> split <;> omega
/-- whether (a, b) reaches (c, d) -/
def reachB (a b c d : Int) : Bool := decide (c ≤ a) && decide (d ≤ b)
theorem reachB_self (a b : Int) : reachB a b a b = true := by unfold reachB; simp
/-- a cell of the script, 0 behind its end -/
def cellI (ns : List Int) (k : Int) : Int := ns.getD k.toNat 0
/-- a def of whole numbers that makes nothing -/
def sp_i1 (f : Int → Int) : Sp := fun vs H Q _ => ∃ c : Int, vs = [.int c] ∧ Q (.int (f c)) H
def sp_i2 (f : Int → Int → Int) : Sp := fun vs H Q _ => ∃ c e : Int, vs = [.int c, .int e] ∧ Q (.int (f c e)) H
def numberBy (c : Int) : Int :=
  if c % 5 < 2 then c / 5 % 3 * (c % 5) else if c % 5 = 2 then c / 5 % 1000 else if c % 5 = 3 then c / 5 % 10 ^ 60 else 10 ^ 60 - 1 - c / 5 % 1000
/-! ### names -/
def LET : Str := "abcdefghijklmnopqrstuvwxyz"
/-- a text of 1 to 8 small letters -/
def nameB (z : Str) : Bool := decide ((1 : Int) ≤ (z.length : Nat)) && (decide (((z.length : Nat) : Int) ≤ 8) && z.cps.toList.all fun c => decide (c ∈ LET.cps.toList))
theorem nameB_yes (z : Str) (h1 : (1 : Int) ≤ (z.length : Nat)) (h2 : ((z.length : Nat) : Int) ≤ 8) : ((z.cps.toList.map fun c => decide (c ∈ LET.cps.toList)).all id) = nameB z := by
  unfold nameB
  rw [decide_eq_true h1, decide_eq_true h2, Bool.true_and, Bool.true_and, List.all_map]
  rfl
theorem nameB_long (z : Str) (h2 : ¬ ((z.length : Nat) : Int) ≤ 8) : nameB z = false := by
  unfold nameB
  rw [decide_eq_false h2, Bool.false_and, Bool.and_false]
theorem nameB_short (z : Str) (h2 : ¬ (1 : Int) ≤ (z.length : Nat)) : nameB z = false := by
  unfold nameB
  rw [decide_eq_false h2, Bool.false_and]
theorem take_map_succ {α β : Type} {f : α → β} {l : List α} {i : Nat} {x : α} (h : l[i]? = some x) : (l.take (i + 1)).map f = (l.take i).map f ++ [f x] := by
  rw [List.take_add_one, h, List.map_append]
  rfl
theorem all_take_succ {α : Type} {p : α → Bool} {l : List α} {i : Nat} {x : α} (h : l[i]? = some x) : (l.take (i + 1)).all p = ((l.take i).all p && p x) := by
  rw [List.take_add_one, h, List.all_append]
  simp
/-- texts of one sign each -/
def sg (c : Nat) : Str := ⟨#[c]⟩
def Signs (p : Nat → Prop) (xs : List V) : Prop := ∃ cs : List Nat, xs = (cs.map sg).map V.str ∧ ∀ c ∈ cs, p c
theorem Signs.nil {p : Nat → Prop} : Signs p [] := ⟨[], rfl, fun _ h => (by cases h)⟩
theorem Signs.one {p : Nat → Prop} {xs : List V} {c : Nat} (h : Signs p xs) (hc : p c) : Signs p (xs ++ [.str ⟨#[c]⟩]) := by
  obtain ⟨cs, rfl, q⟩ := h
  refine ⟨cs ++ [c], by rw [List.map_append, List.map_append]; rfl, fun d hd => ?_⟩
  rcases List.mem_append.mp hd with h | h
  · exact q d h
  · rw [List.mem_singleton.mp h]; exact hc
theorem Signs.put {p : Nat → Prop} {xs : List V} {c : Nat} (h : Signs p xs) (hc : p c) (j : Nat) : Signs p (xs.set j (.str ⟨#[c]⟩)) := by
  obtain ⟨cs, rfl, q⟩ := h
  refine ⟨cs.set j c, by rw [List.map_set, List.map_set]; rfl, fun d hd => ?_⟩
  rcases List.mem_or_eq_of_mem_set hd with h | h
  · exact q d h
  · rw [h]; exact hc
theorem sg_lens : ∀ cs : List Nat, ((cs.map sg).map (fun x => x.length)).sum = cs.length
  | [] => rfl
  | c :: cs => by
    show 1 + ((cs.map sg).map (fun x => x.length)).sum = cs.length + 1
    rw [sg_lens cs, Nat.add_comm]
theorem sg_size (cs : List Nat) (h : cs.length ≤ 100000) : ((cs.map sg).map (fun x => x.length)).sum + (cs.map sg).length * ("" : Str).length ≤ 16777216 := by
  rw [sg_lens, List.length_map]
  show cs.length + cs.length * 0 ≤ 16777216
  omega
theorem joinL_sg : ∀ cs : List Nat, TL.joinL [] (cs.map fun c => [c]) = cs
  | [] => rfl
  | [c] => rfl
  | c :: d :: r => by
    show [c] ++ ([] ++ TL.joinL [] ((d :: r).map fun c => [c])) = c :: d :: r
    rw [joinL_sg (d :: r)]
    rfl
theorem join_sg (cs : List Nat) : Txt.join ("" : Str) (cs.map sg) = ⟨cs.toArray⟩ := by
  have e := SX.join_S [] (cs.map fun c => [c])
  rw [joinL_sg, List.map_map] at e
  exact e
/-- an amount -/
def amountB (i : Int) : Bool := decide (1 ≤ i) && decide (i ≤ 1000000000)
theorem amountB_alt (N : Int) : amountB N = (decide (0 < N) && decide (N < 1000000001)) := by
  have e1 : decide (1 ≤ N) = decide (0 < N) := decide_eq_decide.mpr (by omega)
  have e2 : decide (N ≤ 1000000000) = decide (N < 1000000001) := decide_eq_decide.mpr (by omega)
  unfold amountB
  rw [e1, e2]
/-- what a law promises: True -/
def sp_law (K : PySem.W.Frag) : Sp := fun vs H Q _ => ∃ (a : Addr) (ns : List Int), vs = [.ref a] ∧ SqL K H a (ns.map V.int) ∧ ns.length ≤ 63 ∧ ∀ H', Q (.bl true) H'
end Gc

namespace Gc
open PySem L2 Evl
def top (i : Nat) : Stmt := PySem.Challenge.pw_gossipcount_k03_names_and_amounts.main.body.getD i (.Pass ⟨0, 0, 0, 0⟩)
abbrev s_l_signs : Stmt := top 10
abbrev s_l_text_by : Stmt := top 11
abbrev s_l_number_by3 : Stmt := top 12
abbrev s_l_cell_at : Stmt := top 8
abbrev s_l_truth : Stmt := top 9
abbrev s_is_name : Stmt := top 5
abbrev s_is_whole : Stmt := top 4
abbrev s_is_amount : Stmt := top 6
abbrev s_law_k03 : Stmt := top 13
theorem sc_l_signs : FnScope ["_law_some"] [] (defScope s_l_signs) := ⟨rfl, rfl, rfl, by decide +kernel, rfl, by decide +kernel, by decide +kernel⟩
theorem sc_l_text_by : FnScope ["_law_size", "_law_cell", "_law_odd", "_law_some", "_law_row", "_law_k"] ["_law_size", "_law_cell", "_law_odd"] (defScope s_l_text_by) := ⟨rfl, rfl, rfl, by decide +kernel, rfl, by decide +kernel, by decide +kernel⟩
theorem sc_l_number_by3 : FnScope ["_law_cell", "_law_kind"] ["_law_cell"] (defScope s_l_number_by3) := ⟨rfl, rfl, rfl, by decide +kernel, rfl, by decide +kernel, by decide +kernel⟩
theorem sc_l_cell_at : FnScope ["_law_script", "_law_k"] ["_law_script", "_law_k"] (defScope s_l_cell_at) := ⟨rfl, rfl, rfl, by decide +kernel, rfl, by decide +kernel, by decide +kernel⟩
theorem sc_l_truth : FnScope ["_law_found", "_law_due"] ["_law_found", "_law_due"] (defScope s_l_truth) := ⟨rfl, rfl, rfl, by decide +kernel, rfl, by decide +kernel, by decide +kernel⟩
theorem sc_is_name : FnScope ["thing", "sign"] ["thing"] (defScope s_is_name) := ⟨rfl, rfl, rfl, by decide +kernel, rfl, by decide +kernel, by decide +kernel⟩
theorem sc_is_whole : FnScope ["thing"] ["thing"] (defScope s_is_whole) := ⟨rfl, rfl, rfl, by decide +kernel, rfl, by decide +kernel, by decide +kernel⟩
theorem sc_is_amount : FnScope ["thing"] ["thing"] (defScope s_is_amount) := ⟨rfl, rfl, rfl, by decide +kernel, rfl, by decide +kernel, by decide +kernel⟩
theorem sc_law_k03 : FnScope ["_law_script", "_law_word", "_law_good", "_law_sign", "_law_number", "_law_things", "_law_thing"] ["_law_script"] (defScope s_law_k03) := ⟨rfl, rfl, rfl, by decide +kernel, rfl, by decide +kernel, by decide +kernel⟩
structure Tx (K : PySem.W.Frag) (mg : Str → Option Value) where
  f_l_signs : Addr
  fd_l_signs : FuncData
  f_l_text_by : Addr
  fd_l_text_by : FuncData
  f_l_number_by3 : Addr
  fd_l_number_by3 : FuncData
  f_l_cell_at : Addr
  fd_l_cell_at : FuncData
  f_l_truth : Addr
  fd_l_truth : FuncData
  f_is_name : Addr
  fd_is_name : FuncData
  f_is_whole : Addr
  fd_is_whole : FuncData
  f_is_amount : Addr
  fd_is_amount : FuncData
  f_law_k03 : Addr
  fd_law_k03 : FuncData
  F_l_signs : Fun K "_law_signs" "_law_signs" s_l_signs f_l_signs fd_l_signs
  b_l_signs : Binds K fd_l_signs [] []
  m_l_signs : mg "_law_signs" = some (.ref f_l_signs)
  F_l_text_by : Fun K "_law_text_by" "_law_text_by" s_l_text_by f_l_text_by fd_l_text_by
  b_l_text_by : Binds K fd_l_text_by ["_law_size", "_law_cell", "_law_odd"] []
  m_l_text_by : mg "_law_text_by" = some (.ref f_l_text_by)
  F_l_number_by3 : Fun K "_law_number_by" "_law_number_by" s_l_number_by3 f_l_number_by3 fd_l_number_by3
  b_l_number_by3 : Binds K fd_l_number_by3 ["_law_cell"] []
  m_l_number_by3 : mg "_law_number_by" = some (.ref f_l_number_by3)
  F_l_cell_at : Fun K "_law_cell_at" "_law_cell_at" s_l_cell_at f_l_cell_at fd_l_cell_at
  b_l_cell_at : Binds K fd_l_cell_at ["_law_script", "_law_k"] []
  m_l_cell_at : mg "_law_cell_at" = some (.ref f_l_cell_at)
  F_l_truth : Fun K "_law_truth" "_law_truth" s_l_truth f_l_truth fd_l_truth
  b_l_truth : Binds K fd_l_truth ["_law_found", "_law_due"] []
  m_l_truth : mg "_law_truth" = some (.ref f_l_truth)
  F_is_name : Fun K "is_name" "is_name" s_is_name f_is_name fd_is_name
  b_is_name : Binds K fd_is_name ["thing"] []
  m_is_name : mg "is_name" = some (.ref f_is_name)
  F_is_whole : Fun K "is_whole" "is_whole" s_is_whole f_is_whole fd_is_whole
  b_is_whole : Binds K fd_is_whole ["thing"] []
  m_is_whole : mg "is_whole" = some (.ref f_is_whole)
  F_is_amount : Fun K "is_amount" "is_amount" s_is_amount f_is_amount fd_is_amount
  b_is_amount : Binds K fd_is_amount ["thing"] []
  m_is_amount : mg "is_amount" = some (.ref f_is_amount)
  F_law_k03 : Fun K "law" "law" s_law_k03 f_law_k03 fd_law_k03
  b_law_k03 : Binds K fd_law_k03 ["_law_script"] []
  m_law_k03 : mg "law" = some (.ref f_law_k03)
  t_LETTERS : Tok
  c_LETTERS : mg "LETTERS" = some (.str "abcdefghijklmnopqrstuvwxyz" t_LETTERS)
  t_LONGEST : Tok
  c_LONGEST : mg "LONGEST" = some (.int 8 t_LONGEST)
  t_MOST : Tok
  c_MOST : mg "MOST" = some (.int 1000000000 t_MOST)
  n_all : mg "all" = none
  n_bool : mg "bool" = none
  n_int : mg "int" = none
  n_isinstance : mg "isinstance" = none
  n_len : mg "len" = none
  n_range : mg "range" = none
  n_str : mg "str" = none
section
variable {P : Program} {w : World} {K : PySem.W.Frag} {mg : Str → Option Value} {base : Heap}
/-- signs(): a text of 98 signs -/
def sp_signs : Sp := fun vs H Q _ => vs = [] ∧ ∀ z : Str, z.length = 98 → Q (.str z) H
theorem ok_l_signs (T : Tx K mg) : FnOk P w K mg base CX0 1 T.f_l_signs T.fd_l_signs [] (sp_signs) := by
  refine T.F_l_signs.ok sc_l_signs (fun vs H Q E h => ?_) (fun cdv A outer s H vs Q E hr h => ?_)
  · first | (obtain ⟨rfl, _⟩ := h; rfl) | (obtain ⟨_, rfl, _⟩ := h; rfl) | (obtain ⟨_, _, rfl, _⟩ := h; rfl) | (obtain ⟨_, _, _, rfl, _⟩ := h; rfl) | (obtain ⟨_, _, _, _, rfl, _⟩ := h; rfl) | (obtain ⟨_, _, _, _, _, rfl, _⟩ := h; rfl) | (obtain ⟨_, _, _, _, _, _, rfl, _⟩ := h; rfl) | (obtain ⟨_, _, _, _, _, _, _, rfl, _⟩ := h; rfl) | (obtain ⟨_, _, _, _, _, _, _, _, rfl, _⟩ := h; rfl)
  · obtain ⟨rfl, k⟩ := h
    refine ⟨_, (pss_cons (ps_set (i := 0) sc_l_signs.nd rfl (Or.inl rfl) pe_str) (pss_one (ps_ret (pe_op op_add_str (pv 0) pe_str)))), ?_⟩
    walk_at "gc"
    exact k _ (by decide +kernel)
/-- text_by(n, ..): some text of n signs -/
def sp_text_by : Sp := fun vs H Q _ => ∃ n c o : Int, vs = [.int n, .int c, .int o] ∧ 0 ≤ n ∧ n ≤ 10 ∧ ∀ z : Str, z.length = n.toNat → ∀ H', Ex H H' → Q (.str z) H'
theorem ok_l_text_by (T : Tx K mg) : FnOk P w K mg base CX0 2 T.f_l_text_by T.fd_l_text_by ["_law_size", "_law_cell", "_law_odd"] (sp_text_by) := by
  refine T.F_l_text_by.ok sc_l_text_by (fun vs H Q E h => ?_) (fun cdv A outer s H vs Q E hr h => ?_)
  · first | (obtain ⟨rfl, _⟩ := h; rfl) | (obtain ⟨_, rfl, _⟩ := h; rfl) | (obtain ⟨_, _, rfl, _⟩ := h; rfl) | (obtain ⟨_, _, _, rfl, _⟩ := h; rfl) | (obtain ⟨_, _, _, _, rfl, _⟩ := h; rfl) | (obtain ⟨_, _, _, _, _, rfl, _⟩ := h; rfl) | (obtain ⟨_, _, _, _, _, _, rfl, _⟩ := h; rfl) | (obtain ⟨_, _, _, _, _, _, _, rfl, _⟩ := h; rfl) | (obtain ⟨_, _, _, _, _, _, _, _, rfl, _⟩ := h; rfl)
  · obtain ⟨n, c, o, rfl, h0, h1, k⟩ := h
    refine ⟨_, (pss_cons (ps_set (i := 3) sc_l_text_by.nd rfl (Or.inr rfl) (pe_call0 (ok_l_signs T) (hr.mono (by decide)) rfl T.m_l_signs T.F_l_signs.kp T.b_l_signs .nil pass0)) (pss_cons (ps_setLc (i := 4) (own := [("_law_k", 5)]) (g := gName 5) (tt := tYes) rfl sc_l_text_by.nd rfl rfl (sw_true rfl rfl rfl (by decide +kernel)) (pi_range1 rfl T.n_range (pa_cons (pv 0) pa_nil)) (blkOk_by (own := [("_law_k", 5)]) (N := ["_law_size", "_law_cell", "_law_odd", "_law_some", "_law_row", "_law_k"]) (sc := defScope s_l_text_by) (by decide +kernel)) (fun _ _ _ _ _ => pg_name (i := 5) sc_l_text_by.nd rfl (Or.inl rfl)) (fun _ _ _ _ _ => pts_nil) (fun _ _ _ _ _ => (pe_ix ix_str (pv 3) (pe_op op_add pe_int (pe_op op_mod (pe_op op_add (pe_op op_mul (pe_op op_fdiv (pv 1) pe_int) (pv 5)) (pv 1)) pe_int)) (fun _ _ => rfl)))) (pss_cut (ps_if (PW.pt (pw_and (pt_cmpR op_gt (pv 0) pe_int (nomark _)) (pw_and1 (pt_cmpR op_gt (pe_op op_mod (pv 2) pe_int) pe_int (nomark _))))) (pss_one (ps_asg (pe_ix ix_str (pv 3) (pe_op op_mod (pe_op op_fdiv (pv 2) (pe_op op_mul pe_int (pv 0))) (pe_callB call_len_str (by rfl) T.n_len PySem.boot_len (pa_cons (pv 3) pa_nil))) (fun _ _ => rfl)) (pg_sub (pv 4) (pe_op op_mod (pe_op op_fdiv (pv 2) pe_int) (pv 0)) set_list))) pss_nil) (pss_one (ps_ret (pe_join pe_str (pv 4))))))), ?_⟩
    walk_at "gc"
    rename_i z hz D hD
    refine Gc.lc_go (walk_range (lo := 0) (n := n.toNat)) (fun i acc _ => Signs (fun _ => True) acc ∧ acc.length = i) (by omega) hD (fun _ _ => trivial) (fun _ _ _ _ h => h) (fun _ _ => ⟨Signs.nil, rfl⟩) (fun i x acc H2 Kk Nn hi hy e hD2 p hK hN => ?_) (fun acc H2 e hD2 p => ?_)
    · have ex : x = .int (0 + (i : Int)) := hy
      subst ex
      obtain ⟨s, hs, _⟩ := atI_in (xs := z.cps.toList) (i := 64 + (c / 26 * (0 + (i : Int)) + c) % 26) (by omega) (by rw [tl_len, hz]; omega)
      walk_at "gc"
      exact hK _ _ (Ex.refl _) ⟨p.1.one trivial, by rw [List.length_append, List.length_singleton, p.2]⟩
    refine ⟨fun σ' H' => Hold (∃ xs, σ' = [some (.int n), some (.int c), some (.int o), some (.str z), some (.ref D), none] ∧ Signs (fun _ => True) xs ∧ xs.length = n.toNat ∧ H' D = some (.lst xs) ∧ Ex H H'), ?_, fun σ' H' hm => ?_⟩
    · walk_at "gc"
      refine Gc.lt_2 (fun c1 => ?_) (fun c1 => ?_)
      · walk_at "gc"
        refine Gc.lt_2 (fun c2 => ?_) (fun c2 => ?_)
        · have m1 := mod_in (a := o / (3 * n)) (b := ((z.length : Nat) : Int)) (by omega)
          have m2 := mod_in (a := o / 3) (b := n) c1
          obtain ⟨s, hs, _⟩ := atI_in (xs := z.cps.toList) (i := o / (3 * n) % ((z.length : Nat) : Int)) m1.1 (by rw [tl_len]; exact m1.2)
          have q := ixN_in (n := acc.length) m2.1 (by omega)
          walk_at "gc"
          exact ⟨⟨_, rfl, p.1.put trivial _, by rw [List.length_set]; exact p.2, upd_same, Ex.mut e hD⟩⟩
        · walk_at "gc"
          exact ⟨⟨_, rfl, p.1, p.2, hD2, e⟩⟩
      · walk_at "gc"
        exact ⟨⟨_, rfl, p.1, p.2, hD2, e⟩⟩
    obtain ⟨⟨xs, rfl, hS, hl, hx, he⟩⟩ := hm
    obtain ⟨cs, rfl, _⟩ := hS
    rw [List.length_map, List.length_map] at hl
    have hsz := sg_size cs (by omega)
    walk_at "gc"
    rw [join_sg]
    exact k ⟨cs.toArray⟩ hl _ he
def numberBy3 (c : Int) : Int := if c % 4 = 0 then c / 4 % 5 - 2 else if c % 4 = 1 then 1000000000 + c / 4 % 5 - 2 else if c % 4 = 2 then 1 + c / 4 % 1000000000 else c
theorem ok_l_number_by3 (T : Tx K mg) : FnOk P w K mg base CX0 1 T.f_l_number_by3 T.fd_l_number_by3 ["_law_cell"] (sp_i1 numberBy3) := by
  refine T.F_l_number_by3.ok sc_l_number_by3 (fun vs H Q E h => ?_) (fun cdv A outer s H vs Q E hr h => ?_)
  · first | (obtain ⟨rfl, _⟩ := h; rfl) | (obtain ⟨_, rfl, _⟩ := h; rfl) | (obtain ⟨_, _, rfl, _⟩ := h; rfl) | (obtain ⟨_, _, _, rfl, _⟩ := h; rfl) | (obtain ⟨_, _, _, _, rfl, _⟩ := h; rfl) | (obtain ⟨_, _, _, _, _, rfl, _⟩ := h; rfl) | (obtain ⟨_, _, _, _, _, _, rfl, _⟩ := h; rfl) | (obtain ⟨_, _, _, _, _, _, _, rfl, _⟩ := h; rfl) | (obtain ⟨_, _, _, _, _, _, _, _, rfl, _⟩ := h; rfl)
  · obtain ⟨c, rfl, k⟩ := h
    refine ⟨_, (pss_cons (ps_set (i := 1) sc_l_number_by3.nd rfl (Or.inl rfl) (pe_op op_mod (pv 0) pe_int)) (pss_cons (ps_if (pt_cmpR op_eq (pv 1) pe_int (nomark _)) (pss_one (ps_ret (pe_op op_sub (pe_op op_mod (pe_op op_fdiv (pv 0) pe_int) pe_int) pe_int))) pss_nil) (pss_cons (ps_if (pt_cmpR op_eq (pv 1) pe_int (nomark _)) (pss_one (ps_ret (pe_op op_sub (pe_op op_add pe_int (pe_op op_mod (pe_op op_fdiv (pv 0) pe_int) pe_int)) pe_int))) pss_nil) (pss_cons (ps_if (pt_cmpR op_eq (pv 1) pe_int (nomark _)) (pss_one (ps_ret (pe_op op_add pe_int (pe_op op_mod (pe_op op_fdiv (pv 0) pe_int) pe_int)))) pss_nil) (pss_one (ps_ret (pv 0))))))), ?_⟩
    walk_at "gc"
    refine Gc.eqI_2 (fun h1 => ?_) (fun h1 => ?_)
    · walk_at "gc"
      have e : numberBy3 c = c / 4 % 5 - 2 := if_pos h1
      rw [e] at k
      exact k
    walk_at "gc"
    refine Gc.eqI_2 (fun h2 => ?_) (fun h2 => ?_)
    · walk_at "gc"
      have e : numberBy3 c = 1000000000 + c / 4 % 5 - 2 := (if_neg h1).trans (if_pos h2)
      rw [e] at k
      exact k
    walk_at "gc"
    refine Gc.eqI_2 (fun h3 => ?_) (fun h3 => ?_)
    · walk_at "gc"
      have e : numberBy3 c = 1 + c / 4 % 1000000000 := (if_neg h1).trans ((if_neg h2).trans (if_pos h3))
      rw [e] at k
      exact k
    walk_at "gc"
    have e : numberBy3 c = c := (if_neg h1).trans ((if_neg h2).trans (if_neg h3))
    rw [e] at k
    exact k
/-- cell_at(script, k) -/
def sp_cell_at (K : PySem.W.Frag) : Sp := fun vs H Q _ => ∃ (a : Addr) (ns : List Int) (j : Int), vs = [.ref a, .int j] ∧ SqL K H a (ns.map V.int) ∧ 0 ≤ j ∧ Q (.int (cellI ns j)) H
theorem ok_l_cell_at (T : Tx K mg) : FnOk P w K mg base CX0 1 T.f_l_cell_at T.fd_l_cell_at ["_law_script", "_law_k"] (sp_cell_at K) := by
  refine T.F_l_cell_at.ok sc_l_cell_at (fun vs H Q E h => ?_) (fun cdv A outer s H vs Q E hr h => ?_)
  · first | (obtain ⟨rfl, _⟩ := h; rfl) | (obtain ⟨_, rfl, _⟩ := h; rfl) | (obtain ⟨_, _, rfl, _⟩ := h; rfl) | (obtain ⟨_, _, _, rfl, _⟩ := h; rfl) | (obtain ⟨_, _, _, _, rfl, _⟩ := h; rfl) | (obtain ⟨_, _, _, _, _, rfl, _⟩ := h; rfl) | (obtain ⟨_, _, _, _, _, _, rfl, _⟩ := h; rfl) | (obtain ⟨_, _, _, _, _, _, _, rfl, _⟩ := h; rfl) | (obtain ⟨_, _, _, _, _, _, _, _, rfl, _⟩ := h; rfl)
  · obtain ⟨a, ns, j, rfl, hs, h0, k⟩ := h
    refine ⟨_, (pss_cons (ps_if (pt_cmpR op_lt (pv 1) (pe_callB call_len_seq (by rfl) T.n_len PySem.boot_len (pa_cons (pv 0) pa_nil)) (nomark _)) (pss_one (ps_ret (pe_ix ix_list (pv 0) (pv 1) (fun _ _ => rfl)))) pss_nil) (pss_one (ps_ret pe_int))), ?_⟩
    walk_at "gc"
    rw [List.length_map]
    refine Gc.lt_2 (fun hc => ?_) (fun hc => ?_)
    · have hj : j.toNat < ns.length := by omega
      have ej : j = ((j.toNat : Nat) : Int) := by omega
      refine ⟨_, rfl, _, rfl, _, _, _, _, rfl, rfl, hs, (by rw [ej]; exact atI_nat (by rw [List.getElem?_map, List.getElem?_eq_getElem hj]; rfl)), ?_⟩
      have e : cellI ns j = ns[j.toNat] := by unfold cellI; simp [hj]
      rw [e] at k
      exact k
    · have hj : ns.length ≤ j.toNat := by omega
      have e : cellI ns j = 0 := by unfold cellI; simp [hj]
      rw [e] at k
      exact k
/-- truth(b, b) -/
def sp_truth : Sp := fun vs H Q _ => ∃ b : Bool, vs = [.bl b, .bl b] ∧ Q (.bl true) H
theorem ok_l_truth (T : Tx K mg) : FnOk P w K mg base CX0 1 T.f_l_truth T.fd_l_truth ["_law_found", "_law_due"] (sp_truth) := by
  refine T.F_l_truth.ok sc_l_truth (fun vs H Q E h => ?_) (fun cdv A outer s H vs Q E hr h => ?_)
  · first | (obtain ⟨rfl, _⟩ := h; rfl) | (obtain ⟨_, rfl, _⟩ := h; rfl) | (obtain ⟨_, _, rfl, _⟩ := h; rfl) | (obtain ⟨_, _, _, rfl, _⟩ := h; rfl) | (obtain ⟨_, _, _, _, rfl, _⟩ := h; rfl) | (obtain ⟨_, _, _, _, _, rfl, _⟩ := h; rfl) | (obtain ⟨_, _, _, _, _, _, rfl, _⟩ := h; rfl) | (obtain ⟨_, _, _, _, _, _, _, rfl, _⟩ := h; rfl) | (obtain ⟨_, _, _, _, _, _, _, _, rfl, _⟩ := h; rfl)
  · obtain ⟨b, rfl, k⟩ := h
    refine ⟨_, (pss_one (ps_ret (pe_and (pe_callB call_isi (by rfl) T.n_isinstance PyProof.Rows.boot_isinstance (pa_cons (pv 0) (pa_cons (pe_bltn (v := .ty "bool") (by rfl) T.n_bool PyProof.Rows.boot_bool rfl) pa_nil))) (pe_one (pe_cmpR op_eq (pv 0) (pv 1) (nomark _)))))), ?_⟩
    walk_at "gc"
    exact Gc.bl_eq (decide_eq_true rfl) k
/-- is_name(x) -/
def sp_is_name (K : PySem.W.Frag) : Sp := fun vs H Q _ => ∃ x : V, vs = [x] ∧ ((∃ z : Str, x = .str z ∧ z.length ≤ 100000 ∧ ∀ H', Ex H H' → Q (.bl (nameB z)) H') ∨ (NoStr K H x ∧ Q (.bl false) H))
theorem ok_is_name (T : Tx K mg) : FnOk P w K mg base CX0 1 T.f_is_name T.fd_is_name ["thing"] (sp_is_name K) := by
  refine T.F_is_name.ok sc_is_name (fun vs H Q E h => ?_) (fun cdv A outer s H vs Q E hr h => ?_)
  · first | (obtain ⟨rfl, _⟩ := h; rfl) | (obtain ⟨_, rfl, _⟩ := h; rfl) | (obtain ⟨_, _, rfl, _⟩ := h; rfl) | (obtain ⟨_, _, _, rfl, _⟩ := h; rfl) | (obtain ⟨_, _, _, _, rfl, _⟩ := h; rfl) | (obtain ⟨_, _, _, _, _, rfl, _⟩ := h; rfl) | (obtain ⟨_, _, _, _, _, _, rfl, _⟩ := h; rfl) | (obtain ⟨_, _, _, _, _, _, _, rfl, _⟩ := h; rfl) | (obtain ⟨_, _, _, _, _, _, _, _, rfl, _⟩ := h; rfl)
  · obtain ⟨x, rfl, k⟩ := h
    rcases k with ⟨z, rfl, hz, k⟩ | ⟨⟨t, h1, h2⟩, k⟩
    · refine ⟨_, (pss_cons (ps_if (PW.pt (pw_or (pt_not (pt_val (pe_callB call_isi (by rfl) T.n_isinstance PyProof.Rows.boot_isinstance (pa_cons (pv 0) (pa_cons (pe_bltn (v := .ty "str") (by rfl) T.n_str PyProof.Rows.boot_str rfl) pa_nil))))) (pw_or1 (pt_not (pt_chain op_le op_le pe_int (pe_callB call_len_str (by rfl) T.n_len PySem.boot_len (pa_cons (pv 0) pa_nil)) (pe_glob (v := .int 8) rfl T.c_LONGEST ⟨_, rfl⟩)))))) (pss_one (ps_ret pe_bl)) pss_nil) (pss_one (ps_ret (pe_callB (cr_all rfl) (by rfl) T.n_all PyProof.Rows.boot_all (pa_cons (pe_lc (own := [("sign", 1)]) (g := gName 1) (tt := tYes) rfl sc_is_name.nd (pi_str (pv 0)) (blkOk_by (own := [("sign", 1)]) (N := ["thing", "sign"]) (sc := defScope s_is_name) (by decide +kernel)) (fun _ _ _ _ _ => pg_name (i := 1) sc_is_name.nd rfl (Or.inl rfl)) (fun _ _ _ _ _ => pts_nil) (fun _ _ _ _ _ => (pe_cmpR op_in_sign (pv 1) (pe_glob (v := .str "abcdefghijklmnopqrstuvwxyz") rfl T.c_LETTERS ⟨_, rfl⟩) (by with_unfolding_all rfl)))) pa_nil))))), ?_⟩
      walk_at "gc"
      refine Gc.le_2 (fun c1 => ?_) (fun c1 => ?_)
      · walk_at "gc"
        refine Gc.leN_2 (fun c2 => ?_) (fun c2 => ?_)
        · walk_at "gc"
          exact Gc.bl_eq (nameB_long z c2).symm (k H (Ex.refl _))
        · walk_at "gc"
          rename_i D hD
          have hsz : z.cps.size ≤ 8 := by have : ((z.cps.size : Nat) : Int) ≤ 8 := c2; omega
          refine Gc.lc_go (walk_str (z := z)) (fun i acc _ => acc = ((z.cps.toList.take i).map fun c => V.bl (decide (c ∈ LET.cps.toList)))) (by omega) hD (fun _ _ => trivial) (fun _ _ _ _ h => h) (fun _ _ => rfl) (fun i x acc H2 Kk Nn hi hy e hD2 p hK hN => ?_) (fun acc H2 e hD2 p => ?_)
          · obtain ⟨c, hc, rfl⟩ := hy
            walk_at "gc"
            refine hK _ _ (Ex.refl _) ?_
            rw [p]
            exact (take_map_succ (f := fun c => V.bl (decide (c ∈ LET.cps.toList))) (by rw [← hc]; simp)).symm
          · have e1 : acc = ((z.cps.toList.map fun c => decide (c ∈ LET.cps.toList)).map V.bl) := by
              rw [p, List.take_of_length_le (by simp), List.map_map]; rfl
            subst e1
            refine ⟨D, _, rfl, Evl.sq_of hD2, ?_⟩
            refine Gc.bl_eq ?_ (k H2 e)
            exact nameB_yes z c1 c2
      · walk_at "gc"
        exact Gc.bl_eq (nameB_short z c1).symm (k H (Ex.refl _))
    · refine ⟨_, (pss_cons (ps_if (PW.pt (pw_or (pt_not (pt_val (pe_callB call_isi (by rfl) T.n_isinstance PyProof.Rows.boot_isinstance (pa_cons (pv 0) (pa_cons (pe_bltn (v := .ty "str") (by rfl) T.n_str PyProof.Rows.boot_str rfl) pa_nil))))) (pw_or1 (pt_not (pt_chain op_le op_le pe_int (pe_callB call_len_str (by rfl) T.n_len PySem.boot_len (pa_cons (pv 0) pa_nil)) (pe_glob (v := .int 8) rfl T.c_LONGEST ⟨_, rfl⟩)))))) (pss_one (ps_ret pe_bl)) pss_nil) (pss_one (ps_ret (pe_callB (cr_all rfl) (by rfl) T.n_all PyProof.Rows.boot_all (pa_cons (pe_lc (own := [("sign", 1)]) (g := gName 1) (tt := tYes) rfl sc_is_name.nd (pi_str (pv 0)) (blkOk_by (own := [("sign", 1)]) (N := ["thing", "sign"]) (sc := defScope s_is_name) (by decide +kernel)) (fun _ _ _ _ _ => pg_name (i := 1) sc_is_name.nd rfl (Or.inl rfl)) (fun _ _ _ _ _ => pts_nil) (fun _ _ _ _ _ => (pe_cmpR op_in_sign (pv 1) (pe_glob (v := .str "abcdefghijklmnopqrstuvwxyz") rfl T.c_LETTERS ⟨_, rfl⟩) (by with_unfolding_all rfl)))) pa_nil))))), ?_⟩
      walk_at "gc"
      exact k
/-- is_whole(x) -/
def sp_is_whole (K : PySem.W.Frag) : Sp := fun vs H Q _ => ∃ (x : V) (b : Bool), vs = [x] ∧ WholeJ K H x b ∧ Q (.bl b) H
theorem ok_is_whole (T : Tx K mg) : FnOk P w K mg base CX0 1 T.f_is_whole T.fd_is_whole ["thing"] (sp_is_whole K) := by
  refine T.F_is_whole.ok sc_is_whole (fun vs H Q E h => ?_) (fun cdv A outer s H vs Q E hr h => ?_)
  · first | (obtain ⟨rfl, _⟩ := h; rfl) | (obtain ⟨_, rfl, _⟩ := h; rfl) | (obtain ⟨_, _, rfl, _⟩ := h; rfl) | (obtain ⟨_, _, _, rfl, _⟩ := h; rfl) | (obtain ⟨_, _, _, _, rfl, _⟩ := h; rfl) | (obtain ⟨_, _, _, _, _, rfl, _⟩ := h; rfl) | (obtain ⟨_, _, _, _, _, _, rfl, _⟩ := h; rfl) | (obtain ⟨_, _, _, _, _, _, _, rfl, _⟩ := h; rfl) | (obtain ⟨_, _, _, _, _, _, _, _, rfl, _⟩ := h; rfl)
  · obtain ⟨x, b, rfl, ⟨t, b1, b2, h1, h2, h3, rfl⟩, k⟩ := h
    refine ⟨_, (pss_one (ps_ret (pe_and (pe_callB call_isi (by rfl) T.n_isinstance PyProof.Rows.boot_isinstance (pa_cons (pv 0) (pa_cons (pe_bltn (v := .ty "int") (by rfl) T.n_int PyProof.Rows.boot_int rfl) pa_nil))) (pe_one (pe_not (pe_callB call_isi (by rfl) T.n_isinstance PyProof.Rows.boot_isinstance (pa_cons (pv 0) (pa_cons (pe_bltn (v := .ty "bool") (by rfl) T.n_bool PyProof.Rows.boot_bool rfl) pa_nil)))))))), ?_⟩
    walk_at "gc"
    cases b1 with
    | false => exact iteF k
    | true =>
      walk_at "gc"
      exact k
/-- is_amount(x) -/
def sp_is_amount (K : PySem.W.Frag) : Sp := fun vs H Q _ => ∃ x : V, vs = [x] ∧ ((∃ i : Int, x = .int i ∧ Q (.bl (amountB i)) H) ∨ (WholeJ K H x false ∧ Q (.bl false) H))
theorem ok_is_amount (T : Tx K mg) : FnOk P w K mg base CX0 2 T.f_is_amount T.fd_is_amount ["thing"] (sp_is_amount K) := by
  refine T.F_is_amount.ok sc_is_amount (fun vs H Q E h => ?_) (fun cdv A outer s H vs Q E hr h => ?_)
  · first | (obtain ⟨rfl, _⟩ := h; rfl) | (obtain ⟨_, rfl, _⟩ := h; rfl) | (obtain ⟨_, _, rfl, _⟩ := h; rfl) | (obtain ⟨_, _, _, rfl, _⟩ := h; rfl) | (obtain ⟨_, _, _, _, rfl, _⟩ := h; rfl) | (obtain ⟨_, _, _, _, _, rfl, _⟩ := h; rfl) | (obtain ⟨_, _, _, _, _, _, rfl, _⟩ := h; rfl) | (obtain ⟨_, _, _, _, _, _, _, rfl, _⟩ := h; rfl) | (obtain ⟨_, _, _, _, _, _, _, _, rfl, _⟩ := h; rfl)
  · obtain ⟨x, rfl, k⟩ := h
    rcases k with ⟨i, rfl, k⟩ | ⟨hw, k⟩
    · refine ⟨_, (pss_one (ps_ret (pe_and (pe_call (ok_is_whole T) (hr.mono (by decide)) rfl T.m_is_whole T.F_is_whole.kp T.b_is_whole .nil pass0 (pa_cons (pv 0) pa_nil)) (pe_one (pe_chain op_le op_le pe_int (pv 0) (pe_glob (v := .int 1000000000) rfl T.c_MOST ⟨_, rfl⟩)))))), ?_⟩
      walk_at "gc"
      refine ⟨WholeJ.int i, ?_⟩
      walk_at "gc"
      refine Gc.le_2 (fun c1 => ?_) (fun c1 => ?_)
      · walk_at "gc"
        exact Gc.bl_eq (by rw [amountB, decide_eq_true c1]; rfl) k
      · exact Gc.bl_eq (by rw [amountB, decide_eq_false c1]; rfl) k
    · refine ⟨_, (pss_one (ps_ret (pe_and (pe_call (ok_is_whole T) (hr.mono (by decide)) rfl T.m_is_whole T.F_is_whole.kp T.b_is_whole .nil pass0 (pa_cons (pv 0) pa_nil)) (pe_one (pe_chain op_le op_le pe_int (pv 0) (pe_glob (v := .int 1000000000) rfl T.c_MOST ⟨_, rfl⟩)))))), ?_⟩
      walk_at "gc"
      exact k
theorem ok_law_k03 (T : Tx K mg) : FnOk P w K mg base CX0 3 T.f_law_k03 T.fd_law_k03 ["_law_script"] (sp_law K) := by
  refine T.F_law_k03.ok sc_law_k03 (fun vs H Q E h => ?_) (fun cdv A outer s H vs Q E hr h => ?_)
  · first | (obtain ⟨rfl, _⟩ := h; rfl) | (obtain ⟨_, rfl, _⟩ := h; rfl) | (obtain ⟨_, _, rfl, _⟩ := h; rfl) | (obtain ⟨_, _, _, rfl, _⟩ := h; rfl) | (obtain ⟨_, _, _, _, rfl, _⟩ := h; rfl) | (obtain ⟨_, _, _, _, _, rfl, _⟩ := h; rfl) | (obtain ⟨_, _, _, _, _, _, rfl, _⟩ := h; rfl) | (obtain ⟨_, _, _, _, _, _, _, rfl, _⟩ := h; rfl) | (obtain ⟨_, _, _, _, _, _, _, _, rfl, _⟩ := h; rfl)
  · obtain ⟨a, ns, rfl, hs, hl, k⟩ := h
    refine ⟨_, (pss_cons (ps_set (i := 1) sc_law_k03.nd rfl (Or.inl rfl) (pe_call (ok_l_text_by T) (hr.mono (by decide)) rfl T.m_l_text_by T.F_l_text_by.kp T.b_l_text_by .nil pass0 (pa_cons (pe_op op_mod (pe_call (ok_l_cell_at T) (hr.mono (by decide)) rfl T.m_l_cell_at T.F_l_cell_at.kp T.b_l_cell_at .nil pass0 (pa_cons (pv 0) (pa_cons pe_int pa_nil))) pe_int) (pa_cons (pe_op op_mod (pe_call (ok_l_cell_at T) (hr.mono (by decide)) rfl T.m_l_cell_at T.F_l_cell_at.kp T.b_l_cell_at .nil pass0 (pa_cons (pv 0) (pa_cons pe_int pa_nil))) pe_int) (pa_cons (pe_call (ok_l_cell_at T) (hr.mono (by decide)) rfl T.m_l_cell_at T.F_l_cell_at.kp T.b_l_cell_at .nil pass0 (pa_cons (pv 0) (pa_cons pe_int pa_nil))) pa_nil))))) (pss_cut (ps_set (i := 2) sc_law_k03.nd rfl (Or.inl rfl) (pe_chain op_le op_le pe_int (pe_callB call_len_str (by rfl) T.n_len PySem.boot_len (pa_cons (pv 1) pa_nil)) pe_int)) (pss_cons (ps_for PassesOwn.never rfl (pi_str (pv 1)) (pg_name (i := 3) sc_law_k03.nd rfl (Or.inl rfl)) (pss_one (ps_if (pt_cmpR op_notIn_sign (pv 3) pe_str (by with_unfolding_all rfl)) (pss_one (ps_set (i := 2) sc_law_k03.nd rfl (Or.inl rfl) pe_bl)) pss_nil))) (pss_cons (ps_set (i := 4) sc_law_k03.nd rfl (Or.inl rfl) (pe_call (ok_l_number_by3 T) (hr.mono (by decide)) rfl T.m_l_number_by3 T.F_l_number_by3.kp T.b_l_number_by3 .nil pass0 (pa_cons (pe_call (ok_l_cell_at T) (hr.mono (by decide)) rfl T.m_l_cell_at T.F_l_cell_at.kp T.b_l_cell_at .nil pass0 (pa_cons (pv 0) (pa_cons pe_int pa_nil))) pa_nil))) (pss_cut (ps_set (i := 5) sc_law_k03.nd rfl (Or.inl rfl) (pe_lst (pa_cons pe_non (pa_cons pe_bl (pa_cons pe_bl (pa_cons (pe_lst (pa_cons (pv 1) pa_nil)) (pa_cons (pe_tup (pa_cons (pv 1) pa_nil)) (pa_cons (pe_disp (pps_cons (pv 1) pe_int pps_nil) (by rfl) (by rfl) (fun z => by cases z) (by decide)) (pa_cons (pe_tup pa_nil) (pa_cons (pe_lst pa_nil) pa_nil)))))))))) (pss_cons (ps_set (i := 6) sc_law_k03.nd rfl (Or.inl rfl) (pe_ix ix_list (pv 5) (pe_op op_mod (pe_call (ok_l_cell_at T) (hr.mono (by decide)) rfl T.m_l_cell_at T.F_l_cell_at.kp T.b_l_cell_at .nil pass0 (pa_cons (pv 0) (pa_cons pe_int pa_nil))) pe_int) (fun _ _ => rfl))) (pss_cons (ps_if (PW.pt (pw_or (pt_not (pt_val (pe_call (ok_l_truth T) (hr.mono (by decide)) rfl T.m_l_truth T.F_l_truth.kp T.b_l_truth .nil pass0 (pa_cons (pe_call (ok_is_name T) (hr.mono (by decide)) rfl T.m_is_name T.F_is_name.kp T.b_is_name .nil pass0 (pa_cons (pv 1) pa_nil)) (pa_cons (pv 2) pa_nil))))) (pw_or (pt_cmpR op_isnot_bl (pe_call (ok_is_name T) (hr.mono (by decide)) rfl T.m_is_name T.F_is_name.kp T.b_is_name .nil pass0 (pa_cons (pv 4) pa_nil)) pe_bl (nomark _)) (pw_or1 (pt_cmpR op_isnot_bl (pe_call (ok_is_name T) (hr.mono (by decide)) rfl T.m_is_name T.F_is_name.kp T.b_is_name .nil pass0 (pa_cons (pv 6) pa_nil)) pe_bl (nomark _)))))) (pss_one (ps_ret pe_bl)) pss_nil) (pss_cons (ps_if (pt_not (pt_val (pe_call (ok_l_truth T) (hr.mono (by decide)) rfl T.m_l_truth T.F_l_truth.kp T.b_l_truth .nil pass0 (pa_cons (pe_call (ok_is_amount T) (hr.mono (by decide)) rfl T.m_is_amount T.F_is_amount.kp T.b_is_amount .nil pass0 (pa_cons (pv 4) pa_nil)) (pa_cons (pe_chain op_lt op_lt pe_int (pv 4) pe_int) pa_nil))))) (pss_one (ps_ret pe_bl)) pss_nil) (pss_one (ps_ret (pe_and (pe_cmpR op_is_bl (pe_call (ok_is_amount T) (hr.mono (by decide)) rfl T.m_is_amount T.F_is_amount.kp T.b_is_amount .nil pass0 (pa_cons (pv 1) pa_nil)) pe_bl (nomark _)) (pe_one (pe_cmpR op_is_bl (pe_call (ok_is_amount T) (hr.mono (by decide)) rfl T.m_is_amount T.F_is_amount.kp T.b_is_amount .nil pass0 (pa_cons (pv 6) pa_nil)) pe_bl (nomark _)))))))))))))), ?_⟩
    walk_at "gc"
    rename_i z hz H1 e1
    have hz10 : z.length ≤ 10 := by rw [hz]; omega
    have hzs : z.length ≤ sizeLine := Evl.sz_of (by omega)
    refine ⟨fun σ' H' => Hold (σ' = [some (.ref a), some (.str z), some (.bl (decide ((1 : Int) ≤ (z.length : Nat)) && decide (((z.length : Nat) : Int) ≤ 8))), none, none, none, none] ∧ Ex H H'), ?_, fun σ' H' hm => ?_⟩
    · walk_at "gc"
      refine Gc.le_2 (fun c1 => ?_) (fun c1 => ?_)
      · walk_at "gc"
        exact ⟨⟨by rw [decide_eq_true c1]; rfl, by walk_at "gc_ex"⟩⟩
      · exact ⟨⟨by rw [decide_eq_false c1]; rfl, by walk_at "gc_ex"⟩⟩
    obtain ⟨⟨rfl, he⟩⟩ := hm
    walk_at "gc"
    refine for_it (walk_str (z := z)) (fun i σ' H' => Hold (∃ v, σ' = [some (.ref a), some (.str z), some (.bl ((decide ((1 : Int) ≤ (z.length : Nat)) && decide (((z.length : Nat) : Int) ≤ 8)) && (z.cps.toList.take i).all fun c => decide (c ∈ LET.cps.toList))), v, none, none, none] ∧ Ex H H')) ⟨⟨_, by simp; rfl, he⟩⟩ (fun _ _ _ _ _ => trivial) (fun i x σ' H1 H2 hi hp hy => ?_) (fun σ' H1 hp => ?_)
    · obtain ⟨⟨v, rfl, he1⟩⟩ := hp
      obtain ⟨rfl, c, hc, rfl⟩ := hy
      have hc2 : z.cps.toList[i]? = some c := by rw [← hc]; simp
      walk_at "gc"
      by_cases hm : c ∈ LET.cps.toList
      · refine Gc.iteN_f (decide_eq_true hm) ?_
        refine ⟨⟨some (.str ⟨#[c]⟩), ?_, he1⟩⟩
        rw [all_take_succ hc2, decide_eq_true hm, Bool.and_true]
        rfl
      · refine Gc.iteN_t (decide_eq_false hm) ?_
        walk_at "gc"
        refine ⟨⟨some (.str ⟨#[c]⟩), ?_, he1⟩⟩
        rw [all_take_succ hc2, decide_eq_false hm, Bool.and_false, Bool.and_false]
        rfl
    obtain ⟨⟨v, rfl, he1⟩⟩ := hp
    have hfull : ((decide ((1 : Int) ≤ (z.length : Nat)) && decide (((z.length : Nat) : Int) ≤ 8)) && (z.cps.toList.take z.cps.size).all fun c => decide (c ∈ LET.cps.toList)) = nameB z := by
      rw [List.take_of_length_le (by simp), Bool.and_assoc]
      rfl
    rw [hfull]
    clear hfull
    walk_at "gc"
    generalize numberBy3 (cellI ns 3) = N
    refine ⟨fun σ' H' => Hold (∃ tl xs, σ' = [some (.ref a), some (.str z), some (.bl (nameB z)), v, some (.int N), some (.ref tl), none] ∧ H' tl = some (.lst xs) ∧ xs.length = 8 ∧ (∀ x ∈ xs, NoStr K H' x ∧ WholeJ K H' x false) ∧ Ex H H'), ?_, fun σ' H' hm => ?_⟩
    · walk_at "gc"
      rename_i p1 q1 H2 e2 f2 p2 q2 H3 e3 f3 p3 q3 H4 e4 f4
      refine ⟨[(.inr z, .int 1)], rfl, by show 1 ≤ 15; decide, ?_⟩
      generalize hX : upd H4 p3 _ = H5
      have e5 : Ex H3 H5 := Gc.ab_mut q3 e4 hX
      have f5 := Gc.ab_at hX
      clear e4 f4 hX
      walk_at "gc"
      rename_i p4 q4 H6 e6 f6 p5 q5 H7 e7 f7 p6 q6 H8 e8 f8
      have g1 : SqL K H8 p1 [.str z] := by walk_at "gc_at"
      have g2 : SqT K H8 p2 [.str z] := by walk_at "gc_at"
      have g3 : Rd H8 p3 (.dK (mergeK [] [(.inr z, .int 1)])) := by walk_at "gc_at"
      have g4 : SqT K H8 p4 [] := by walk_at "gc_at"
      have g5 : SqL K H8 p5 [] := by walk_at "gc_at"
      refine ⟨⟨_, _, rfl, f8, rfl, fun x hx => ?_, by walk_at "gc_ex"⟩⟩
      simp only [List.mem_cons, List.not_mem_nil, or_false] at hx
      rcases hx with rfl | rfl | rfl | rfl | rfl | rfl | rfl | rfl
      · exact ⟨.non, .non⟩
      · exact ⟨.bl _, .bl _⟩
      · exact ⟨.bl _, .bl _⟩
      · exact ⟨.lst g1, .lst g1⟩
      · exact ⟨.tup g2, .tup g2⟩
      · exact ⟨.dct g3, .dct g3⟩
      · exact ⟨.tup g4, .tup g4⟩
      · exact ⟨.lst g5, .lst g5⟩
    obtain ⟨⟨tl, xs, rfl, hx, hx8, hall, he2⟩⟩ := hm
    have m8 := mod_in (a := cellI ns 4) (b := 8) (by decide)
    obtain ⟨x, hix, hmem⟩ := atI_in (xs := xs) m8.1 (by omega)
    obtain ⟨gs, gw⟩ := hall x hmem
    walk_at "gc"
    refine Or.inl ⟨z, rfl, by omega, fun H9 e9 => ?_⟩
    walk_at "gc"
    refine Or.inr ⟨.int _, ?_⟩
    walk_at "gc"
    refine Or.inr ⟨gs.mono (by walk_at "gc_ex"), ?_⟩
    walk_at "gc"
    refine Or.inl ⟨N, rfl, ?_⟩
    walk_at "gc"
    refine Gc.chain_ev (decide (N < 1000000001)) (fun _ Q' q => by walk_at "gc"; exact q) ?_
    walk_at "gc"
    refine ⟨amountB N, by rw [amountB_alt]; rfl, ?_⟩
    walk_at "gc"
    refine Or.inr ⟨.str _, ?_⟩
    walk_at "gc"
    refine Or.inr ⟨gw.mono (by walk_at "gc_ex"), ?_⟩
    walk_at "gc"
    exact k _
end
section
theorem all_mk {l : PySem.W.OpenLaw} {w : World} {K : PySem.W.Frag} {h : Heap} {mg : Str → Option Value} {fa : Addr} (X : K.In h) (G : h.Ns mainGlobals mg) (hfa : mg "law" = some (.ref fa))
    {f_l_signs f_l_text_by f_l_number_by3 f_l_cell_at f_l_truth f_is_name f_is_whole f_is_amount f_law_k03 : Addr}
    {t_LETTERS t_LONGEST t_MOST : Tok}
    {od_l_signs an_l_signs od_l_text_by an_l_text_by od_l_number_by3 an_l_number_by3 od_l_cell_at an_l_cell_at od_l_truth an_l_truth od_is_name an_is_name od_is_whole an_is_whole od_is_amount an_is_amount od_law_k03 an_law_k03 : Option Addr} {sl_l_signs sl_l_text_by sl_l_number_by3 sl_l_cell_at sl_l_truth sl_is_name sl_is_whole sl_is_amount sl_law_k03 : Array (Option Value)} {oc_l_signs kV_l_signs dc_l_signs pm_l_signs cd_l_signs ct_l_signs oc_l_text_by kV_l_text_by dc_l_text_by pm_l_text_by cd_l_text_by ct_l_text_by oc_l_number_by3 kV_l_number_by3 dc_l_number_by3 pm_l_number_by3 cd_l_number_by3 ct_l_number_by3 oc_l_cell_at kV_l_cell_at dc_l_cell_at pm_l_cell_at cd_l_cell_at ct_l_cell_at oc_l_truth kV_l_truth dc_l_truth pm_l_truth cd_l_truth ct_l_truth oc_is_name kV_is_name dc_is_name pm_is_name cd_is_name ct_is_name oc_is_whole kV_is_whole dc_is_whole pm_is_whole cd_is_whole ct_is_whole oc_is_amount kV_is_amount dc_is_amount pm_is_amount cd_is_amount ct_is_amount oc_law_k03 kV_law_k03 dc_law_k03 pm_law_k03 cd_law_k03 ct_law_k03 : Value}
    (a_l_signs : PySem.W.nsIn K mainGlobals "_law_signs" = some (some (.ref f_l_signs)))
    (l_l_signs : K.lookup f_l_signs = some ⟨oc_l_signs, od_l_signs, .func (PySem.W.fnOf "_law_signs" "_law_signs" (defArgs s_l_signs) (defBody s_l_signs) (defScope s_l_signs) .none kV_l_signs dc_l_signs pm_l_signs an_l_signs cd_l_signs ct_l_signs), sl_l_signs⟩)
    (cI_l_signs : PySem.W.codeIn K cd_l_signs "_law_signs" = true)
    (kk_l_signs : PySem.W.keepIn K (.ref f_l_signs) = true)
    (a_l_text_by : PySem.W.nsIn K mainGlobals "_law_text_by" = some (some (.ref f_l_text_by)))
    (l_l_text_by : K.lookup f_l_text_by = some ⟨oc_l_text_by, od_l_text_by, .func (PySem.W.fnOf "_law_text_by" "_law_text_by" (defArgs s_l_text_by) (defBody s_l_text_by) (defScope s_l_text_by) .none kV_l_text_by dc_l_text_by pm_l_text_by an_l_text_by cd_l_text_by ct_l_text_by), sl_l_text_by⟩)
    (cI_l_text_by : PySem.W.codeIn K cd_l_text_by "_law_text_by" = true)
    (kk_l_text_by : PySem.W.keepIn K (.ref f_l_text_by) = true)
    (a_l_number_by3 : PySem.W.nsIn K mainGlobals "_law_number_by" = some (some (.ref f_l_number_by3)))
    (l_l_number_by3 : K.lookup f_l_number_by3 = some ⟨oc_l_number_by3, od_l_number_by3, .func (PySem.W.fnOf "_law_number_by" "_law_number_by" (defArgs s_l_number_by3) (defBody s_l_number_by3) (defScope s_l_number_by3) .none kV_l_number_by3 dc_l_number_by3 pm_l_number_by3 an_l_number_by3 cd_l_number_by3 ct_l_number_by3), sl_l_number_by3⟩)
    (cI_l_number_by3 : PySem.W.codeIn K cd_l_number_by3 "_law_number_by" = true)
    (kk_l_number_by3 : PySem.W.keepIn K (.ref f_l_number_by3) = true)
    (a_l_cell_at : PySem.W.nsIn K mainGlobals "_law_cell_at" = some (some (.ref f_l_cell_at)))
    (l_l_cell_at : K.lookup f_l_cell_at = some ⟨oc_l_cell_at, od_l_cell_at, .func (PySem.W.fnOf "_law_cell_at" "_law_cell_at" (defArgs s_l_cell_at) (defBody s_l_cell_at) (defScope s_l_cell_at) .none kV_l_cell_at dc_l_cell_at pm_l_cell_at an_l_cell_at cd_l_cell_at ct_l_cell_at), sl_l_cell_at⟩)
    (cI_l_cell_at : PySem.W.codeIn K cd_l_cell_at "_law_cell_at" = true)
    (kk_l_cell_at : PySem.W.keepIn K (.ref f_l_cell_at) = true)
    (a_l_truth : PySem.W.nsIn K mainGlobals "_law_truth" = some (some (.ref f_l_truth)))
    (l_l_truth : K.lookup f_l_truth = some ⟨oc_l_truth, od_l_truth, .func (PySem.W.fnOf "_law_truth" "_law_truth" (defArgs s_l_truth) (defBody s_l_truth) (defScope s_l_truth) .none kV_l_truth dc_l_truth pm_l_truth an_l_truth cd_l_truth ct_l_truth), sl_l_truth⟩)
    (cI_l_truth : PySem.W.codeIn K cd_l_truth "_law_truth" = true)
    (kk_l_truth : PySem.W.keepIn K (.ref f_l_truth) = true)
    (a_is_name : PySem.W.nsIn K mainGlobals "is_name" = some (some (.ref f_is_name)))
    (l_is_name : K.lookup f_is_name = some ⟨oc_is_name, od_is_name, .func (PySem.W.fnOf "is_name" "is_name" (defArgs s_is_name) (defBody s_is_name) (defScope s_is_name) .none kV_is_name dc_is_name pm_is_name an_is_name cd_is_name ct_is_name), sl_is_name⟩)
    (cI_is_name : PySem.W.codeIn K cd_is_name "is_name" = true)
    (kk_is_name : PySem.W.keepIn K (.ref f_is_name) = true)
    (a_is_whole : PySem.W.nsIn K mainGlobals "is_whole" = some (some (.ref f_is_whole)))
    (l_is_whole : K.lookup f_is_whole = some ⟨oc_is_whole, od_is_whole, .func (PySem.W.fnOf "is_whole" "is_whole" (defArgs s_is_whole) (defBody s_is_whole) (defScope s_is_whole) .none kV_is_whole dc_is_whole pm_is_whole an_is_whole cd_is_whole ct_is_whole), sl_is_whole⟩)
    (cI_is_whole : PySem.W.codeIn K cd_is_whole "is_whole" = true)
    (kk_is_whole : PySem.W.keepIn K (.ref f_is_whole) = true)
    (a_is_amount : PySem.W.nsIn K mainGlobals "is_amount" = some (some (.ref f_is_amount)))
    (l_is_amount : K.lookup f_is_amount = some ⟨oc_is_amount, od_is_amount, .func (PySem.W.fnOf "is_amount" "is_amount" (defArgs s_is_amount) (defBody s_is_amount) (defScope s_is_amount) .none kV_is_amount dc_is_amount pm_is_amount an_is_amount cd_is_amount ct_is_amount), sl_is_amount⟩)
    (cI_is_amount : PySem.W.codeIn K cd_is_amount "is_amount" = true)
    (kk_is_amount : PySem.W.keepIn K (.ref f_is_amount) = true)
    (a_law_k03 : PySem.W.nsIn K mainGlobals "law" = some (some (.ref f_law_k03)))
    (l_law_k03 : K.lookup f_law_k03 = some ⟨oc_law_k03, od_law_k03, .func (PySem.W.fnOf "law" "law" (defArgs s_law_k03) (defBody s_law_k03) (defScope s_law_k03) .none kV_law_k03 dc_law_k03 pm_law_k03 an_law_k03 cd_law_k03 ct_law_k03), sl_law_k03⟩)
    (cI_law_k03 : PySem.W.codeIn K cd_law_k03 "law" = true)
    (kk_law_k03 : PySem.W.keepIn K (.ref f_law_k03) = true)
    (ac_LETTERS : PySem.W.nsIn K mainGlobals "LETTERS" = some (some (.str "abcdefghijklmnopqrstuvwxyz" t_LETTERS)))
    (ac_LONGEST : PySem.W.nsIn K mainGlobals "LONGEST" = some (some (.int 8 t_LONGEST)))
    (ac_MOST : PySem.W.nsIn K mainGlobals "MOST" = some (some (.int 1000000000 t_MOST)))
    (z_all : PySem.W.nsIn K mainGlobals "all" = some none)
    (z_bool : PySem.W.nsIn K mainGlobals "bool" = some none)
    (z_int : PySem.W.nsIn K mainGlobals "int" = some none)
    (z_isinstance : PySem.W.nsIn K mainGlobals "isinstance" = some none)
    (z_len : PySem.W.nsIn K mainGlobals "len" = some none)
    (z_range : PySem.W.nsIn K mainGlobals "range" = some none)
    (z_str : PySem.W.nsIn K mainGlobals "str" = some none)
    : ∃ fd : FuncData, (∀ (s : Shared) (v : Value), BindsTo s fd ⟨[v], []⟩ [("_law_script", v)]) ∧ ∀ base : Heap, K.In base → base.Ns mainGlobals mg → FnOk l.prog w K mg base CX0 3 fa fd ["_law_script"] (sp_law K) := by
  have e := hfa.symm.trans (PySem.W.mg_of X G a_law_k03)
  cases e
  have F_l_signs := fun_mk (st := s_l_signs) l_l_signs cI_l_signs kk_l_signs
  have b_l_signs := F_l_signs.binds (ps := []) fun _ _ _ _ _ _ us hl => match us, hl with | [], _ => rfl
  have F_l_text_by := fun_mk (st := s_l_text_by) l_l_text_by cI_l_text_by kk_l_text_by
  have b_l_text_by := F_l_text_by.binds (ps := ["_law_size", "_law_cell", "_law_odd"]) fun _ _ _ _ _ _ us hl => match us, hl with | [_, _, _], _ => rfl
  have F_l_number_by3 := fun_mk (st := s_l_number_by3) l_l_number_by3 cI_l_number_by3 kk_l_number_by3
  have b_l_number_by3 := F_l_number_by3.binds (ps := ["_law_cell"]) fun _ _ _ _ _ _ us hl => match us, hl with | [_], _ => rfl
  have F_l_cell_at := fun_mk (st := s_l_cell_at) l_l_cell_at cI_l_cell_at kk_l_cell_at
  have b_l_cell_at := F_l_cell_at.binds (ps := ["_law_script", "_law_k"]) fun _ _ _ _ _ _ us hl => match us, hl with | [_, _], _ => rfl
  have F_l_truth := fun_mk (st := s_l_truth) l_l_truth cI_l_truth kk_l_truth
  have b_l_truth := F_l_truth.binds (ps := ["_law_found", "_law_due"]) fun _ _ _ _ _ _ us hl => match us, hl with | [_, _], _ => rfl
  have F_is_name := fun_mk (st := s_is_name) l_is_name cI_is_name kk_is_name
  have b_is_name := F_is_name.binds (ps := ["thing"]) fun _ _ _ _ _ _ us hl => match us, hl with | [_], _ => rfl
  have F_is_whole := fun_mk (st := s_is_whole) l_is_whole cI_is_whole kk_is_whole
  have b_is_whole := F_is_whole.binds (ps := ["thing"]) fun _ _ _ _ _ _ us hl => match us, hl with | [_], _ => rfl
  have F_is_amount := fun_mk (st := s_is_amount) l_is_amount cI_is_amount kk_is_amount
  have b_is_amount := F_is_amount.binds (ps := ["thing"]) fun _ _ _ _ _ _ us hl => match us, hl with | [_], _ => rfl
  have F_law_k03 := fun_mk (st := s_law_k03) l_law_k03 cI_law_k03 kk_law_k03
  have b_law_k03 := F_law_k03.binds (ps := ["_law_script"]) fun _ _ _ _ _ _ us hl => match us, hl with | [_], _ => rfl
  let T : Tx K mg := { f_l_signs := f_l_signs, fd_l_signs := _, F_l_signs := F_l_signs, b_l_signs := b_l_signs, m_l_signs := PySem.W.mg_of X G a_l_signs, f_l_text_by := f_l_text_by, fd_l_text_by := _, F_l_text_by := F_l_text_by, b_l_text_by := b_l_text_by, m_l_text_by := PySem.W.mg_of X G a_l_text_by, f_l_number_by3 := f_l_number_by3, fd_l_number_by3 := _, F_l_number_by3 := F_l_number_by3, b_l_number_by3 := b_l_number_by3, m_l_number_by3 := PySem.W.mg_of X G a_l_number_by3, f_l_cell_at := f_l_cell_at, fd_l_cell_at := _, F_l_cell_at := F_l_cell_at, b_l_cell_at := b_l_cell_at, m_l_cell_at := PySem.W.mg_of X G a_l_cell_at, f_l_truth := f_l_truth, fd_l_truth := _, F_l_truth := F_l_truth, b_l_truth := b_l_truth, m_l_truth := PySem.W.mg_of X G a_l_truth, f_is_name := f_is_name, fd_is_name := _, F_is_name := F_is_name, b_is_name := b_is_name, m_is_name := PySem.W.mg_of X G a_is_name, f_is_whole := f_is_whole, fd_is_whole := _, F_is_whole := F_is_whole, b_is_whole := b_is_whole, m_is_whole := PySem.W.mg_of X G a_is_whole, f_is_amount := f_is_amount, fd_is_amount := _, F_is_amount := F_is_amount, b_is_amount := b_is_amount, m_is_amount := PySem.W.mg_of X G a_is_amount, f_law_k03 := fa, fd_law_k03 := _, F_law_k03 := F_law_k03, b_law_k03 := b_law_k03, m_law_k03 := PySem.W.mg_of X G a_law_k03, t_LETTERS := t_LETTERS, c_LETTERS := PySem.W.mg_of X G ac_LETTERS, t_LONGEST := t_LONGEST, c_LONGEST := PySem.W.mg_of X G ac_LONGEST, t_MOST := t_MOST, c_MOST := PySem.W.mg_of X G ac_MOST, n_all := PySem.W.mg_none_of X G z_all, n_bool := PySem.W.mg_none_of X G z_bool, n_int := PySem.W.mg_none_of X G z_int, n_isinstance := PySem.W.mg_none_of X G z_isinstance, n_len := PySem.W.mg_none_of X G z_len, n_range := PySem.W.mg_none_of X G z_range, n_str := PySem.W.mg_none_of X G z_str }
  exact ⟨T.fd_law_k03, fun s v => .of_eq rfl, fun base _ _ => ok_law_k03 T⟩
end
theorem walk {l : PySem.W.OpenLaw} {q : Program} {loose : List Str} {XP : (Str → Option Value) → Heap → Prop} {YP : World → Heap → Prop} {d : DefRec} {K : Params → PySem.W.Frag} (hn : l.most = some 63) (hdf : d.params.defaults = [])
    (hY : ∀ (w : World) (h : Heap), YP w h → (K w.params).In h)
    (F : ∀ (w : World) (mg : Str → Option Value) (fa : Addr) (h : Heap), (K w.params).In h → h.Ns mainGlobals mg → mg d.name = some (.ref fa) →
      ∃ fd : FuncData, (∀ (s : Shared) (u : Value), BindsTo s fd ⟨[u], []⟩ [("_law_script", u)]) ∧ ∀ base : Heap, (K w.params).In base → base.Ns mainGlobals mg → FnOk l.prog w (K w.params) mg base CX0 3 fa fd ["_law_script"] (sp_law (K w.params))) :
    PySem.W.WalkO q loose XP YP l.row.toRowW d [] (fun f vs => PySem.call f vs) :=
  L2.walk_of (n := 63) (k := 3) (x := "_law_script") (CX := fun _ => CX0) (sp := fun w => sp_law (K w.params)) hn (by decide) hdf ⟨rfl, by decide, by decide⟩ hY F (fun _ _ a ns hl _ hS => ⟨a, ns, rfl, hS, hl, fun _ => rfl⟩) fun _ _ _ _ _ z => z
end Gc

open PySem PySem.W PyProof.Rows in
set_option maxRecDepth 100000 in
set_option maxHeartbeats 0 in
theorem PySem.Challenge.cw_gossipcount_k03_names_and_amounts_holds : PySem.Challenge.rw_gossipcount_k03_names_and_amounts.Holds := by
  w_on; o_law; k_head; (case hw => w_witness2)
  k_fill
  refine Gc.walk (l := PySem.Challenge.rw_gossipcount_k03_names_and_amounts) rfl rfl (fun w h Y => PySem.W.kIn_of Y) ?F
  case F =>
    intro w mg fa h KX G hmg
    refine' Gc.all_mk KX G hmg ?a_l_signs ?l_l_signs ?cI_l_signs ?kk_l_signs ?a_l_text_by ?l_l_text_by ?cI_l_text_by ?kk_l_text_by ?a_l_number_by3 ?l_l_number_by3 ?cI_l_number_by3 ?kk_l_number_by3 ?a_l_cell_at ?l_l_cell_at ?cI_l_cell_at ?kk_l_cell_at ?a_l_truth ?l_l_truth ?cI_l_truth ?kk_l_truth ?a_is_name ?l_is_name ?cI_is_name ?kk_is_name ?a_is_whole ?l_is_whole ?cI_is_whole ?kk_is_whole ?a_is_amount ?l_is_amount ?cI_is_amount ?kk_is_amount ?a_law_k03 ?l_law_k03 ?cI_law_k03 ?kk_law_k03 ?ac_LETTERS ?ac_LONGEST ?ac_MOST ?z_all ?z_bool ?z_int ?z_isinstance ?z_len ?z_range ?z_str
    (case a_l_signs => k_is)
    (case l_l_signs => k_is)
    (case cI_l_signs => k_is)
    (case kk_l_signs => k_is)
    (case a_l_text_by => k_is)
    (case l_l_text_by => k_is)
    (case cI_l_text_by => k_is)
    (case kk_l_text_by => k_is)
    (case a_l_number_by3 => k_is)
    (case l_l_number_by3 => k_is)
    (case cI_l_number_by3 => k_is)
    (case kk_l_number_by3 => k_is)
    (case a_l_cell_at => k_is)
    (case l_l_cell_at => k_is)
    (case cI_l_cell_at => k_is)
    (case kk_l_cell_at => k_is)
    (case a_l_truth => k_is)
    (case l_l_truth => k_is)
    (case cI_l_truth => k_is)
    (case kk_l_truth => k_is)
    (case a_is_name => k_is)
    (case l_is_name => k_is)
    (case cI_is_name => k_is)
    (case kk_is_name => k_is)
    (case a_is_whole => k_is)
    (case l_is_whole => k_is)
    (case cI_is_whole => k_is)
    (case kk_is_whole => k_is)
    (case a_is_amount => k_is)
    (case l_is_amount => k_is)
    (case cI_is_amount => k_is)
    (case kk_is_amount => k_is)
    (case a_law_k03 => k_is)
    (case l_law_k03 => k_is)
    (case cI_law_k03 => k_is)
    (case kk_law_k03 => k_is)
    (case ac_LETTERS => k_is)
    (case ac_LONGEST => k_is)
    (case ac_MOST => k_is)
    (case z_all => k_is)
    (case z_bool => k_is)
    (case z_int => k_is)
    (case z_isinstance => k_is)
    (case z_len => k_is)
    (case z_range => k_is)
    (case z_str => k_is)
#print axioms PySem.Challenge.cw_gossipcount_k03_names_and_amounts_holds
