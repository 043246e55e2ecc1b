import PyProof.Rows.All
import Wide.All
import OpenK.AllK
import Wide.FinOn
import HandS.ForMost
import HandS.Evl
import HandS.IsInst
import HandS.Walk
import HandS.TupLe
import HandS.Codes
import HandS.More
import HandS.SetFor
import PyProof.Rows.SortShellAny
import PySem.Challenge.RW_gossipcount_k04_pages_or_not
set_option Elab.async false
set_option linter.all false
set_option maxRecDepth 100000
set_option maxHeartbeats 4000000
namespace Gc
open PySem L2 Evl
/-! ### heaps that grow; small words -/
theorem tup_new {H : Hp} {xs : List V} {Q : VK} (h : ∀ p H', H p = none → Ex H H' → H' p = some (.tup xs) → Q (.ref p) H') : ∀ p, H p = none → Q (.ref p) (upd H p (.tup xs)) := fun p hp => h p _ hp (Ex.new hp) upd_same
theorem lst_new {H : Hp} {xs : List V} {Q : VK} (h : ∀ p H', H p = none → Ex H H' → H' p = some (.lst xs) → Q (.ref p) H') : ∀ p, H p = none → Q (.ref p) (upd H p (.lst xs)) := fun p hp => h p _ hp (Ex.new hp) upd_same
theorem dct_new {H : Hp} {xs : List (Key × V)} {Q : VK} (h : ∀ p H', H p = none → Ex H H' → H' p = some (.dK xs) → Q (.ref p) H') : ∀ p, H p = none → Q (.ref p) (upd H p (.dK xs)) := fun p hp => h p _ hp (Ex.new hp) upd_same
theorem ex_at {H H' : Hp} {a : Addr} {o : HO} (e : Ex H H') (h : H a = some o) : H' a = some o := e a o h
theorem ex_same {H H' : Hp} (e : Ex H H') : Same H H' := e
theorem bne_self {b : Bool} : (!b) = (if b = true then false else true) := by cases b <;> rfl
theorem sz (n : Nat) (h : Nat.ble n 100000 = true := by rfl) : n ≤ sizeLine := sz_of (Nat.le_of_ble_eq_true h)
/-- a share at t: the pair (a, b) -/
abbrev ShAt (K : PySem.W.Frag) (H : Hp) (t : Addr) (a b : Int) : Prop := SqT K H t [.int a, .int b]
theorem tyx_t {K : PySem.W.Frag} {H : Hp} {a : Addr} {xs : List V} (h : SqT K H a xs) : TyX K H (.ref a) (.type "tuple") := by
  rcases h with (h | ⟨o, h⟩) | ⟨o, its, n, hk, hc, _⟩
  · exact .base (.tup h)
  · exact .fTuple h
  · exact .kTuple hk hc
theorem tyx_l {K : PySem.W.Frag} {H : Hp} {a : Addr} {xs : List V} (h : SqL K H a xs) : TyX K H (.ref a) (.type "list") := by
  rcases h with (h | ⟨o, h⟩) | ⟨o, its, n, hk, hc, _⟩
  · exact .base (.lst h)
  · exact .base (.frz h)
  · exact .kList hk hc
theorem tyx_d {K : PySem.W.Frag} {H : Hp} {a : Addr} {kvs : List (Key × V)} (h : Rd H a (.dK kvs)) : TyX K H (.ref a) (.type "dict") := by
  rcases h with h | ⟨o, h⟩
  · exact .base (.dK h)
  · exact .fDict h
theorem ab_ex {H H1 : Hp} {p : Addr} {o : HO} (hp : H p = none) (h : upd H p o = H1) : Ex H H1 := h ▸ Ex.new hp
theorem ab_at {H H1 : Hp} {p : Addr} {o : HO} (h : upd H p o = H1) : H1 p = some o := h ▸ upd_same
/-- what is said here is not opened by the walk -/
structure Hold (P : Prop) : Prop where
  it : P
theorem ab_mut {H H1 H2 : Hp} {p : Addr} {o : HO} (hp : H p = none) (e : Ex H H1) (h : upd H1 p o = H2) : Ex H H2 := h ▸ Ex.mut e hp
theorem pos60 : (0 : Int) < 10 ^ (60 : Int).toNat := by decide
theorem ite_refl {x : V} {A B : Prop} (h : A) : if decide (x = x) = true then A else B := by
  rw [if_pos (decide_eq_true rfl)]; exact h
theorem ite_nrefl {x : V} {A B : Prop} (h : B) : if (!decide (x = x)) = true then A else B := by
  rw [decide_eq_true (rfl : x = x)]; exact iteF h
theorem ite_pos {c : Bool} {A B : Prop} (hc : c = true) (h : A) : if c = true then A else B := by
  rw [if_pos hc]; exact h
theorem ite_neg {c : Bool} {A B : Prop} (hc : c = false) (h : B) : if c = true then A else B := by
  rw [hc]; exact iteF h
theorem lt_t {i j : Int} {A B : Prop} (hc : i < j) (h : A) : if decide (i < j) = true then A else B := ite_pos (decide_eq_true hc) h
theorem lt_f {i j : Int} {A B : Prop} (hc : ¬ i < j) (h : B) : if decide (i < j) = true then A else B := ite_neg (decide_eq_false hc) h
theorem le_t {i j : Int} {A B : Prop} (hc : i ≤ j) (h : A) : if decide (i ≤ j) = true then A else B := ite_pos (decide_eq_true hc) h
theorem le_f {i j : Int} {A B : Prop} (hc : ¬ i ≤ j) (h : B) : if decide (i ≤ j) = true then A else B := ite_neg (decide_eq_false hc) h
theorem eqI_t {i j : Int} {A B : Prop} (hc : i = j) (h : A) : if decide (V.int i = V.int j) = true then A else B := ite_pos (decide_eq_true (by rw [hc])) h
theorem eqI_f {i j : Int} {A B : Prop} (hc : ¬ i = j) (h : B) : if decide (V.int i = V.int j) = true then A else B := ite_neg (decide_eq_false (fun e => hc (V.int.inj e))) h
theorem neI_t {i j : Int} {A B : Prop} (hc : ¬ i = j) (h : A) : if (!decide (V.int i = V.int j)) = true then A else B := ite_pos (by rw [decide_eq_false (fun e => hc (V.int.inj e))]; rfl) h
theorem neI_f {i j : Int} {A B : Prop} (hc : i = j) (h : B) : if (!decide (V.int i = V.int j)) = true then A else B := ite_neg (by rw [decide_eq_true (by rw [hc])]; rfl) h
theorem iteN_t {c : Bool} {A B : Prop} (hc : c = false) (h : A) : if (!c) = true then A else B := ite_pos (by rw [hc]; rfl) h
theorem iteN_f {c : Bool} {A B : Prop} (hc : c = true) (h : B) : if (!c) = true then A else B := ite_neg (by rw [hc]; rfl) h
/-- a and b, b without a new thing -/
theorem and_ev {te : TE} {σ : L2.St} {H : Hp} {Q : VK} {b1 : Bool} (b2 : Bool) (hv : b1 = true → ∀ Q' : VK, Q' (.bl b2) H → te σ H Q') (h : Q (.bl (b1 && b2)) H) : if b1 = true then te σ H Q else Q (.bl false) H := by
  cases b1 with
  | true => exact iteT (hv rfl Q h)
  | false => exact iteF h
theorem or_ev {te : TE} {σ : L2.St} {H : Hp} {Q : VK} {b1 : Bool} (b2 : Bool) (hv : b1 = false → ∀ Q' : VK, Q' (.bl b2) H → te σ H Q') (h : Q (.bl (b1 || b2)) H) : if b1 = true then Q (.bl true) H else te σ H Q := by
  cases b1 with
  | true => exact iteT h
  | false => exact iteF (hv rfl Q h)
theorem chain_ev {tc : TE} {r' : R2} {y : V} {σ : L2.St} {H : Hp} {Q : VK} {b1 : Bool} (b2 : Bool) (hv : b1 = true → ∀ Q' : VK, Q' (.bl b2) H → tc σ H fun w' H4 => r' y w' H4 Q') (h : Q (.bl (b1 && b2)) H) :
    if b1 = true then (tc σ H fun w' H4 => r' y w' H4 Q) else Q (.bl false) H := by
  cases b1 with
  | true => exact iteT (hv rfl Q h)
  | false => exact iteF h
theorem bl_eq {H : Hp} {Q : VK} {b c : Bool} (e : b = c) (h : Q (.bl c) H) : Q (.bl b) H := e ▸ h
theorem eqI_b {i j : Int} (h : i = j) : decide (V.int i = V.int j) = true := decide_eq_true (by rw [h])
/-- an open test on two whole numbers -/
theorem lt_2 {i j : Int} {A B : Prop} (h1 : i < j → A) (h2 : ¬ i < j → B) : if decide (i < j) = true then A else B := by
  by_cases hc : i < j
  · exact lt_t hc (h1 hc)
  · exact lt_f hc (h2 hc)
theorem le_2 {i j : Int} {A B : Prop} (h1 : i ≤ j → A) (h2 : ¬ i ≤ j → B) : if decide (i ≤ j) = true then A else B := by
  by_cases hc : i ≤ j
  · exact le_t hc (h1 hc)
  · exact le_f hc (h2 hc)
theorem ltN_2 {i j : Int} {A B : Prop} (h1 : ¬ i < j → A) (h2 : i < j → B) : if (!decide (i < j)) = true then A else B := by
  by_cases hc : i < j
  · rw [decide_eq_true hc]; exact iteF (h2 hc)
  · rw [decide_eq_false hc]; exact iteT (h1 hc)
theorem leN_2 {i j : Int} {A B : Prop} (h1 : ¬ i ≤ j → A) (h2 : i ≤ j → B) : if (!decide (i ≤ j)) = true then A else B := by
  by_cases hc : i ≤ j
  · rw [decide_eq_true hc]; exact iteF (h2 hc)
  · rw [decide_eq_false hc]; exact iteT (h1 hc)
theorem eqI_2 {i j : Int} {A B : Prop} (h1 : i = j → A) (h2 : ¬ i = j → B) : if decide (V.int i = V.int j) = true then A else B := by
  by_cases hc : i = j
  · exact eqI_t hc (h1 hc)
  · exact eqI_f hc (h2 hc)
theorem neI_2 {i j : Int} {A B : Prop} (h1 : ¬ i = j → A) (h2 : i = j → B) : if (!decide (V.int i = V.int j)) = true then A else B := by
  by_cases hc : i = j
  · exact neI_f hc (h2 hc)
  · exact neI_t hc (h1 hc)
theorem tyx_mono {K : PySem.W.Frag} {H H' : Hp} {x : V} {t : Value} (e : Ex H H') (h : TyX K H x t) : TyX K H' x t := by
  cases h with
  | base b =>
    cases b with
    | non => exact .base .non
    | bl y => exact .base (.bl y)
    | int y => exact .base (.int y)
    | str y => exact .base (.str y)
    | flt y => exact .base (.flt y)
    | lst q => exact .base (.lst (e _ _ q))
    | frz q => exact .base (.frz (e _ _ q))
    | tup q => exact .base (.tup (e _ _ q))
    | dK q => exact .base (.dK (e _ _ q))
    | dT q => exact .base (.dT (e _ _ q))
    | ins q c a n k m => exact .base (.ins (e _ _ q) c a n k m)
  | byt b => exact .byt b
  | set q => exact .set (e _ _ q)
  | kList q c => exact .kList q c
  | kTuple q c => exact .kTuple q c
  | kDict q c => exact .kDict q c
  | fTuple q => exact .fTuple (e _ _ q)
  | fDict q => exact .fDict (e _ _ q)
/-- a comprehension: P by the turn, the list so far and the heap -/
theorem lc_go {J : It} {n : Nat} {G : Hp → Prop} {Yv : Nat → V → Prop} (w : Walk J n G (fun i H x H' => H' = H ∧ Yv i x)) {g : TG} {tt : TT} {te : TE} {vs : List Nat} {σ : L2.St} {H1 : Hp} {D : Addr} {Qd : Hp → Prop}
    (P : Nat → List V → Hp → Prop) (hn : n ≤ 100000) (hD : H1 D = none) (hG : ∀ H, Ex H1 H → G H) (hP : ∀ i acc H o, P i acc H → P i acc (upd H D o)) (h0 : ∀ H, Ex H1 H → P 0 [] H)
    (hs : ∀ i x acc H (Kk : VK) (Nn : Hp → Prop), i < n → Yv i x → Ex H1 H → H D = some (.lst acc) → P i acc H → (∀ y H4, Ex H H4 → P (i + 1) (acc ++ [y]) H4 → Kk y H4) → (∀ H3, Ex H H3 → P (i + 1) acc H3 → Nn H3) →
      g x (wipe σ vs) H fun σ2 H2 => wipe σ2 vs = wipe σ vs ∧ tt σ2 H2 fun b H3 => if b = true then te σ2 H3 Kk else Nn H3)
    (hd : ∀ acc H, Ex H1 H → H D = some (.lst acc) → P n acc H → Qd H) :
    ∃ W : Nat → Nat → Hp → Prop, (∃ m, W 0 m (upd H1 D (.lst []))) ∧ ∀ i m H, W i m H →
      (J.stop i H ∧ Qd H) ∨ (J.go i H ∧ ∃ Nx : Hp → Prop, (∀ H', Nx H' → ∃ m', m' < m ∧ W (i + 1) m' H') ∧ ∀ x H', J.yld i H x H' → g x (wipe σ vs) H' fun σ2 H2 => wipe σ2 vs = wipe σ vs ∧ tt σ2 H2 fun b H3 =>
        if b = true then te σ2 H3 fun y H4 => ∃ acc, H4 D = some (.lst acc) ∧ acc.length < sizeLine ∧ Nx (upd H4 D (.lst (acc ++ [y]))) else Nx H3) := by
  refine lc_it w (fun i H => ∃ acc, H D = some (.lst acc) ∧ acc.length ≤ i ∧ Ex H1 H ∧ P i acc H) ⟨[], upd_same, Nat.le_refl _, Ex.new hD, h0 _ (Ex.new hD)⟩ (fun i H _ h => ?_) (fun i x H H' hi h y => ?_) (fun H h => ?_)
  · obtain ⟨acc, _, _, e, _⟩ := h
    exact hG H e
  · obtain ⟨acc, ha, hl, e, p⟩ := h
    obtain ⟨rfl, hy⟩ := y
    refine hs i x acc H' _ _ hi hy e ha p (fun y H4 e4 p4 => ?_) (fun H3 e3 p3 => ?_)
    · refine ⟨acc, e4 _ _ ha, sz_lt (by omega), acc ++ [y], upd_same, by rw [List.length_append, List.length_singleton]; omega, Ex.mut (e.trans e4) hD, hP _ _ _ _ p4⟩
    · exact ⟨acc, e3 _ _ ha, by omega, e.trans e3, p3⟩
  · obtain ⟨acc, ha, _, e, p⟩ := h
    exact hd acc H e ha p
/-- what is_whole answers of x -/
def WholeJ (K : PySem.W.Frag) (H : Hp) (x : V) (b : Bool) : Prop := ∃ (t : String) (b1 b2 : Bool), TyX K H x (.type t) ∧ PySem.W.kitOne K (.type t) (.type "int") = some b1 ∧ PySem.W.kitOne K (.type t) (.type "bool") = some b2 ∧ b = (b1 && !b2)
/-- x is no text -/
def NoStr (K : PySem.W.Frag) (H : Hp) (x : V) : Prop := ∃ t : String, TyX K H x (.type t) ∧ PySem.W.kitOne K (.type t) (.type "str") = some false
theorem kit_int_int {K : PySem.W.Frag} : PySem.W.kitOne K (.type "int") (.type "int") = some true := kit_ty (by decide +kernel)
theorem kit_int_bool {K : PySem.W.Frag} : PySem.W.kitOne K (.type "int") (.type "bool") = some false := kit_ty (by decide +kernel)
theorem kit_int_str {K : PySem.W.Frag} : PySem.W.kitOne K (.type "int") (.type "str") = some false := kit_ty (by decide +kernel)
theorem kit_int_tuple {K : PySem.W.Frag} : PySem.W.kitOne K (.type "int") (.type "tuple") = some false := kit_ty (by decide +kernel)
theorem kit_int_dict {K : PySem.W.Frag} : PySem.W.kitOne K (.type "int") (.type "dict") = some false := kit_ty (by decide +kernel)
theorem kit_int_list {K : PySem.W.Frag} : PySem.W.kitOne K (.type "int") (.type "list") = some false := kit_ty (by decide +kernel)
theorem kit_bool_int {K : PySem.W.Frag} : PySem.W.kitOne K (.type "bool") (.type "int") = some true := kit_ty (by decide +kernel)
theorem kit_bool_bool {K : PySem.W.Frag} : PySem.W.kitOne K (.type "bool") (.type "bool") = some true := kit_ty (by decide +kernel)
theorem kit_bool_str {K : PySem.W.Frag} : PySem.W.kitOne K (.type "bool") (.type "str") = some false := kit_ty (by decide +kernel)
theorem kit_bool_tuple {K : PySem.W.Frag} : PySem.W.kitOne K (.type "bool") (.type "tuple") = some false := kit_ty (by decide +kernel)
theorem kit_bool_dict {K : PySem.W.Frag} : PySem.W.kitOne K (.type "bool") (.type "dict") = some false := kit_ty (by decide +kernel)
theorem kit_bool_list {K : PySem.W.Frag} : PySem.W.kitOne K (.type "bool") (.type "list") = some false := kit_ty (by decide +kernel)
theorem kit_str_int {K : PySem.W.Frag} : PySem.W.kitOne K (.type "str") (.type "int") = some false := kit_ty (by decide +kernel)
theorem kit_str_bool {K : PySem.W.Frag} : PySem.W.kitOne K (.type "str") (.type "bool") = some false := kit_ty (by decide +kernel)
theorem kit_str_str {K : PySem.W.Frag} : PySem.W.kitOne K (.type "str") (.type "str") = some true := kit_ty (by decide +kernel)
theorem kit_str_tuple {K : PySem.W.Frag} : PySem.W.kitOne K (.type "str") (.type "tuple") = some false := kit_ty (by decide +kernel)
theorem kit_str_dict {K : PySem.W.Frag} : PySem.W.kitOne K (.type "str") (.type "dict") = some false := kit_ty (by decide +kernel)
theorem kit_str_list {K : PySem.W.Frag} : PySem.W.kitOne K (.type "str") (.type "list") = some false := kit_ty (by decide +kernel)
theorem kit_NoneType_int {K : PySem.W.Frag} : PySem.W.kitOne K (.type "NoneType") (.type "int") = some false := kit_ty (by decide +kernel)
theorem kit_NoneType_bool {K : PySem.W.Frag} : PySem.W.kitOne K (.type "NoneType") (.type "bool") = some false := kit_ty (by decide +kernel)
theorem kit_NoneType_str {K : PySem.W.Frag} : PySem.W.kitOne K (.type "NoneType") (.type "str") = some false := kit_ty (by decide +kernel)
theorem kit_NoneType_tuple {K : PySem.W.Frag} : PySem.W.kitOne K (.type "NoneType") (.type "tuple") = some false := kit_ty (by decide +kernel)
theorem kit_NoneType_dict {K : PySem.W.Frag} : PySem.W.kitOne K (.type "NoneType") (.type "dict") = some false := kit_ty (by decide +kernel)
theorem kit_NoneType_list {K : PySem.W.Frag} : PySem.W.kitOne K (.type "NoneType") (.type "list") = some false := kit_ty (by decide +kernel)
theorem kit_tuple_int {K : PySem.W.Frag} : PySem.W.kitOne K (.type "tuple") (.type "int") = some false := kit_ty (by decide +kernel)
theorem kit_tuple_bool {K : PySem.W.Frag} : PySem.W.kitOne K (.type "tuple") (.type "bool") = some false := kit_ty (by decide +kernel)
theorem kit_tuple_str {K : PySem.W.Frag} : PySem.W.kitOne K (.type "tuple") (.type "str") = some false := kit_ty (by decide +kernel)
theorem kit_tuple_tuple {K : PySem.W.Frag} : PySem.W.kitOne K (.type "tuple") (.type "tuple") = some true := kit_ty (by decide +kernel)
theorem kit_tuple_dict {K : PySem.W.Frag} : PySem.W.kitOne K (.type "tuple") (.type "dict") = some false := kit_ty (by decide +kernel)
theorem kit_tuple_list {K : PySem.W.Frag} : PySem.W.kitOne K (.type "tuple") (.type "list") = some false := kit_ty (by decide +kernel)
theorem kit_list_int {K : PySem.W.Frag} : PySem.W.kitOne K (.type "list") (.type "int") = some false := kit_ty (by decide +kernel)
theorem kit_list_bool {K : PySem.W.Frag} : PySem.W.kitOne K (.type "list") (.type "bool") = some false := kit_ty (by decide +kernel)
theorem kit_list_str {K : PySem.W.Frag} : PySem.W.kitOne K (.type "list") (.type "str") = some false := kit_ty (by decide +kernel)
theorem kit_list_tuple {K : PySem.W.Frag} : PySem.W.kitOne K (.type "list") (.type "tuple") = some false := kit_ty (by decide +kernel)
theorem kit_list_dict {K : PySem.W.Frag} : PySem.W.kitOne K (.type "list") (.type "dict") = some false := kit_ty (by decide +kernel)
theorem kit_list_list {K : PySem.W.Frag} : PySem.W.kitOne K (.type "list") (.type "list") = some true := kit_ty (by decide +kernel)
theorem kit_dict_int {K : PySem.W.Frag} : PySem.W.kitOne K (.type "dict") (.type "int") = some false := kit_ty (by decide +kernel)
theorem kit_dict_bool {K : PySem.W.Frag} : PySem.W.kitOne K (.type "dict") (.type "bool") = some false := kit_ty (by decide +kernel)
theorem kit_dict_str {K : PySem.W.Frag} : PySem.W.kitOne K (.type "dict") (.type "str") = some false := kit_ty (by decide +kernel)
theorem kit_dict_tuple {K : PySem.W.Frag} : PySem.W.kitOne K (.type "dict") (.type "tuple") = some false := kit_ty (by decide +kernel)
theorem kit_dict_dict {K : PySem.W.Frag} : PySem.W.kitOne K (.type "dict") (.type "dict") = some true := kit_ty (by decide +kernel)
theorem kit_dict_list {K : PySem.W.Frag} : PySem.W.kitOne K (.type "dict") (.type "list") = some false := kit_ty (by decide +kernel)
theorem WholeJ.int {K : PySem.W.Frag} {H : Hp} (i : Int) : WholeJ K H (.int i) true := ⟨"int", true, false, .base (.int i), kit_int_int, kit_int_bool, rfl⟩
theorem WholeJ.bl {K : PySem.W.Frag} {H : Hp} (i : Bool) : WholeJ K H (.bl i) false := ⟨"bool", true, true, .base (.bl i), kit_bool_int, kit_bool_bool, rfl⟩
theorem WholeJ.str {K : PySem.W.Frag} {H : Hp} (i : Str) : WholeJ K H (.str i) false := ⟨"str", false, false, .base (.str i), kit_str_int, kit_str_bool, rfl⟩
theorem WholeJ.non {K : PySem.W.Frag} {H : Hp} : WholeJ K H .non false := ⟨"NoneType", false, false, .base .non, kit_NoneType_int, kit_NoneType_bool, rfl⟩
theorem WholeJ.tup {K : PySem.W.Frag} {H : Hp} {t : Addr} {xs : List V} (h : SqT K H t xs) : WholeJ K H (.ref t) false := ⟨"tuple", false, false, tyx_t h, kit_tuple_int, kit_tuple_bool, rfl⟩
theorem WholeJ.lst {K : PySem.W.Frag} {H : Hp} {t : Addr} {xs : List V} (h : SqL K H t xs) : WholeJ K H (.ref t) false := ⟨"list", false, false, tyx_l h, kit_list_int, kit_list_bool, rfl⟩
theorem WholeJ.dct {K : PySem.W.Frag} {H : Hp} {t : Addr} {xs : List (Key × V)} (h : Rd H t (.dK xs)) : WholeJ K H (.ref t) false := ⟨"dict", false, false, tyx_d h, kit_dict_int, kit_dict_bool, rfl⟩
theorem NoStr.int {K : PySem.W.Frag} {H : Hp} (i : Int) : NoStr K H (.int i) := ⟨"int", .base (.int i), kit_int_str⟩
theorem NoStr.bl {K : PySem.W.Frag} {H : Hp} (i : Bool) : NoStr K H (.bl i) := ⟨"bool", .base (.bl i), kit_bool_str⟩
theorem NoStr.non {K : PySem.W.Frag} {H : Hp} : NoStr K H .non := ⟨"NoneType", .base .non, kit_NoneType_str⟩
theorem NoStr.tup {K : PySem.W.Frag} {H : Hp} {t : Addr} {xs : List V} (h : SqT K H t xs) : NoStr K H (.ref t) := ⟨"tuple", tyx_t h, kit_tuple_str⟩
theorem NoStr.lst {K : PySem.W.Frag} {H : Hp} {t : Addr} {xs : List V} (h : SqL K H t xs) : NoStr K H (.ref t) := ⟨"list", tyx_l h, kit_list_str⟩
theorem NoStr.dct {K : PySem.W.Frag} {H : Hp} {t : Addr} {xs : List (Key × V)} (h : Rd H t (.dK xs)) : NoStr K H (.ref t) := ⟨"dict", tyx_d h, kit_dict_str⟩
/-- an item of a list at an open place in bounds -/
theorem tl_len (z : Str) : z.cps.toList.length = z.length := Array.length_toList
theorem ixN_in {n : Nat} {i : Int} (h0 : 0 ≤ i) (h1 : i < n) : ixN n i = some i.toNat := by
  have q : ixN n ((i.toNat : Nat) : Int) = some i.toNat := Evl.ixN_nat (by omega)
  rw [show ((i.toNat : Nat) : Int) = i by omega] at q
  exact q
theorem mod_in {a b : Int} (h : 0 < b) : 0 ≤ a % b ∧ a % b < b := ⟨Int.emod_nonneg _ (by omega), Int.emod_lt_of_pos _ h⟩
theorem atI_in {α : Type} {xs : List α} {i : Int} (h0 : 0 ≤ i) (h1 : i < xs.length) : ∃ v, atI xs i = some v ∧ v ∈ xs := by
  have hj : i.toNat < xs.length := by omega
  have q : atI xs ((i.toNat : Nat) : Int) = some xs[i.toNat] := atI_nat (List.getElem?_eq_getElem hj)
  exact ⟨xs[i.toNat], by rw [show ((i.toNat : Nat) : Int) = i by omega] at q; exact q, List.getElem_mem hj⟩
theorem atI_getD {xs : List V} {i : Int} (h0 : 0 ≤ i) (h1 : i < xs.length) : atI xs i = some (xs.getD i.toNat .non) := by
  obtain ⟨v, hv, _⟩ := atI_in h0 h1
  have hj : i.toNat < xs.length := by omega
  have q : atI xs ((i.toNat : Nat) : Int) = some xs[i.toNat] := atI_nat (List.getElem?_eq_getElem hj)
  rw [show ((i.toNat : Nat) : Int) = i by omega] at q
  rw [q]
  simp [List.getD, List.getElem?_eq_getElem hj]
theorem getD_mem {xs : List V} {i : Int} (h0 : 0 ≤ i) (h1 : i < xs.length) : xs.getD i.toNat .non ∈ xs := by
  have hj : i.toNat < xs.length := by omega
  have : xs.getD i.toNat .non = xs[i.toNat] := by simp [List.getD, List.getElem?_eq_getElem hj]
  rw [this]
  exact List.getElem_mem hj
theorem WholeJ.mono {K : PySem.W.Frag} {H H' : Hp} {x : V} {b : Bool} (e : Ex H H') (h : WholeJ K H x b) : WholeJ K H' x b := by
  obtain ⟨t, b1, b2, h1, h2⟩ := h
  exact ⟨t, b1, b2, tyx_mono e h1, h2⟩
theorem NoStr.mono {K : PySem.W.Frag} {H H' : Hp} {x : V} (e : Ex H H') (h : NoStr K H x) : NoStr K H' x := by
  obtain ⟨t, h1, h2⟩ := h
  exact ⟨t, tyx_mono e h1, h2⟩
end Gc
/- what is known of an earlier heap, at a later one -/
local macro_rules | `(tactic| walk_at "gc_ex") => `(tactic| first
  | assumption
  | exact Evl.Ex.refl _
  | (refine' Evl.Ex.trans ?h (by assumption); (case h => walk_at "gc_ex")))
local macro_rules | `(tactic| walk_at "gc_at") => `(tactic| first
  | assumption
  | exact Evl.st_of (by assumption)
  | exact Evl.sq_of (by assumption)
  | exact L2.Rd.of (by assumption)
  | (refine' Evl.ex_t (by assumption) ?h; (case h => walk_at "gc_at"))
  | (refine' Evl.ex_l (by assumption) ?h; (case h => walk_at "gc_at"))
  | (refine' Evl.ex_rd (by assumption) ?h; (case h => walk_at "gc_at"))
  | (refine' Gc.ex_at (by assumption) ?h; (case h => walk_at "gc_at")))
local macro_rules | `(tactic| walk_at "gc_ty") => `(tactic| first
  | exact L2.TyX.base (L2.TyOf.int _)
  | exact L2.TyX.base (L2.TyOf.bl _)
  | exact L2.TyX.base (L2.TyOf.str _)
  | exact L2.TyX.base L2.TyOf.non
  | assumption
  | (refine' Gc.tyx_t ?h; (case h => walk_at "gc_at"))
  | (refine' Gc.tyx_l ?h; (case h => walk_at "gc_at"))
  | (refine' Gc.tyx_d ?h; (case h => walk_at "gc_at")))
local macro_rules | `(tactic| walk_at "gc_kit") => `(tactic| first
  | exact Gc.kit_int_int
  | exact Gc.kit_int_bool
  | exact Gc.kit_int_str
  | exact Gc.kit_int_tuple
  | exact Gc.kit_int_dict
  | exact Gc.kit_int_list
  | exact Gc.kit_bool_int
  | exact Gc.kit_bool_bool
  | exact Gc.kit_bool_str
  | exact Gc.kit_bool_tuple
  | exact Gc.kit_bool_dict
  | exact Gc.kit_bool_list
  | exact Gc.kit_str_int
  | exact Gc.kit_str_bool
  | exact Gc.kit_str_str
  | exact Gc.kit_str_tuple
  | exact Gc.kit_str_dict
  | exact Gc.kit_str_list
  | exact Gc.kit_NoneType_int
  | exact Gc.kit_NoneType_bool
  | exact Gc.kit_NoneType_str
  | exact Gc.kit_NoneType_tuple
  | exact Gc.kit_NoneType_dict
  | exact Gc.kit_NoneType_list
  | exact Gc.kit_tuple_int
  | exact Gc.kit_tuple_bool
  | exact Gc.kit_tuple_str
  | exact Gc.kit_tuple_tuple
  | exact Gc.kit_tuple_dict
  | exact Gc.kit_tuple_list
  | exact Gc.kit_list_int
  | exact Gc.kit_list_bool
  | exact Gc.kit_list_str
  | exact Gc.kit_list_tuple
  | exact Gc.kit_list_dict
  | exact Gc.kit_list_list
  | exact Gc.kit_dict_int
  | exact Gc.kit_dict_bool
  | exact Gc.kit_dict_str
  | exact Gc.kit_dict_tuple
  | exact Gc.kit_dict_dict
  | exact Gc.kit_dict_list)
/- the answers that need no thought -/
local macro_rules | `(tactic| walk_at "gc_sd") => `(tactic| first
  | rfl
  | walk_at "gc_at"
  | exact L2.ClsV.ty _
  | walk_at "gc_ty"
  | walk_at "gc_kit"
  | exact Gc.sz _
  | exact Gc.pos60
  | exact ⟨by decide, by decide⟩
  | exact ⟨_, rfl⟩
  | exact Or.inl (by walk_at "gc_at")
  | exact Or.inr (by walk_at "gc_at")
  | exact Or.inr ⟨by decide, by decide⟩
  | exact Or.inl ⟨by decide, by decide⟩
  | exact Or.inr ⟨by omega, by omega⟩
  | exact Or.inl ⟨by omega, by omega⟩
  | exact ⟨by decide, by decide, by decide⟩
  | exact ⟨by omega, by omega⟩
  | exact Evl.sz_of (by omega)
  | exact Evl.sz_lt (by omega)
  | exact Exists.intro _ (by assumption)
  | exact Or.inl ⟨rfl, Exists.intro _ (Evl.sq_of (by assumption))⟩
  | decide
  | omega)
local macro_rules | `(tactic| walk_at "gc_e") => `(tactic| (apply Exists.intro; first | refine And.intro rfl ?_ | walk_at "gc_e"))
/- one step of a reading -/
local macro_rules | `(tactic| walk_at "gc_1") => `(tactic| first
  | (refine And.intro rfl ?_)
  | walk_at "gc_e"
  | (refine L2.iteT ?_)
  | (refine L2.iteF ?_)
  | (refine Gc.ite_refl ?_)
  | (refine Gc.ite_nrefl ?_)
  | (intro p hp; refine (?_ : ∃ W : Nat → Nat → L2.Hp → Prop, _))
  | (intro p hp; generalize hX : L2.upd _ p _ = H1; have e1 := Gc.ab_ex hp hX; have f1 := Gc.ab_at hX; clear hX)
  | (refine' And.intro ?s ?_; (case s => walk_at "gc_sd"))
  | intro _)
local macro_rules | `(tactic| walk_at "gc") => `(tactic| repeat walk_at "gc_1")

namespace Gc
open PySem L2 Evl
/-! ### the laws' numbers -/
/-- the greater one, as the program's max takes it -/
def gmax (i j : Int) : Int := if j > i then j else i
/-- the lesser one, as the program's min takes it -/
def gmin (i j : Int) : Int := if j < i then j else i
theorem gmax_comm (i j : Int) : gmax i j = gmax j i := by unfold gmax; split <;> split <;> omega
theorem gmax_back (i j : Int) : gmax (gmax i j) i = gmax i j := by unfold gmax; split <;> split <;> omega
theorem gmax_in (i j : Int) : gmax i (gmax j i) = gmax j i := by unfold gmax; split <;> split <;> omega
/-- whether (a, b) reaches (c, d) -/
def reachB (a b c d : Int) : Bool := decide (c ≤ a) && decide (d ≤ b)
theorem reachB_self (a b : Int) : reachB a b a b = true := by unfold reachB; simp
/-- a cell of the script, 0 behind its end -/
def cellI (ns : List Int) (k : Int) : Int := ns.getD k.toNat 0
/-- a def of whole numbers that makes nothing -/
def sp_i1 (f : Int → Int) : Sp := fun vs H Q _ => ∃ c : Int, vs = [.int c] ∧ Q (.int (f c)) H
def sp_i2 (f : Int → Int → Int) : Sp := fun vs H Q _ => ∃ c e : Int, vs = [.int c, .int e] ∧ Q (.int (f c e)) H
def numberBy (c : Int) : Int :=
  if c % 5 < 2 then c / 5 % 3 * (c % 5) else if c % 5 = 2 then c / 5 % 1000 else if c % 5 = 3 then c / 5 % 10 ^ 60 else 10 ^ 60 - 1 - c / 5 % 1000
/-! ### names -/
def LET : Str := "abcdefghijklmnopqrstuvwxyz"
/-- a text of 1 to 8 small letters -/
def nameB (z : Str) : Bool := decide ((1 : Int) ≤ (z.length : Nat)) && (decide (((z.length : Nat) : Int) ≤ 8) && z.cps.toList.all fun c => decide (c ∈ LET.cps.toList))
theorem nameB_yes (z : Str) (h1 : (1 : Int) ≤ (z.length : Nat)) (h2 : ((z.length : Nat) : Int) ≤ 8) : ((z.cps.toList.map fun c => decide (c ∈ LET.cps.toList)).all id) = nameB z := by
  unfold nameB
  rw [decide_eq_true h1, decide_eq_true h2, Bool.true_and, Bool.true_and, List.all_map]
  rfl
theorem nameB_long (z : Str) (h2 : ¬ ((z.length : Nat) : Int) ≤ 8) : nameB z = false := by
  unfold nameB
  rw [decide_eq_false h2, Bool.false_and, Bool.and_false]
theorem nameB_short (z : Str) (h2 : ¬ (1 : Int) ≤ (z.length : Nat)) : nameB z = false := by
  unfold nameB
  rw [decide_eq_false h2, Bool.false_and]
theorem take_map_succ {α β : Type} {f : α → β} {l : List α} {i : Nat} {x : α} (h : l[i]? = some x) : (l.take (i + 1)).map f = (l.take i).map f ++ [f x] := by
  rw [List.take_add_one, h, List.map_append]
  rfl
theorem all_take_succ {α : Type} {p : α → Bool} {l : List α} {i : Nat} {x : α} (h : l[i]? = some x) : (l.take (i + 1)).all p = ((l.take i).all p && p x) := by
  rw [List.take_add_one, h, List.all_append]
  simp
/-- texts of one sign each -/
def sg (c : Nat) : Str := ⟨#[c]⟩
def Signs (p : Nat → Prop) (xs : List V) : Prop := ∃ cs : List Nat, xs = (cs.map sg).map V.str ∧ ∀ c ∈ cs, p c
theorem Signs.nil {p : Nat → Prop} : Signs p [] := ⟨[], rfl, fun _ h => (by cases h)⟩
theorem Signs.one {p : Nat → Prop} {xs : List V} {c : Nat} (h : Signs p xs) (hc : p c) : Signs p (xs ++ [.str ⟨#[c]⟩]) := by
  obtain ⟨cs, rfl, q⟩ := h
  refine ⟨cs ++ [c], by rw [List.map_append, List.map_append]; rfl, fun d hd => ?_⟩
  rcases List.mem_append.mp hd with h | h
  · exact q d h
  · rw [List.mem_singleton.mp h]; exact hc
theorem Signs.put {p : Nat → Prop} {xs : List V} {c : Nat} (h : Signs p xs) (hc : p c) (j : Nat) : Signs p (xs.set j (.str ⟨#[c]⟩)) := by
  obtain ⟨cs, rfl, q⟩ := h
  refine ⟨cs.set j c, by rw [List.map_set, List.map_set]; rfl, fun d hd => ?_⟩
  rcases List.mem_or_eq_of_mem_set hd with h | h
  · exact q d h
  · rw [h]; exact hc
theorem sg_lens : ∀ cs : List Nat, ((cs.map sg).map (fun x => x.length)).sum = cs.length
  | [] => rfl
  | c :: cs => by
    show 1 + ((cs.map sg).map (fun x => x.length)).sum = cs.length + 1
    rw [sg_lens cs, Nat.add_comm]
theorem sg_size (cs : List Nat) (h : cs.length ≤ 100000) : ((cs.map sg).map (fun x => x.length)).sum + (cs.map sg).length * ("" : Str).length ≤ 16777216 := by
  rw [sg_lens, List.length_map]
  show cs.length + cs.length * 0 ≤ 16777216
  omega
theorem joinL_sg : ∀ cs : List Nat, TL.joinL [] (cs.map fun c => [c]) = cs
  | [] => rfl
  | [c] => rfl
  | c :: d :: r => by
    show [c] ++ ([] ++ TL.joinL [] ((d :: r).map fun c => [c])) = c :: d :: r
    rw [joinL_sg (d :: r)]
    rfl
theorem join_sg (cs : List Nat) : Txt.join ("" : Str) (cs.map sg) = ⟨cs.toArray⟩ := by
  have e := SX.join_S [] (cs.map fun c => [c])
  rw [joinL_sg, List.map_map] at e
  exact e
/-- an amount -/
def amountB (i : Int) : Bool := decide (1 ≤ i) && decide (i ≤ 1000000000)
theorem amountB_alt (N : Int) : amountB N = (decide (0 < N) && decide (N < 1000000001)) := by
  have e1 : decide (1 ≤ N) = decide (0 < N) := decide_eq_decide.mpr (by omega)
  have e2 : decide (N ≤ 1000000000) = decide (N < 1000000001) := decide_eq_decide.mpr (by omega)
  unfold amountB
  rw [e1, e2]
/-- what a law promises: True -/
def sp_law (K : PySem.W.Frag) : Sp := fun vs H Q _ => ∃ (a : Addr) (ns : List Int), vs = [.ref a] ∧ SqL K H a (ns.map V.int) ∧ ns.length ≤ 63 ∧ ∀ H', Q (.bl true) H'
end Gc

namespace Gc
open PySem PySem.Spec PyProof.Rows L2
/-! ### == and != of dicts whose values are data (or the very same objects) -/
theorem hu70 {A : Around} {k : Nat} (hr : Room k A) : A.units + 70 < cLine := by have := hr.un; omega
/-- v == v' answers b: one object, or data -/
def EqJ (K : PySem.W.Frag) (H : Hp) (v v' : V) (b : Bool) : Prop :=
  (∃ a, v = .ref a ∧ v' = .ref a ∧ b = true) ∨ ∃ d e, Dp K H v d ∧ Dp K H v' e ∧ SeqAt.shaped d = true ∧ SeqAt.shaped e = true ∧ b = PyData.eqv d e
section
variable {X : Cx} {pins : List (Addr × Obj)} {σ : L2.St} {H : Hp} {s : Shared}
theorem eqj_at (I : Inv X pins σ H s) (hu : X.A.units + 70 < cLine) {v v' : V} {b : Bool} {u u' : Value} (h : EqJ X.K H v v' b) (r : RelV v u) (r' : RelV v' u') : SeqAt.EqAt X.A.in1 s u u' b := by
  rcases h with ⟨a, rfl, rfl, rfl⟩ | ⟨d, e, hd, he, sd, se, rfl⟩
  · cases r
    cases r'
    exact SeqAt.EqAt.same _
  · obtain ⟨as, r1⟩ := Dp.reads I d v u hd r
    obtain ⟨bs, r2⟩ := Dp.reads I e v' u' he r'
    exact PySem.W.keq_at r1 r2 sd se (by show X.A.units + 1 + 64 < cLine; omega)
/-- the answer of ks == ls, item by item -/
def dictEqB (ks ls : List (Key × V)) (e : Key → Bool) : Bool := decide (ks.length = ls.length) && ks.all fun p => (valV ls p.1).isSome && e p.1
theorem hits_j (I : Inv X pins σ H s) (hu : X.A.units + 70 < cLine) {ls : List (Key × V)} {vb : List (Key × Value)} (rb : KV ls vb) {e : Key → Bool} {ks : List (Key × V)} {va : List (Key × Value)} (ra : KV ks va) :
    (∀ p ∈ ks, ∀ v', valV ls p.1 = some v' → EqJ X.K H p.2 v' (e p.1)) → PySem.W.KeqHits X.A.in1 s vb va (ks.all fun p => (valV ls p.1).isSome && e p.1) := by
  unfold KV at ra
  induction ra with
  | nil => exact fun _ => .nil
  | @cons p q ps qs h t ih =>
    intro hp
    obtain ⟨k, v⟩ := q
    obtain ⟨h1, h2⟩ := h
    have h1' : p.1 = k := h1
    have rest := ih fun p' hm => hp p' (List.mem_cons_of_mem _ hm)
    have q0 := rb.val p.1
    cases hv : valV ls p.1 with
    | none =>
      rw [hv] at q0
      have hn : valueAt vb k = none := by
        rw [← h1']
        cases z : valueAt vb p.1 with
        | none => rfl
        | some y => rw [z] at q0; exact q0.elim
      have g : ((p :: ps).all fun p => (valV ls p.1).isSome && e p.1) = false := by simp [hv]
      rw [g]
      exact .miss hn
    | some v' =>
      rw [hv] at q0
      obtain ⟨y, hy, ry⟩ := RelO.some_of q0
      rw [h1'] at hy
      have g : ((p :: ps).all fun p => (valV ls p.1).isSome && e p.1) = (e p.1 && ps.all fun p => (valV ls p.1).isSome && e p.1) := by simp [hv]
      rw [g]
      exact .hit hy (eqj_at I hu (hp p List.mem_cons_self v' hv) h2 ry) rest
def rPgEq (K : PySem.W.Frag) (neg : Bool) : R2 := fun x y H Q => Hold (∃ (a b : Addr) (ks ls : List (Key × V)) (e : Key → Bool), x = .ref a ∧ y = .ref b ∧ Rd H a (.dK ks) ∧ Rd H b (.dK ls) ∧
  (∀ p ∈ ks, ∀ v', valV ls p.1 = some v' → EqJ K H p.2 v' (e p.1)) ∧ Q (.bl (if neg = true then !dictEqB ks ls e else dictEqB ks ls e)) H)
theorem op_pgEq (hu : X.A.units + 70 < cLine) : OpR X (compareOp .Eq) (rPgEq X.K false) := by
  intro pins s σ H x y v u Q I rx ry h
  obtain ⟨⟨a, b, ks, ls, e, rfl, rfl, ea, eb, hj, q⟩⟩ := h
  obtain rfl : v = Value.ref a := rx
  obtain rfl : u = Value.ref b := ry
  obtain ⟨_, ya, va, ra, da⟩ := dk_rd I.hok ea
  obtain ⟨_, yb, vb, rb, db⟩ := dk_rd I.hok eb
  refine PySem.W.keq_eq (knd := mixKind X.prog X.w) ya yb da db (by omega) (fun _ => hits_j I hu rb ra hj) (fin_bl I q ?_)
  show dictEqB ks ls e = _
  unfold dictEqB
  rw [ra.length, rb.length]
  cases hq : (va.length == vb.length) <;> simp_all
theorem op_pgEqN (hu : X.A.units + 70 < cLine) : OpR X (compareOp .NotEq) (rPgEq X.K true) := by
  intro pins s σ H x y v u Q I rx ry h
  obtain ⟨⟨a, b, ks, ls, e, rfl, rfl, ea, eb, hj, q⟩⟩ := h
  obtain rfl : v = Value.ref a := rx
  obtain rfl : u = Value.ref b := ry
  obtain ⟨_, ya, va, ra, da⟩ := dk_rd I.hok ea
  obtain ⟨_, yb, vb, rb, db⟩ := dk_rd I.hok eb
  refine PySem.W.keq_ne (knd := mixKind X.prog X.w) ya yb da db (by omega) (fun _ => hits_j I hu rb ra hj) (fin_bl I q ?_)
  show (!dictEqB ks ls e) = _
  unfold dictEqB
  rw [ra.length, rb.length]
  cases hq : (va.length == vb.length) <;> simp_all
theorem pg_go {K : PySem.W.Frag} {H : Hp} {Q : VK} {a b : Addr} {ks ls : List (Key × V)} (e : Key → Bool) (ha : Rd H a (.dK ks)) (hb : Rd H b (.dK ls)) (h : ∀ p ∈ ks, ∀ v', valV ls p.1 = some v' → EqJ K H p.2 v' (e p.1)) (q : Q (.bl (dictEqB ks ls e)) H) :
    rPgEq K false (.ref a) (.ref b) H Q := ⟨⟨a, b, ks, ls, e, rfl, rfl, ha, hb, h, q⟩⟩
theorem pgN_go {K : PySem.W.Frag} {H : Hp} {Q : VK} {a b : Addr} {ks ls : List (Key × V)} (e : Key → Bool) (ha : Rd H a (.dK ks)) (hb : Rd H b (.dK ls)) (h : ∀ p ∈ ks, ∀ v', valV ls p.1 = some v' → EqJ K H p.2 v' (e p.1)) (q : Q (.bl (!dictEqB ks ls e)) H) :
    rPgEq K true (.ref a) (.ref b) H Q := ⟨⟨a, b, ks, ls, e, rfl, rfl, ha, hb, h, q⟩⟩
end
end Gc

namespace Gc
open PySem L2 Evl
/-! ### what may be read stays: locks come and go, new things come -/
def Er (H H' : Hp) : Prop := ∀ a o, H a = some o → H' a = some o ∨ ∃ kvs : List (Key × V), (o = .dK kvs ∨ ∃ od, o = .frz od (.dK kvs)) ∧ Rd H' a (.dK kvs)
theorem Er.refl (H : Hp) : Er H H := fun _ _ h => .inl h
theorem Er.of {H H' : Hp} (e : Ex H H') : Er H H' := fun a o h => .inl (e a o h)
theorem Er.rd {H H' : Hp} (e : Er H H') {a : Addr} {kvs : List (Key × V)} (h : Rd H a (.dK kvs)) : Rd H' a (.dK kvs) := by
  rcases h with h | ⟨od, h⟩
  · rcases e a _ h with q | ⟨kk, q1, q2⟩
    · exact .inl q
    · rcases q1 with q1 | ⟨_, q1⟩
      · cases q1; exact q2
      · cases q1
  · rcases e a _ h with q | ⟨kk, q1, q2⟩
    · exact .inr ⟨_, q⟩
    · rcases q1 with q1 | ⟨_, q1⟩
      · cases q1
      · cases q1; exact q2
theorem Er.trans {H H1 H2 : Hp} (e : Er H H1) (f : Er H1 H2) : Er H H2 := fun a o h => by
  rcases e a o h with q | ⟨kvs, q1, q2⟩
  · exact f a o q
  · exact .inr ⟨kvs, q1, f.rd q2⟩
theorem Er.tup {H H' : Hp} (e : Er H H') {a : Addr} {xs : List V} (h : H a = some (.tup xs)) : H' a = some (.tup xs) := by
  rcases e a _ h with q | ⟨kk, q1, q2⟩
  · exact q
  · rcases q1 with q1 | ⟨_, q1⟩ <;> cases q1
theorem Er.lst {H H' : Hp} (e : Er H H') {a : Addr} {xs : List V} (h : H a = some (.lst xs)) : H' a = some (.lst xs) := by
  rcases e a _ h with q | ⟨kk, q1, q2⟩
  · exact q
  · rcases q1 with q1 | ⟨_, q1⟩ <;> cases q1
theorem Er.ftup {H H' : Hp} (e : Er H H') {a : Addr} {od} {xs : List V} (h : H a = some (.frz od (.tup xs))) : H' a = some (.frz od (.tup xs)) := by
  rcases e a _ h with q | ⟨kk, q1, q2⟩
  · exact q
  · rcases q1 with q1 | ⟨_, q1⟩ <;> cases q1
theorem Er.flst {H H' : Hp} (e : Er H H') {a : Addr} {od} {xs : List V} (h : H a = some (.frz od (.lst xs))) : H' a = some (.frz od (.lst xs)) := by
  rcases e a _ h with q | ⟨kk, q1, q2⟩
  · exact q
  · rcases q1 with q1 | ⟨_, q1⟩ <;> cases q1
theorem Er.sqT {K : PySem.W.Frag} {H H' : Hp} (e : Er H H') {a : Addr} {xs : List V} (h : SqT K H a xs) : SqT K H' a xs := by
  rcases h with (h | ⟨o, h⟩) | h
  · exact .inl (.inl (e.tup h))
  · exact .inl (.inr ⟨o, e.ftup h⟩)
  · exact .inr h
theorem Er.sqL {K : PySem.W.Frag} {H H' : Hp} (e : Er H H') {a : Addr} {xs : List V} (h : SqL K H a xs) : SqL K H' a xs := by
  rcases h with (h | ⟨o, h⟩) | h
  · exact .inl (.inl (e.lst h))
  · exact .inl (.inr ⟨o, e.flst h⟩)
  · exact .inr h
theorem Er.lock {H : Hp} {d : Addr} {od : Obj} {kvs : List (Key × V)} (h : H d = some (.dK kvs)) : Er H (upd H d (.frz od (.dK kvs))) := fun a o q => by
  by_cases e : a = d
  · subst e
    rw [h] at q
    cases q
    exact .inr ⟨kvs, .inl rfl, .inr ⟨od, upd_same⟩⟩
  · exact .inl (by rw [upd_ne e]; exact q)
theorem Er.unlock {H : Hp} {d : Addr} {od : Obj} {kvs : List (Key × V)} (h : H d = some (.frz od (.dK kvs))) : Er H (upd H d (.dK kvs)) := fun a o q => by
  by_cases e : a = d
  · subst e
    rw [h] at q
    cases q
    exact .inr ⟨kvs, .inr ⟨od, rfl⟩, .inl upd_same⟩
  · exact .inl (by rw [upd_ne e]; exact q)
theorem lock_ex {H H' : Hp} {d : Addr} {od : Obj} {u : HO} (e : Ex (upd H d (.frz od u)) H') (h : H d = some u) : Ex H (upd H' d u) := fun a o q => by
  by_cases c : a = d
  · subst c
    rw [h] at q
    cases q
    exact upd_same
  · rw [upd_ne c]
    exact e a o (by rw [upd_ne c]; exact q)
/-- behind a loop over a dict that only made new things -/
theorem unl {H H' : Hp} {d : Addr} {od : Obj} {u : HO} {R : Hp → Prop} (hd : H d = some u) (e : Ex (upd H d (.frz od u)) H') (h : ∀ H2, Ex H H2 → R H2) : H' d = some (.frz od u) ∧ R (upd H' d u) :=
  ⟨e d _ upd_same, h _ (lock_ex e hd)⟩
/-- x's type, whatever it is -/
theorem Er.ty {K : PySem.W.Frag} {H H' : Hp} {x : V} {t : Value} (e : Er H H') (h : TyX K H x t) : TyX K H' x t := by
  cases h with
  | base b =>
    cases b with
    | non => exact .base .non
    | bl y => exact .base (.bl y)
    | int y => exact .base (.int y)
    | str y => exact .base (.str y)
    | flt y => exact .base (.flt y)
    | lst q => exact .base (.lst (e.lst q))
    | @frz a ob xs q => exact .base (.frz (e.flst q))
    | tup q => exact .base (.tup (e.tup q))
    | dK q => exact tyx_d (e.rd (.inl q))
    | dT q =>
      rcases e _ _ q with q | ⟨kk, q1, q2⟩
      · exact .base (.dT q)
      · rcases q1 with q1 | ⟨_, q1⟩ <;> cases q1
    | ins q c a n k m =>
      rcases e _ _ q with q | ⟨kk, q1, q2⟩
      · exact .base (.ins q c a n k m)
      · rcases q1 with q1 | ⟨_, q1⟩ <;> cases q1
  | byt b => exact .byt b
  | set q =>
    rcases e _ _ q with q | ⟨kk, q1, q2⟩
    · exact .set q
    · rcases q1 with q1 | ⟨_, q1⟩ <;> cases q1
  | kList q c => exact .kList q c
  | kTuple q c => exact .kTuple q c
  | kDict q c => exact .kDict q c
  | fTuple q => exact .fTuple (e.ftup q)
  | fDict q => exact tyx_d (e.rd (.inr ⟨_, q⟩))
theorem Er.whole {K : PySem.W.Frag} {H H' : Hp} {x : V} {b : Bool} (e : Er H H') (h : WholeJ K H x b) : WholeJ K H' x b := by
  obtain ⟨t, b1, b2, h1, h2⟩ := h
  exact ⟨t, b1, b2, e.ty h1, h2⟩
/-- len of a dict, locked or not -/
theorem call_lenDR {X : Cx} : CallR X (.builtin "len") (fun xs H Q => ∃ a kvs, xs = [V.ref a] ∧ Rd H a (.dK kvs) ∧ Q (.int (kvs : List (Key × V)).length) H) := by
  intro pins s σ H xs us Q I r h
  obtain ⟨a, kvs, rfl, ha, q⟩ := h
  obtain ⟨u, rfl, ru⟩ := vals1 r
  cases ru
  exact d_len I ha fun t s' I' => ⟨.int kvs.length, H, I', ⟨t, rfl⟩, q⟩
/-- d[k] of a dict by keys, locked or not -/
theorem dget_k {H : Hp} {a : Addr} {kvs : List (Key × V)} {k : Key} {v : V} (e : Rd H a (.dK kvs)) (h : valV kvs k = some v) : DGet H a (kV k) (some v) := .inl ⟨kvs, k, e, rfl, h.symm⟩
theorem dget_o {H : Hp} {a : Addr} {kvs : List (Key × V)} (k : Key) (e : Rd H a (.dK kvs)) : DGet H a (kV k) (valV kvs k) := .inl ⟨kvs, k, e, rfl, rfl⟩
/-! ### pages that are built by putting -/
def putAll (ps : List (Key × V)) : List (Key × V) := ps.foldl (fun acc p => putK acc p.1 p.2) []
theorem putAll_snoc (ps : List (Key × V)) (p : Key × V) : putAll (ps ++ [p]) = putK (putAll ps) p.1 p.2 := by unfold putAll; rw [List.foldl_append]; rfl
theorem nd_put {κ : Type} [DecidableEq κ] {kvs : List (κ × V)} {k : κ} (v : V) (hn : (kvs.map (·.1)).Nodup) : ((putK kvs k v).map (·.1)).Nodup := by
  unfold putK
  split
  · rw [List.map_map]
    have e : ((fun x : κ × V => x.1) ∘ fun kv : κ × V => if kv.1 = k then (kv.1, v) else kv) = fun x => x.1 := by
      funext x
      show (if x.1 = k then (x.1, v) else x).1 = x.1
      split <;> rfl
    rw [e]
    exact hn
  · rename_i h
    have : valV kvs k = none := by
      have q := valV_any k kvs
      cases z : valV kvs k with
      | none => rfl
      | some y => rw [z] at q; exact absurd q h
    have q := nd_putK v hn this
    unfold putK at q
    rw [if_neg h] at q
    exact q
theorem snoc_ind {α : Type} {P : List α → Prop} (h0 : P []) (h1 : ∀ l a, P l → P (l ++ [a])) : ∀ l, P l := by
  intro l
  have : ∀ n (l : List α), l.length = n → P l := by
    intro n
    induction n with
    | zero => intro l e; rw [List.eq_nil_of_length_eq_zero e]; exact h0
    | succ n ih =>
      intro l e
      have hl : l ≠ [] := by intro z; rw [z] at e; cases e
      rw [← List.dropLast_concat_getLast hl]
      exact h1 _ _ (ih _ (by rw [List.length_dropLast]; omega))
  exact this _ l rfl
theorem putAll_nd : ∀ ps : List (Key × V), ((putAll ps).map (·.1)).Nodup := by
  refine snoc_ind List.nodup_nil (fun l a h => ?_)
  rw [putAll_snoc]
  exact nd_put _ h
theorem putAll_len : ∀ ps : List (Key × V), (putAll ps).length ≤ ps.length := by
  refine snoc_ind (Nat.le_refl _) (fun l a h => ?_)
  rw [putAll_snoc, List.length_append]
  have := length_putK (putAll l) a.1 a.2
  show _ ≤ l.length + 1
  omega
theorem putAll_eq : ∀ ps : List (Key × V), (putAll ps).length = ps.length → putAll ps = ps := by
  refine snoc_ind (fun _ => rfl) (fun l a h hl => ?_)
  rw [putAll_snoc] at hl ⊢
  rw [List.length_append] at hl
  have h1 := length_putK (putAll l) a.1 a.2
  have h2 := putAll_len l
  have hl' : (putK (putAll l) a.1 a.2).length = l.length + 1 := hl
  have e := h (by omega)
  rw [e] at hl' ⊢
  unfold putK at hl' ⊢
  split
  · rename_i c
    rw [if_pos c, List.length_map] at hl'
    omega
  · rfl
theorem valV_mem {κ : Type} [DecidableEq κ] {kvs : List (κ × V)} {k : κ} {v : V} (h : valV kvs k = some v) : (k, v) ∈ kvs := by
  unfold valV at h
  cases z : kvs.find? fun kv => decide (kv.1 = k) with
  | none => rw [z] at h; cases h
  | some p =>
    rw [z] at h
    have e1 : p.2 = v := by simpa using h
    have e2 : p.1 = k := of_decide_eq_true (List.find?_some (p := fun kv : κ × V => decide (kv.1 = k)) z)
    rw [← e1, ← e2]
    exact List.mem_of_find?_eq_some z
theorem valV_some {κ : Type} [DecidableEq κ] {kvs : List (κ × V)} {p : κ × V} (h : p ∈ kvs) : ∃ v, valV kvs p.1 = some v := by
  have q := valV_any p.1 kvs
  have : (kvs.any fun kv => decide (kv.1 = p.1)) = true := List.any_eq_true.mpr ⟨p, h, decide_eq_true rfl⟩
  rw [this] at q
  cases z : valV kvs p.1 with
  | none => rw [z] at q; cases q
  | some v => exact ⟨v, rfl⟩
/-- types and tuples stay -/
structure Et (K : PySem.W.Frag) (H H' : Hp) : Prop where
  tp : ∀ a xs, SqT K H a xs → SqT K H' a xs
  ty : ∀ x t, TyX K H x t → TyX K H' x t
theorem Et.refl {K : PySem.W.Frag} (H : Hp) : Et K H H := ⟨fun _ _ h => h, fun _ _ h => h⟩
theorem Et.trans {K : PySem.W.Frag} {H H1 H2 : Hp} (e : Et K H H1) (f : Et K H1 H2) : Et K H H2 := ⟨fun a xs h => f.tp a xs (e.tp a xs h), fun x t h => f.ty x t (e.ty x t h)⟩
theorem Er.et {K : PySem.W.Frag} {H H' : Hp} (e : Er H H') : Et K H H' := ⟨fun _ _ h => e.sqT h, fun _ _ h => e.ty h⟩
theorem Et.of {K : PySem.W.Frag} {H H' : Hp} (e : Ex H H') : Et K H H' := (Er.of e).et
theorem Et.whole {K : PySem.W.Frag} {H H' : Hp} {x : V} {b : Bool} (e : Et K H H') (h : WholeJ K H x b) : WholeJ K H' x b := by
  obtain ⟨t, b1, b2, h1, h2⟩ := h
  exact ⟨t, b1, b2, e.ty _ _ h1, h2⟩
theorem et_mut {K : PySem.W.Frag} {H : Hp} {p : Addr} {o o' : HO} (h : H p = some o) (hk : (∃ xs ys, o = .lst xs ∧ o' = .lst ys) ∨ ∃ xs ys : List (Key × V), o = .dK xs ∧ o' = .dK ys) : Et K H (upd H p o') := by
  have nt : ∀ a xs, H a = some (.tup xs) → a ≠ p := fun a xs q z => by
    subst z
    rw [h] at q
    rcases hk with ⟨_, _, rfl, _⟩ | ⟨_, _, rfl, _⟩ <;> cases q
  have nf : ∀ a od u, H a = some (.frz od u) → a ≠ p := fun a od xs q z => by
    subst z
    rw [h] at q
    rcases hk with ⟨_, _, rfl, _⟩ | ⟨_, _, rfl, _⟩ <;> cases q
  refine ⟨fun a xs q => ?_, fun x t q => ?_⟩
  · rcases q with (q | ⟨od, q⟩) | q
    · exact .inl (.inl (by rw [upd_ne (nt _ _ q)]; exact q))
    · exact .inl (.inr ⟨od, by rw [upd_ne (nf _ _ _ q)]; exact q⟩)
    · exact .inr q
  · cases q with
    | base b =>
      cases b with
      | non => exact .base .non
      | bl y => exact .base (.bl y)
      | int y => exact .base (.int y)
      | str y => exact .base (.str y)
      | flt y => exact .base (.flt y)
      | @lst a xs q =>
        by_cases c : a = p
        · subst c
          rw [h] at q
          rcases hk with ⟨_, _, rfl, rfl⟩ | ⟨_, _, rfl, _⟩
          · exact .base (.lst upd_same)
          · cases q
        · exact .base (.lst (by rw [upd_ne c]; exact q))
      | frz q => exact .base (.frz (by rw [upd_ne (nf _ _ _ q)]; exact q))
      | tup q => exact .base (.tup (by rw [upd_ne (nt _ _ q)]; exact q))
      | @dK a xs q =>
        by_cases c : a = p
        · subst c
          rw [h] at q
          rcases hk with ⟨_, _, rfl, rfl⟩ | ⟨_, _, rfl, rfl⟩
          · cases q
          · exact .base (.dK upd_same)
        · exact .base (.dK (by rw [upd_ne c]; exact q))
      | @dT a xs q =>
        have c : a ≠ p := fun c => by subst c; rw [h] at q; rcases hk with ⟨_, _, rfl, _⟩ | ⟨_, _, rfl, _⟩ <;> cases q
        exact .base (.dT (by rw [upd_ne c]; exact q))
      | @ins a C dx fs q c1 a1 n1 k1 m1 =>
        have c : a ≠ p := fun c => by subst c; rw [h] at q; rcases hk with ⟨_, _, rfl, _⟩ | ⟨_, _, rfl, _⟩ <;> cases q
        exact .base (.ins (by rw [upd_ne c]; exact q) c1 a1 n1 k1 m1)
    | byt b => exact .byt b
    | @set a S n q =>
      have c : a ≠ p := fun c => by subst c; rw [h] at q; rcases hk with ⟨_, _, rfl, _⟩ | ⟨_, _, rfl, _⟩ <;> cases q
      exact .set (by rw [upd_ne c]; exact q)
    | kList q c => exact .kList q c
    | kTuple q c => exact .kTuple q c
    | kDict q c => exact .kDict q c
    | fTuple q => exact .fTuple (by rw [upd_ne (nf _ _ _ q)]; exact q)
    | fDict q => exact .fDict (by rw [upd_ne (nf _ _ _ q)]; exact q)
theorem Et.lst {K : PySem.W.Frag} {H : Hp} {p : Addr} {xs ys : List V} (h : H p = some (.lst xs)) : Et K H (upd H p (.lst ys)) := et_mut h (.inl ⟨_, _, rfl, rfl⟩)
theorem Et.dK {K : PySem.W.Frag} {H : Hp} {p : Addr} {xs ys : List (Key × V)} (h : H p = some (.dK xs)) : Et K H (upd H p (.dK ys)) := et_mut h (.inr ⟨_, _, rfl, rfl⟩)
/-- a loop over a dict -/
theorem lock_go {t : TS} {D : Ends} {σ : L2.St} {H : Hp} {d : Addr} {kvs : List (Key × V)} (hd : H d = some (.dK kvs))
    (h : ∀ od H1, H1 d = some (.frz od (.dK kvs)) → Er H H1 → (∀ H', Ex H1 H' → Ex H (upd H' d (.dK kvs))) → (∀ a, a ≠ d → H1 a = H a) →
      t ⟨fun σ' H' => H' d = some (.frz od (.dK kvs)) ∧ D.nx σ' (upd H' d (.dK kvs)), fun v H' => H' d = some (.frz od (.dK kvs)) ∧ D.rt v (upd H' d (.dK kvs)), fun σ' H' => H' d = some (.frz od (.dK kvs)) ∧ D.bk σ' (upd H' d (.dK kvs)), fun σ' H' => H' d = some (.frz od (.dK kvs)) ∧ D.ct σ' (upd H' d (.dK kvs))⟩ σ H1) :
    tLock t D σ H := ⟨d, _, hd, trivial, fun od => h od _ upd_same (Er.lock hd) (fun H' e => lock_ex e hd) (fun a c => upd_ne c)⟩
end Gc
/- reading facts along Ex and Er -/
local macro_rules | `(tactic| walk_at "gc_er") => `(tactic| first
  | assumption
  | exact Gc.Er.refl _
  | exact Gc.Er.of (by assumption)
  | (refine' Gc.Er.trans ?h (by assumption); (case h => walk_at "gc_er"))
  | (refine' Gc.Er.trans ?h (Gc.Er.of (by assumption)); (case h => walk_at "gc_er")))
local macro_rules | `(tactic| walk_at "gc_ra") => `(tactic| first
  | assumption
  | exact Evl.st_of (by assumption)
  | exact Evl.sq_of (by assumption)
  | exact L2.Rd.of (by assumption)
  | exact Or.inr ⟨_, by assumption⟩
  | (refine' Gc.Er.sqT (by assumption) ?h; (case h => walk_at "gc_ra"))
  | (refine' Gc.Er.sqL (by assumption) ?h; (case h => walk_at "gc_ra"))
  | (refine' Gc.Er.rd (by assumption) ?h; (case h => walk_at "gc_ra"))
  | (refine' Gc.Er.sqT (Gc.Er.of (by assumption)) ?h; (case h => walk_at "gc_ra"))
  | (refine' Gc.Er.sqL (Gc.Er.of (by assumption)) ?h; (case h => walk_at "gc_ra"))
  | (refine' Gc.Er.rd (Gc.Er.of (by assumption)) ?h; (case h => walk_at "gc_ra")))
local macro_rules | `(tactic| walk_at "gc_et") => `(tactic| first
  | assumption
  | exact Gc.Et.refl _
  | exact Gc.Et.of (by assumption)
  | exact Gc.Er.et (by assumption)
  | exact Gc.Et.lst (by assumption)
  | exact Gc.Et.dK (by assumption)
  | (refine' Gc.Et.trans ?h (by assumption); (case h => walk_at "gc_et"))
  | (refine' Gc.Et.trans ?h (Gc.Et.of (by assumption)); (case h => walk_at "gc_et"))
  | (refine' Gc.Et.trans ?h (Gc.Er.et (by assumption)); (case h => walk_at "gc_et")))

namespace Gc
open PySem L2 Evl
def LIM : Int := 10 ^ 60
inductive NumJ (K : PySem.W.Frag) (H : Hp) : V → Option Int → Prop
  | int (i : Int) : NumJ K H (.int i) (some i)
  | odd {x : V} (h : WholeJ K H x false) : NumJ K H x none
def goodN : Option Int → Bool
  | some i => decide (0 ≤ i) && decide (i < LIM)
  | none => false
def pairB : Option Int → Option Int → Bool
  | some i, some j => goodN (some i) && (goodN (some j) && decide (0 < i + j))
  | _, _ => false
theorem NumJ.et {K : PySem.W.Frag} {H H' : Hp} (e : Et K H H') {x : V} {o : Option Int} (h : NumJ K H x o) : NumJ K H' x o := by
  cases h with
  | int i => exact .int i
  | odd h => exact .odd (e.whole h)
/-- what is_share answers of v -/
inductive ShJ (K : PySem.W.Frag) (H : Hp) : V → Bool → Prop
  | int (i : Int) : ShJ K H (.int i) false
  | oth {a : Addr} {t : String} (h : TyX K H (.ref a) (.type t)) (k : PySem.W.kitOne K (.type t) (.type "tuple") = some false) : ShJ K H (.ref a) false
  | len {a : Addr} {xs : List V} (h : SqT K H a xs) (n : ¬ xs.length = 2) : ShJ K H (.ref a) false
  | two {a : Addr} {x y : V} {o p : Option Int} (h : SqT K H a [x, y]) (hx : NumJ K H x o) (hy : NumJ K H y p) : ShJ K H (.ref a) (pairB o p)
theorem ShJ.et {K : PySem.W.Frag} {H H' : Hp} (e : Et K H H') {v : V} {b : Bool} (h : ShJ K H v b) : ShJ K H' v b := by
  cases h with
  | int i => exact .int i
  | oth h k => exact .oth (e.ty _ _ h) k
  | len h n => exact .len (e.tp _ _ h) n
  | two h hx hy => exact .two (e.tp _ _ h) (hx.et e) (hy.et e)
theorem ShJ.odd {K : PySem.W.Frag} {H : Hp} {a : Addr} {x y : V} {o p : Option Int} (h : SqT K H a [x, y]) (hx : NumJ K H x o) (hy : NumJ K H y p) (e : pairB o p = false) : ShJ K H (.ref a) false := e ▸ .two h hx hy
theorem ShJ.eqj {K : PySem.W.Frag} {H : Hp} {v : V} {b : Bool} (h : ShJ K H v b) : EqJ K H v v true := by
  cases h with
  | int i => exact .inr ⟨.int i, .int i, .int i, .int i, rfl, rfl, by simp [PyData.eqv]⟩
  | oth h k => exact .inl ⟨_, rfl, rfl, rfl⟩
  | len h n => exact .inl ⟨_, rfl, rfl, rfl⟩
  | two h hx hy => exact .inl ⟨_, rfl, rfl, rfl⟩
/-- keys -/
def keyB : Key → Bool
  | .inl _ => false
  | .inr z => nameB z
def keySz : Key → Prop
  | .inl _ => True
  | .inr z => z.length ≤ 100000
/-- a row: the tuple (k, v) -/
def RowAt (K : PySem.W.Frag) (H : Hp) (x : V) (p : Key × V) : Prop := ∃ r, x = .ref r ∧ SqT K H r [kV p.1, p.2]
theorem RowAt.et {K : PySem.W.Frag} {H H' : Hp} (e : Et K H H') {x : V} {p : Key × V} (h : RowAt K H x p) : RowAt K H' x p := by
  obtain ⟨r, h1, h2⟩ := h
  exact ⟨r, h1, e.tp _ _ h2⟩
def RowsAt (K : PySem.W.Frag) (H : Hp) (xs : List V) (ps : List (Key × V)) : Prop := xs.length = ps.length ∧ ∀ (i : Nat) (x : V) (p : Key × V), xs[i]? = some x → ps[i]? = some p → RowAt K H x p
theorem RowsAt.et {K : PySem.W.Frag} {H H' : Hp} (e : Et K H H') {xs : List V} {ps : List (Key × V)} (h : RowsAt K H xs ps) : RowsAt K H' xs ps := ⟨h.1, fun i x p h1 h2 => (h.2 i x p h1 h2).et e⟩
theorem RowsAt.nil {K : PySem.W.Frag} {H : Hp} : RowsAt K H [] [] := ⟨rfl, fun i x p h => by simp at h⟩
theorem RowsAt.snoc {K : PySem.W.Frag} {H : Hp} {xs : List V} {ps : List (Key × V)} {x : V} {p : Key × V} (h : RowsAt K H xs ps) (r : RowAt K H x p) : RowsAt K H (xs ++ [x]) (ps ++ [p]) := by
  refine ⟨by rw [List.length_append, List.length_append, h.1]; rfl, fun i y q h1 h2 => ?_⟩
  by_cases c : i < xs.length
  · rw [List.getElem?_append_left c] at h1
    rw [List.getElem?_append_left (by rw [← h.1]; exact c)] at h2
    exact h.2 i y q h1 h2
  · rw [List.getElem?_append_right (by omega)] at h1
    rw [List.getElem?_append_right (by rw [← h.1]; omega)] at h2
    rw [← h.1] at h2
    have e0 : i - xs.length = 0 := by
      cases z : i - xs.length with
      | zero => rfl
      | succ n => rw [z] at h1; simp at h1
    rw [e0] at h1 h2
    cases h1
    cases h2
    exact r
theorem RowsAt.set {K : PySem.W.Frag} {H : Hp} {xs : List V} {ps : List (Key × V)} {x : V} {p : Key × V} (h : RowsAt K H xs ps) (r : RowAt K H x p) (j : Nat) : RowsAt K H (xs.set j x) (ps.set j p) := by
  refine ⟨by rw [List.length_set, List.length_set, h.1], fun i y q h1 h2 => ?_⟩
  by_cases c : j = i
  · subst c
    rw [List.getElem?_set_self' ] at h1 h2
    cases z1 : xs[j]? with
    | none => rw [z1] at h1; cases h1
    | some a =>
      cases z2 : ps[j]? with
      | none => rw [z2] at h2; cases h2
      | some b =>
        rw [z1] at h1
        rw [z2] at h2
        cases h1
        cases h2
        exact r
  · rw [List.getElem?_set_ne c] at h1 h2
    exact h.2 i y q h1 h2
/-- good rows -/
def AllOk (K : PySem.W.Frag) (H : Hp) (ps : List (Key × V)) : Prop := ∀ p ∈ ps, keyB p.1 = true ∧ ShJ K H p.2 true
/-- one row is odd: its key or its share -/
def OneOdd (K : PySem.W.Frag) (H : Hp) (ps : List (Key × V)) : Prop := ∃ p0 ∈ ps, ∃ b : Bool, ShJ K H p0.2 b ∧ (keyB p0.1 && b) = false ∧ ∀ p ∈ ps, p = p0 ∨ ShJ K H p.2 true
theorem AllOk.et {K : PySem.W.Frag} {H H' : Hp} (e : Et K H H') {ps : List (Key × V)} (h : AllOk K H ps) : AllOk K H' ps := fun p hp => ⟨(h p hp).1, (h p hp).2.et e⟩
theorem OneOdd.et {K : PySem.W.Frag} {H H' : Hp} (e : Et K H H') {ps : List (Key × V)} (h : OneOdd K H ps) : OneOdd K H' ps := by
  obtain ⟨p0, h0, b, h1, h2, h3⟩ := h
  exact ⟨p0, h0, b, h1.et e, h2, fun p hp => (h3 p hp).imp_right fun q => q.et e⟩
/-- what is_page is told of a dict -/
def PageJ (K : PySem.W.Frag) (H : Hp) (kvs : List (Key × V)) (g : Bool) : Prop :=
  (∀ p ∈ kvs, keySz p.1) ∧ kvs.length ≤ 1000 ∧ ∃ f : Key → Bool, (∀ k v, valV kvs k = some v → ShJ K H v (f k)) ∧ g = (decide (((kvs.length : Nat) : Int) ≤ 200) && kvs.all fun p => keyB p.1 && f p.1)
theorem PageJ.et {K : PySem.W.Frag} {H H' : Hp} (e : Et K H H') {kvs : List (Key × V)} {g : Bool} (h : PageJ K H kvs g) : PageJ K H' kvs g := by
  obtain ⟨h1, h2, f, h3, h4⟩ := h
  exact ⟨h1, h2, f, fun k v q => (h3 k v q).et e, h4⟩
theorem pageJ_ok {K : PySem.W.Frag} {H : Hp} {ps : List (Key × V)} (hs : ∀ p ∈ ps, keySz p.1) (hl : ps.length ≤ 1000) (h : AllOk K H ps) : PageJ K H ps (decide (((ps.length : Nat) : Int) ≤ 200)) := by
  refine ⟨hs, hl, fun _ => true, fun k v q => (h _ (valV_mem q)).2, ?_⟩
  have : (ps.all fun p => keyB p.1 && true) = true := List.all_eq_true.mpr fun p hp => by rw [(h p hp).1]; rfl
  rw [this, Bool.and_true]
theorem pageJ_odd {K : PySem.W.Frag} {H : Hp} {ps : List (Key × V)} (hs : ∀ p ∈ ps, keySz p.1) (hl : ps.length ≤ 1000) (nd : (ps.map (·.1)).Nodup) (h : OneOdd K H ps) : PageJ K H ps false := by
  obtain ⟨p0, h0, b, h1, h2, h3⟩ := h
  refine ⟨hs, hl, fun k => if k = p0.1 then b else true, fun k v q => ?_, ?_⟩
  · show ShJ K H v (if k = p0.1 then b else true)
    by_cases c : k = p0.1
    · rw [if_pos c]
      rw [c, val_nodup nd p0 h0] at q
      cases q
      exact h1
    · rw [if_neg c]
      rcases h3 _ (valV_mem q) with z | z
      · exact absurd (congrArg Prod.fst z) c
      · exact z
  · have : (ps.all fun p => keyB p.1 && (if p.1 = p0.1 then b else true)) = false := by
      refine List.all_eq_false.mpr ⟨p0, h0, ?_⟩
      show ¬ (keyB p0.1 && (if p0.1 = p0.1 then b else true)) = true
      rw [if_pos rfl, h2]
      exact Bool.false_ne_true
    rw [this, Bool.and_false]
theorem dictEq_self {ps : List (Key × V)} : dictEqB ps ps (fun _ => true) = true := by
  unfold dictEqB
  have : (ps.all fun p => (valV ps p.1).isSome && true) = true := List.all_eq_true.mpr fun p hp => by
    obtain ⟨v, hv⟩ := valV_some hp
    rw [hv]; rfl
  rw [this, decide_eq_true rfl]
  rfl
def mixedI (c k : Int) : Int := (c % 1000000007 + 7919 * k + 11) * 48271 % 2147483647
theorem mixed_0 (c k : Int) : 0 ≤ mixedI c k := Int.emod_nonneg _ (by decide)
theorem numberBy_in {c : Int} (h : 0 ≤ c) : 0 ≤ numberBy c ∧ numberBy c < LIM := by
  unfold numberBy
  have e : LIM = 10 ^ 60 := rfl
  split
  · rename_i h1
    have a1 := Int.emod_nonneg (c / 5) (show (3 : Int) ≠ 0 by decide)
    have a2 := Int.emod_lt_of_pos (c / 5) (show (0 : Int) < 3 by decide)
    have b1 := Int.emod_nonneg c (show (5 : Int) ≠ 0 by decide)
    have hc : c % 5 = 0 ∨ c % 5 = 1 := by omega
    rcases hc with z | z <;> rw [z, e] <;> omega
  · split
    · rw [e]; omega
    · split
      · rw [e]
        exact ⟨Int.emod_nonneg _ (by decide), Int.emod_lt_of_pos _ (by decide)⟩
      · rw [e]; omega
theorem nameB_iff (z : Str) : nameB z = true ↔ (1 ≤ z.length ∧ z.length ≤ 8 ∧ ∀ c ∈ z.cps.toList, c ∈ LET.cps.toList) := by
  unfold nameB
  rw [Bool.and_eq_true, Bool.and_eq_true, decide_eq_true_eq, decide_eq_true_eq, List.all_eq_true]
  constructor
  · rintro ⟨h1, h2, h3⟩
    exact ⟨by omega, by omega, fun c hc => of_decide_eq_true (h3 c hc)⟩
  · rintro ⟨h1, h2, h3⟩
    exact ⟨by omega, by omega, fun c hc => decide_eq_true (h3 c hc)⟩
theorem app_tl (a b : Str) : (a ++ b).cps.toList = a.cps.toList ++ b.cps.toList := Array.toList_append
theorem app_len (a b : Str) : (a ++ b).length = a.length + b.length := Array.size_append
theorem cut_tl (z : Str) (n : Nat) : (cutS z none (some (n : Int))).cps.toList = z.cps.toList.take n := by
  show List.take (HT.sIx z.length z.length (some (n : Int)) - HT.sIx z.length 0 none) (List.drop (HT.sIx z.length 0 none) z.cps.toList) = _
  rw [HT.sIx_none, HT.sIx_nat, List.drop_zero, Nat.sub_zero]
  by_cases c : n ≤ z.length
  · rw [Nat.min_eq_left c]
  · rw [Nat.min_eq_right (by omega), List.take_of_length_le (by rw [tl_len]; omega), List.take_of_length_le (by rw [tl_len]; omega)]
theorem cut_len (z : Str) (n : Nat) : (cutS z none (some (n : Int))).length = min n z.length := by
  rw [← tl_len, cut_tl, List.length_take, tl_len]
theorem nameB_sg (cs : List Nat) (h1 : 1 ≤ cs.length) (h8 : cs.length ≤ 8) (h : ∀ c ∈ cs, c ∈ LET.cps.toList) : nameB ⟨cs.toArray⟩ = true :=
  (nameB_iff _).mpr ⟨h1, h8, h⟩
theorem nameB_mix {c1 c2 : Nat} {z : Str} (h1 : c1 ∈ LET.cps.toList) (h2 : c2 ∈ LET.cps.toList) (hz : nameB z = true) : nameB ((⟨#[c1]⟩ ++ ⟨#[c2]⟩ : Str) ++ cutS z none (some 6)) = true := by
  obtain ⟨a1, a2, a3⟩ := (nameB_iff _).mp hz
  have e6 := cut_len z 6
  refine (nameB_iff _).mpr ⟨?_, ?_, fun c hc => ?_⟩
  · rw [app_len, app_len]; show 1 ≤ 1 + 1 + _; omega
  · rw [app_len, app_len]
    show 1 + 1 + (cutS z none (some ((6 : Nat) : Int))).length ≤ 8
    omega
  · rw [app_tl, app_tl] at hc
    rcases List.mem_append.mp hc with hc | hc
    · rcases List.mem_append.mp hc with hc | hc
      · rw [List.mem_singleton.mp hc]; exact h1
      · rw [List.mem_singleton.mp hc]; exact h2
    · have hc' : c ∈ (cutS z none (some ((6 : Nat) : Int))).cps.toList := hc
      rw [cut_tl] at hc'
      exact a3 c (List.mem_of_mem_take hc')
theorem nameB_ab {c : Nat} (h : c ∈ (" A1-" : Str).cps.toList) : nameB (("ab" : Str) ++ ⟨#[c]⟩) = false := by
  cases q : nameB (("ab" : Str) ++ ⟨#[c]⟩) with
  | false => rfl
  | true =>
    obtain ⟨_, _, a3⟩ := (nameB_iff _).mp q
    have h3 := a3 c (by rw [app_tl]; exact List.mem_append_right _ (List.mem_singleton.mpr rfl))
    have : ∀ x ∈ (" A1-" : Str).cps.toList, ¬ x ∈ LET.cps.toList := by decide +kernel
    exact absurd h3 (this c h)
theorem nameB_cut {n : Nat} (h : 1 ≤ n) : nameB (cutS "abcdefgh" none (some (n : Int))) = true := by
  have e : ("abcdefgh" : Str).length = 8 := by decide +kernel
  refine (nameB_iff _).mpr ⟨?_, ?_, fun c hc => ?_⟩
  · rw [cut_len, e]; omega
  · rw [cut_len, e]; omega
  · rw [cut_tl] at hc
    have : ∀ x ∈ ("abcdefgh" : Str).cps.toList, x ∈ LET.cps.toList := by decide +kernel
    exact this c (List.mem_of_mem_take hc)
theorem pair_at {K : PySem.W.Frag} {H : Hp} {x y z : V} {o p : Option Int} {i : Nat} (hx : NumJ K H x o) (hy : NumJ K H y p) (h : [x, y][i]? = some z) :
    ∃ oz, NumJ K H z oz ∧ [goodN o, goodN p][i]? = some (goodN oz) ∧ (goodN oz = false → pairB o p = false) := by
  match i, h with
  | 0, h =>
    cases h
    refine ⟨o, hx, rfl, fun q => ?_⟩
    cases o with
    | none => rfl
    | some a =>
      cases p with
      | none => rfl
      | some b => show (goodN (some a) && (goodN (some b) && decide (0 < a + b))) = false; rw [q, Bool.false_and]
  | 1, h =>
    cases h
    refine ⟨p, hy, rfl, fun q => ?_⟩
    cases o with
    | none => rfl
    | some a =>
      cases p with
      | none => rfl
      | some b => show (goodN (some a) && (goodN (some b) && decide (0 < a + b))) = false; rw [q, Bool.false_and, Bool.and_false]
theorem pair_end {o p : Option Int} (h0 : goodN o = true) (h1 : goodN p = true) : ∃ i j, o = some i ∧ p = some j ∧ pairB o p = decide (0 < i + j) := by
  cases o with
  | none => cases h0
  | some i =>
    cases p with
    | none => cases h1
    | some j =>
      refine ⟨i, j, rfl, rfl, ?_⟩
      show (goodN (some i) && (goodN (some j) && decide (0 < i + j))) = _
      rw [h0, h1, Bool.true_and, Bool.true_and]
theorem pairL {i : Int} {p : Option Int} (h : i < 0 ∨ LIM ≤ i) : pairB (some i) p = false := by
  have e : goodN (some i) = false := by
    show (decide (0 ≤ i) && decide (i < LIM)) = false
    rcases h with h | h
    · rw [decide_eq_false (by omega), Bool.false_and]
    · rw [decide_eq_false (p := i < LIM) (by omega), Bool.and_false]
  cases p with
  | none => rfl
  | some b => show (goodN (some i) && _) = false; rw [e, Bool.false_and]
theorem pairR {i : Int} {p : Option Int} (h : i < 0 ∨ LIM ≤ i) : pairB p (some i) = false := by
  have e : goodN (some i) = false := by
    show (decide (0 ≤ i) && decide (i < LIM)) = false
    rcases h with h | h
    · rw [decide_eq_false (by omega), Bool.false_and]
    · rw [decide_eq_false (p := i < LIM) (by omega), Bool.and_false]
  cases p with
  | none => rfl
  | some b => show (goodN (some b) && (goodN (some i) && _)) = false; rw [e, Bool.false_and, Bool.and_false]
theorem allOk_set {K : PySem.W.Frag} {H : Hp} {ps : List (Key × V)} {p : Key × V} (h : AllOk K H ps) (hk : keyB p.1 = true) (hs : ShJ K H p.2 true) (j : Nat) : AllOk K H (ps.set j p) := fun q hq => by
  rcases List.mem_or_eq_of_mem_set hq with c | c
  · exact h q c
  · rw [c]; exact ⟨hk, hs⟩
theorem oneOdd_set {K : PySem.W.Frag} {H : Hp} {ps : List (Key × V)} {p : Key × V} (h : AllOk K H ps) {j : Nat} (hj : j < ps.length) (b : Bool) (hs : ShJ K H p.2 b) (e : (keyB p.1 && b) = false) : OneOdd K H (ps.set j p) :=
  ⟨p, List.mem_set hj p, b, hs, e, fun q hq => (List.mem_or_eq_of_mem_set hq).elim (fun c => .inr (h q c).2) .inl⟩
theorem keySz_set {ps : List (Key × V)} {p : Key × V} (h : ∀ p ∈ ps, keySz p.1) (hk : keySz p.1) (j : Nat) : ∀ q ∈ ps.set j p, keySz q.1 := fun q hq => by
  rcases List.mem_or_eq_of_mem_set hq with c | c
  · exact h q c
  · rw [c]; exact hk
theorem pageJ_nil {K : PySem.W.Frag} {H : Hp} : PageJ K H [] true := ⟨fun p hp => (by cases hp), Nat.zero_le _, fun _ => true, fun k v q => (by cases q), rfl⟩
theorem AllOk.eqj {K : PySem.W.Frag} {H : Hp} {ps : List (Key × V)} (nd : (ps.map (·.1)).Nodup) (h : ∀ p ∈ ps, ∃ b, ShJ K H p.2 b) : ∀ p ∈ ps, ∀ v', valV ps p.1 = some v' → EqJ K H p.2 v' true := fun p hp v' hv => by
  rw [val_nodup nd p hp] at hv
  cases hv
  obtain ⟨b, hb⟩ := h p hp
  exact hb.eqj
end Gc

namespace Gc
open PySem L2 Evl
def top (i : Nat) : Stmt := PySem.Challenge.pw_gossipcount_k04_pages_or_not.main.body.getD i (.Pass ⟨0, 0, 0, 0⟩)
abbrev s_l_name_by : Stmt := top 13
abbrev s_l_number_by : Stmt := top 12
abbrev s_l_mixed : Stmt := top 14
abbrev s_l_rows_by : Stmt := top 16
abbrev s_l_cell_at : Stmt := top 11
abbrev s_l_truth : Stmt := top 15
abbrev s_is_name : Stmt := top 4
abbrev s_is_whole : Stmt := top 3
abbrev s_is_share : Stmt := top 8
abbrev s_is_page : Stmt := top 9
abbrev s_l_odd_name : Stmt := top 17
abbrev s_l_odd_share : Stmt := top 18
abbrev s_law_k04 : Stmt := top 19
theorem sc_l_name_by : FnScope ["_law_cell", "_law_signs", "_law_step", "_law_word", "_law_k"] ["_law_cell"] (defScope s_l_name_by) := ⟨rfl, rfl, rfl, by decide +kernel, rfl, by decide +kernel, by decide +kernel⟩
theorem sc_l_number_by : FnScope ["_law_cell", "_law_kind"] ["_law_cell"] (defScope s_l_number_by) := ⟨rfl, rfl, rfl, by decide +kernel, rfl, by decide +kernel, by decide +kernel⟩
theorem sc_l_mixed : FnScope ["_law_cell", "_law_k"] ["_law_cell", "_law_k"] (defScope s_l_mixed) := ⟨rfl, rfl, rfl, by decide +kernel, rfl, by decide +kernel, by decide +kernel⟩
theorem sc_l_rows_by : FnScope ["_law_names", "_law_shares", "_law_size", "_law_rows", "_law_k", "_law_share", "_law_name", "_law_signs"] ["_law_names", "_law_shares", "_law_size"] (defScope s_l_rows_by) := ⟨rfl, rfl, rfl, by decide +kernel, rfl, by decide +kernel, by decide +kernel⟩
theorem sc_l_cell_at : FnScope ["_law_script", "_law_k"] ["_law_script", "_law_k"] (defScope s_l_cell_at) := ⟨rfl, rfl, rfl, by decide +kernel, rfl, by decide +kernel, by decide +kernel⟩
theorem sc_l_truth : FnScope ["_law_found", "_law_due"] ["_law_found", "_law_due"] (defScope s_l_truth) := ⟨rfl, rfl, rfl, by decide +kernel, rfl, by decide +kernel, by decide +kernel⟩
theorem sc_is_name : FnScope ["thing", "sign"] ["thing"] (defScope s_is_name) := ⟨rfl, rfl, rfl, by decide +kernel, rfl, by decide +kernel, by decide +kernel⟩
theorem sc_is_whole : FnScope ["thing"] ["thing"] (defScope s_is_whole) := ⟨rfl, rfl, rfl, by decide +kernel, rfl, by decide +kernel, by decide +kernel⟩
theorem sc_is_share : FnScope ["thing", "number"] ["thing"] (defScope s_is_share) := ⟨rfl, rfl, rfl, by decide +kernel, rfl, by decide +kernel, by decide +kernel⟩
theorem sc_is_page : FnScope ["thing", "name"] ["thing"] (defScope s_is_page) := ⟨rfl, rfl, rfl, by decide +kernel, rfl, by decide +kernel, by decide +kernel⟩
theorem sc_l_odd_name : FnScope ["_law_cell", "_law_kind"] ["_law_cell"] (defScope s_l_odd_name) := ⟨rfl, rfl, rfl, by decide +kernel, rfl, by decide +kernel, by decide +kernel⟩
theorem sc_l_odd_share : FnScope ["_law_cell", "_law_far", "_law_shares"] ["_law_cell"] (defScope s_l_odd_share) := ⟨rfl, rfl, rfl, by decide +kernel, rfl, by decide +kernel, by decide +kernel⟩
theorem sc_law_k04 : FnScope ["_law_script", "_law_size", "_law_rows", "_law_cell", "_law_good", "_law_at", "_law_page", "_law_row", "_law_handed"] ["_law_script"] (defScope s_law_k04) := ⟨rfl, rfl, rfl, by decide +kernel, rfl, by decide +kernel, by decide +kernel⟩
structure Tx (K : PySem.W.Frag) (mg : Str → Option Value) where
  f_l_name_by : Addr
  fd_l_name_by : FuncData
  f_l_number_by : Addr
  fd_l_number_by : FuncData
  f_l_mixed : Addr
  fd_l_mixed : FuncData
  f_l_rows_by : Addr
  fd_l_rows_by : FuncData
  f_l_cell_at : Addr
  fd_l_cell_at : FuncData
  f_l_truth : Addr
  fd_l_truth : FuncData
  f_is_name : Addr
  fd_is_name : FuncData
  f_is_whole : Addr
  fd_is_whole : FuncData
  f_is_share : Addr
  fd_is_share : FuncData
  f_is_page : Addr
  fd_is_page : FuncData
  f_l_odd_name : Addr
  fd_l_odd_name : FuncData
  f_l_odd_share : Addr
  fd_l_odd_share : FuncData
  f_law_k04 : Addr
  fd_law_k04 : FuncData
  F_l_name_by : Fun K "_law_name_by" "_law_name_by" s_l_name_by f_l_name_by fd_l_name_by
  b_l_name_by : Binds K fd_l_name_by ["_law_cell"] []
  m_l_name_by : mg "_law_name_by" = some (.ref f_l_name_by)
  F_l_number_by : Fun K "_law_number_by" "_law_number_by" s_l_number_by f_l_number_by fd_l_number_by
  b_l_number_by : Binds K fd_l_number_by ["_law_cell"] []
  m_l_number_by : mg "_law_number_by" = some (.ref f_l_number_by)
  F_l_mixed : Fun K "_law_mixed" "_law_mixed" s_l_mixed f_l_mixed fd_l_mixed
  b_l_mixed : Binds K fd_l_mixed ["_law_cell", "_law_k"] []
  m_l_mixed : mg "_law_mixed" = some (.ref f_l_mixed)
  F_l_rows_by : Fun K "_law_rows_by" "_law_rows_by" s_l_rows_by f_l_rows_by fd_l_rows_by
  b_l_rows_by : Binds K fd_l_rows_by ["_law_names", "_law_shares", "_law_size"] []
  m_l_rows_by : mg "_law_rows_by" = some (.ref f_l_rows_by)
  F_l_cell_at : Fun K "_law_cell_at" "_law_cell_at" s_l_cell_at f_l_cell_at fd_l_cell_at
  b_l_cell_at : Binds K fd_l_cell_at ["_law_script", "_law_k"] []
  m_l_cell_at : mg "_law_cell_at" = some (.ref f_l_cell_at)
  F_l_truth : Fun K "_law_truth" "_law_truth" s_l_truth f_l_truth fd_l_truth
  b_l_truth : Binds K fd_l_truth ["_law_found", "_law_due"] []
  m_l_truth : mg "_law_truth" = some (.ref f_l_truth)
  F_is_name : Fun K "is_name" "is_name" s_is_name f_is_name fd_is_name
  b_is_name : Binds K fd_is_name ["thing"] []
  m_is_name : mg "is_name" = some (.ref f_is_name)
  F_is_whole : Fun K "is_whole" "is_whole" s_is_whole f_is_whole fd_is_whole
  b_is_whole : Binds K fd_is_whole ["thing"] []
  m_is_whole : mg "is_whole" = some (.ref f_is_whole)
  F_is_share : Fun K "is_share" "is_share" s_is_share f_is_share fd_is_share
  b_is_share : Binds K fd_is_share ["thing"] []
  m_is_share : mg "is_share" = some (.ref f_is_share)
  F_is_page : Fun K "is_page" "is_page" s_is_page f_is_page fd_is_page
  b_is_page : Binds K fd_is_page ["thing"] []
  m_is_page : mg "is_page" = some (.ref f_is_page)
  F_l_odd_name : Fun K "_law_odd_name" "_law_odd_name" s_l_odd_name f_l_odd_name fd_l_odd_name
  b_l_odd_name : Binds K fd_l_odd_name ["_law_cell"] []
  m_l_odd_name : mg "_law_odd_name" = some (.ref f_l_odd_name)
  F_l_odd_share : Fun K "_law_odd_share" "_law_odd_share" s_l_odd_share f_l_odd_share fd_l_odd_share
  b_l_odd_share : Binds K fd_l_odd_share ["_law_cell"] []
  m_l_odd_share : mg "_law_odd_share" = some (.ref f_l_odd_share)
  F_law_k04 : Fun K "law" "law" s_law_k04 f_law_k04 fd_law_k04
  b_law_k04 : Binds K fd_law_k04 ["_law_script"] []
  m_law_k04 : mg "law" = some (.ref f_law_k04)
  t_LETTERS : Tok
  c_LETTERS : mg "LETTERS" = some (.str "abcdefghijklmnopqrstuvwxyz" t_LETTERS)
  t_LIMIT : Tok
  c_LIMIT : mg "LIMIT" = some (.int 1000000000000000000000000000000000000000000000000000000000000 t_LIMIT)
  t_LONGEST : Tok
  c_LONGEST : mg "LONGEST" = some (.int 8 t_LONGEST)
  t_MOST_NAMES : Tok
  c_MOST_NAMES : mg "MOST_NAMES" = some (.int 200 t_MOST_NAMES)
  n_all : mg "all" = none
  n_bool : mg "bool" = none
  n_dict : mg "dict" = none
  n_int : mg "int" = none
  n_isinstance : mg "isinstance" = none
  n_len : mg "len" = none
  n_range : mg "range" = none
  n_str : mg "str" = none
  n_tuple : mg "tuple" = none
section
variable {P : Program} {w : World} {K : PySem.W.Frag} {mg : Str → Option Value} {base : Heap}
/-- name_by(c): some name -/
def sp_name_by : Sp := fun vs H Q _ => ∃ c : Int, vs = [.int c] ∧ ∀ z : Str, nameB z = true → ∀ H', Ex H H' → Q (.str z) H'
theorem ok_l_name_by (T : Tx K mg) : FnOk P w K mg base CX0 1 T.f_l_name_by T.fd_l_name_by ["_law_cell"] (sp_name_by) := by
  refine T.F_l_name_by.ok sc_l_name_by (fun vs H Q E h => ?_) (fun cdv A outer s H vs Q E hr h => ?_)
  · first | (obtain ⟨rfl, _⟩ := h; rfl) | (obtain ⟨_, rfl, _⟩ := h; rfl) | (obtain ⟨_, _, rfl, _⟩ := h; rfl) | (obtain ⟨_, _, _, rfl, _⟩ := h; rfl) | (obtain ⟨_, _, _, _, rfl, _⟩ := h; rfl) | (obtain ⟨_, _, _, _, _, rfl, _⟩ := h; rfl) | (obtain ⟨_, _, _, _, _, _, rfl, _⟩ := h; rfl) | (obtain ⟨_, _, _, _, _, _, _, rfl, _⟩ := h; rfl) | (obtain ⟨_, _, _, _, _, _, _, _, rfl, _⟩ := h; rfl)
  · obtain ⟨c, rfl, k⟩ := h
    refine ⟨_, (pss_cons (ps_set (i := 1) sc_l_name_by.nd rfl (Or.inr rfl) pe_str) (pss_cons (ps_set (i := 2) sc_l_name_by.nd rfl (Or.inr rfl) (pe_op op_add pe_int (pe_op op_mod (pe_op op_fdiv (pv 0) pe_int) pe_int))) (pss_cons (ps_setLc (i := 3) (own := [("_law_k", 4)]) (g := gName 4) (tt := tYes) rfl sc_l_name_by.nd rfl rfl (sw_true rfl rfl rfl (by decide +kernel)) (pi_range1 rfl T.n_range (pa_cons (pe_op op_add pe_int (pe_op op_mod (pv 0) pe_int)) pa_nil)) (blkOk_by (own := [("_law_k", 4)]) (N := ["_law_cell", "_law_signs", "_law_step", "_law_word", "_law_k"]) (sc := defScope s_l_name_by) (by decide +kernel)) (fun _ _ _ _ _ => pg_name (i := 4) sc_l_name_by.nd rfl (Or.inl rfl)) (fun _ _ _ _ _ => pts_nil) (fun _ _ _ _ _ => (pe_ix ix_str (pv 1) (pe_op op_mod (pe_op op_add (pe_op op_fdiv (pv 0) pe_int) (pe_op op_mul (pv 4) (pv 2))) pe_int) (fun _ _ => rfl)))) (pss_cut (ps_if (pt_cmpR op_eq (pe_op op_mod (pe_op op_fdiv (pv 0) pe_int) pe_int) pe_int (nomark _)) (pss_one (ps_asg (pe_ix ix_str (pv 1) (pe_op op_mod (pe_op op_fdiv (pv 0) pe_int) pe_int) (fun _ _ => rfl)) (pg_sub (pv 3) (pe_op op_mod (pe_op op_fdiv (pv 0) pe_int) (pe_callB call_len_seq (by rfl) T.n_len PySem.boot_len (pa_cons (pv 3) pa_nil))) set_list))) pss_nil) (pss_one (ps_ret (pe_join pe_str (pv 3)))))))), ?_⟩
    have m8 := mod_in (a := c) (b := 8) (by decide)
    walk_at "gc"
    rename_i D hD
    refine Gc.lc_go (walk_range (lo := 0) (n := (1 + c % 8).toNat)) (fun i acc _ => Signs (fun x => x ∈ LET.cps.toList) acc ∧ acc.length = i) (by omega) hD (fun _ _ => trivial) (fun _ _ _ _ h => h) (fun _ _ => ⟨Signs.nil, rfl⟩) (fun i x acc H2 Kk Nn hi hy e hD2 p hK hN => ?_) (fun acc H2 e hD2 p => ?_)
    · have ex : x = .int (0 + (i : Int)) := hy
      subst ex
      have m := mod_in (a := c / 8 + (0 + (i : Int)) * (1 + c / 208 % 25)) (b := 26) (by decide)
      obtain ⟨s, hs, hmem⟩ := atI_in (xs := LET.cps.toList) m.1 m.2
      walk_at "gc"
      exact hK _ _ (Ex.refl _) ⟨p.1.one hmem, by rw [List.length_append, List.length_singleton, p.2]⟩
    refine ⟨fun σ' H' => Hold (∃ xs v1 v2 v3, σ' = [v1, v2, v3, some (.ref D), none] ∧ Signs (fun x => x ∈ LET.cps.toList) xs ∧ xs.length = (1 + c % 8).toNat ∧ H' D = some (.lst xs) ∧ Ex H H'), ?_, fun σ' H' hm => ?_⟩
    · walk_at "gc"
      refine Gc.eqI_2 (fun c1 => ?_) (fun c1 => ?_)
      · have m1 := mod_in (a := c / 83200) (b := 26) (by decide)
        have m2 := mod_in (a := c / 10400) (b := ((acc.length : Nat) : Int)) (by have := p.2; omega)
        obtain ⟨s, hs, hmem⟩ := atI_in (xs := LET.cps.toList) m1.1 m1.2
        have q := ixN_in (n := acc.length) m2.1 m2.2
        walk_at "gc"
        exact ⟨⟨_, _, _, _, rfl, p.1.put hmem _, by rw [List.length_set]; exact p.2, upd_same, Ex.mut e hD⟩⟩
      · exact ⟨⟨_, _, _, _, rfl, p.1, p.2, hD2, e⟩⟩
    obtain ⟨⟨xs, v1, v2, v3, rfl, hS, hl, hx, he⟩⟩ := hm
    obtain ⟨cs, rfl, hc⟩ := hS
    rw [List.length_map, List.length_map] at hl
    have hsz := sg_size cs (by omega)
    walk_at "gc"
    rw [join_sg]
    exact k ⟨cs.toArray⟩ (nameB_sg cs (by omega) (by omega) hc) _ he
theorem ok_l_number_by (T : Tx K mg) : FnOk P w K mg base CX0 1 T.f_l_number_by T.fd_l_number_by ["_law_cell"] (sp_i1 numberBy) := by
  refine T.F_l_number_by.ok sc_l_number_by (fun vs H Q E h => ?_) (fun cdv A outer s H vs Q E hr h => ?_)
  · first | (obtain ⟨rfl, _⟩ := h; rfl) | (obtain ⟨_, rfl, _⟩ := h; rfl) | (obtain ⟨_, _, rfl, _⟩ := h; rfl) | (obtain ⟨_, _, _, rfl, _⟩ := h; rfl) | (obtain ⟨_, _, _, _, rfl, _⟩ := h; rfl) | (obtain ⟨_, _, _, _, _, rfl, _⟩ := h; rfl) | (obtain ⟨_, _, _, _, _, _, rfl, _⟩ := h; rfl) | (obtain ⟨_, _, _, _, _, _, _, rfl, _⟩ := h; rfl) | (obtain ⟨_, _, _, _, _, _, _, _, rfl, _⟩ := h; rfl)
  · obtain ⟨c, rfl, k⟩ := h
    refine ⟨_, (pss_cons (ps_set (i := 1) sc_l_number_by.nd rfl (Or.inl rfl) (pe_op op_mod (pv 0) pe_int)) (pss_cons (ps_if (pt_cmpR op_lt (pv 1) pe_int (nomark _)) (pss_one (ps_ret (pe_op op_mul (pe_op op_mod (pe_op op_fdiv (pv 0) pe_int) pe_int) (pv 1)))) pss_nil) (pss_cons (ps_if (pt_cmpR op_eq (pv 1) pe_int (nomark _)) (pss_one (ps_ret (pe_op op_mod (pe_op op_fdiv (pv 0) pe_int) pe_int))) pss_nil) (pss_cons (ps_if (pt_cmpR op_eq (pv 1) pe_int (nomark _)) (pss_one (ps_ret (pe_op op_mod (pe_op op_fdiv (pv 0) pe_int) (pe_op op_pow pe_int pe_int)))) pss_nil) (pss_one (ps_ret (pe_op op_sub (pe_op op_sub (pe_op op_pow pe_int pe_int) pe_int) (pe_op op_mod (pe_op op_fdiv (pv 0) pe_int) pe_int)))))))), ?_⟩
    walk_at "gc"
    refine Gc.lt_2 (fun h1 => ?_) (fun h1 => ?_)
    · walk_at "gc"
      have e : numberBy c = c / 5 % 3 * (c % 5) := if_pos h1
      rw [e] at k
      exact k
    walk_at "gc"
    refine Gc.eqI_2 (fun h2 => ?_) (fun h2 => ?_)
    · walk_at "gc"
      have e : numberBy c = c / 5 % 1000 := (if_neg h1).trans (if_pos h2)
      rw [e] at k
      exact k
    walk_at "gc"
    refine Gc.eqI_2 (fun h3 => ?_) (fun h3 => ?_)
    · walk_at "gc"
      have e : numberBy c = c / 5 % 10 ^ 60 := (if_neg h1).trans ((if_neg h2).trans (if_pos h3))
      rw [e] at k
      exact k
    walk_at "gc"
    have e : numberBy c = 10 ^ 60 - 1 - c / 5 % 1000 := (if_neg h1).trans ((if_neg h2).trans (if_neg h3))
    rw [e] at k
    exact k
theorem ok_l_mixed (T : Tx K mg) : FnOk P w K mg base CX0 1 T.f_l_mixed T.fd_l_mixed ["_law_cell", "_law_k"] (sp_i2 mixedI) := by
  refine T.F_l_mixed.ok sc_l_mixed (fun vs H Q E h => ?_) (fun cdv A outer s H vs Q E hr h => ?_)
  · first | (obtain ⟨rfl, _⟩ := h; rfl) | (obtain ⟨_, rfl, _⟩ := h; rfl) | (obtain ⟨_, _, rfl, _⟩ := h; rfl) | (obtain ⟨_, _, _, rfl, _⟩ := h; rfl) | (obtain ⟨_, _, _, _, rfl, _⟩ := h; rfl) | (obtain ⟨_, _, _, _, _, rfl, _⟩ := h; rfl) | (obtain ⟨_, _, _, _, _, _, rfl, _⟩ := h; rfl) | (obtain ⟨_, _, _, _, _, _, _, rfl, _⟩ := h; rfl) | (obtain ⟨_, _, _, _, _, _, _, _, rfl, _⟩ := h; rfl)
  · obtain ⟨c, e, rfl, k⟩ := h
    refine ⟨_, (pss_one (ps_ret (pe_op op_mod (pe_op op_mul (pe_op op_add (pe_op op_add (pe_op op_mod (pv 0) pe_int) (pe_op op_mul pe_int (pv 1))) pe_int) pe_int) pe_int))), ?_⟩
    walk_at "gc"
    exact k
/-- rows_by(.., size): good rows -/
def sp_rows_by (K : PySem.W.Frag) : Sp := fun vs H Q _ => ∃ n m s : Int, vs = [.int n, .int m, .int s] ∧ 0 ≤ s ∧ s ≤ 600 ∧ ∀ p xs ps H', H p = none → Ex H H' → H' p = some (.lst xs) → RowsAt K H' xs ps → AllOk K H' ps → (∀ p ∈ ps, keySz p.1) → ps.length = s.toNat → Q (.ref p) H'
theorem ok_l_rows_by (T : Tx K mg) : FnOk P w K mg base CX0 2 T.f_l_rows_by T.fd_l_rows_by ["_law_names", "_law_shares", "_law_size"] (sp_rows_by K) := by
  refine T.F_l_rows_by.ok sc_l_rows_by (fun vs H Q E h => ?_) (fun cdv A outer s H vs Q E hr h => ?_)
  · first | (obtain ⟨rfl, _⟩ := h; rfl) | (obtain ⟨_, rfl, _⟩ := h; rfl) | (obtain ⟨_, _, rfl, _⟩ := h; rfl) | (obtain ⟨_, _, _, rfl, _⟩ := h; rfl) | (obtain ⟨_, _, _, _, rfl, _⟩ := h; rfl) | (obtain ⟨_, _, _, _, _, rfl, _⟩ := h; rfl) | (obtain ⟨_, _, _, _, _, _, rfl, _⟩ := h; rfl) | (obtain ⟨_, _, _, _, _, _, _, rfl, _⟩ := h; rfl) | (obtain ⟨_, _, _, _, _, _, _, _, rfl, _⟩ := h; rfl)
  · obtain ⟨n, m, s, rfl, h0, hs, k⟩ := h
    refine ⟨_, (pss_cons (ps_set (i := 3) sc_l_rows_by.nd rfl (Or.inl rfl) (pe_lst pa_nil)) (pss_cons (ps_for PassesOwn.never rfl (pi_range1 rfl T.n_range (pa_cons (pv 2) pa_nil)) (pg_name (i := 4) sc_l_rows_by.nd rfl (Or.inl rfl)) (pss_cons (ps_set (i := 5) sc_l_rows_by.nd rfl (Or.inl rfl) (pe_tup (pa_cons (pe_call (ok_l_number_by T) (hr.mono (by decide)) rfl T.m_l_number_by T.F_l_number_by.kp T.b_l_number_by .nil pass0 (pa_cons (pe_call (ok_l_mixed T) (hr.mono (by decide)) rfl T.m_l_mixed T.F_l_mixed.kp T.b_l_mixed .nil pass0 (pa_cons (pv 1) (pa_cons (pe_op op_mul pe_int (pv 4)) pa_nil))) pa_nil)) (pa_cons (pe_op op_add pe_int (pe_op op_mod (pe_call (ok_l_mixed T) (hr.mono (by decide)) rfl T.m_l_mixed T.F_l_mixed.kp T.b_l_mixed .nil pass0 (pa_cons (pv 1) (pa_cons (pe_op op_add (pe_op op_mul pe_int (pv 4)) pe_int) pa_nil))) pe_int)) pa_nil)))) (pss_cons (ps_set (i := 6) sc_l_rows_by.nd rfl (Or.inl rfl) (pe_call (ok_l_name_by T) (hr.mono (by decide)) rfl T.m_l_name_by T.F_l_name_by.kp T.b_l_name_by .nil pass0 (pa_cons (pe_call (ok_l_mixed T) (hr.mono (by decide)) rfl T.m_l_mixed T.F_l_mixed.kp T.b_l_mixed .nil pass0 (pa_cons (pv 0) (pa_cons (pv 4) pa_nil))) pa_nil))) (pss_cut (ps_if (pt_cmpR op_gt (pv 2) pe_int (nomark _)) (pss_cons (ps_set (i := 7) sc_l_rows_by.nd rfl (Or.inl rfl) pe_str) (pss_one (ps_set (i := 6) sc_l_rows_by.nd rfl (Or.inl rfl) (pe_op op_add_str (pe_op op_add_str (pe_ix ix_str (pv 7) (pe_op op_mod (pv 4) pe_int) (fun _ _ => rfl)) (pe_ix ix_str (pv 7) (pe_op op_fdiv (pv 4) pe_int) (fun _ _ => rfl))) (pe_slice sl_str (pv 6) po_none (po_some pe_int)))))) pss_nil) (pss_one (ps_expr (pe_bm PySem.F.plainAttrs_list PySem.F.slot_list_append PySem.F.type_list_append mt_append (pv 3) (pa_cons (pe_tup (pa_cons (pv 6) (pa_cons (pv 5) pa_nil))) pa_nil)))))))) (pss_one (ps_ret (pv 3))))), ?_⟩
    walk_at "gc"
    rename_i D hD H1 e1 f1
    refine for_it (walk_range (lo := 0) (n := s.toNat)) (fun i σ' H' => Hold (∃ v4 v5 v6 v7 xs ps, σ' = [some (.int n), some (.int m), some (.int s), some (.ref D), v4, v5, v6, v7] ∧ H' D = some (.lst xs) ∧ RowsAt K H' xs ps ∧ AllOk K H' ps ∧ (∀ p ∈ ps, keySz p.1) ∧ ps.length = i ∧ Ex H H')) ⟨⟨_, _, _, _, [], [], rfl, f1, RowsAt.nil, fun p hp => (by cases hp), fun p hp => (by cases hp), rfl, e1⟩⟩ (fun _ _ _ _ _ => trivial) (fun i x σ' H2 H3 hi hp hy => ?_) (fun σ' H2 hp => ?_)
    · obtain ⟨⟨v4, v5, v6, v7, xs, ps, rfl, hx, hr, ha, hk, hl, he⟩⟩ := hp
      obtain ⟨rfl, rfl⟩ := hy
      walk_at "gc"
      rename_i t ht H4 e4 f4 z hz H5 e5
      have hsh : ShJ K H5 (.ref t) true := by
        have q1 := numberBy_in (mixed_0 m (2 * (0 + (i : Int))))
        have q2 := mod_in (a := mixedI m (2 * (0 + (i : Int)) + 1)) (b := 9) (by decide)
        have q3 : SqT K H5 t [.int (numberBy (mixedI m (2 * (0 + (i : Int))))), .int (1 + mixedI m (2 * (0 + (i : Int)) + 1) % 9)] := by walk_at "gc_at"
        have e6 : LIM = 10 ^ 60 := rfl
        have q4 : pairB (some (numberBy (mixedI m (2 * (0 + (i : Int)))))) (some (1 + mixedI m (2 * (0 + (i : Int)) + 1) % 9)) = true := by
          show ((decide _ && decide _) && ((decide _ && decide _) && decide _)) = true
          rw [decide_eq_true q1.1, decide_eq_true q1.2, decide_eq_true (show 0 ≤ 1 + mixedI m (2 * (0 + (i : Int)) + 1) % 9 by omega), decide_eq_true (show 1 + mixedI m (2 * (0 + (i : Int)) + 1) % 9 < LIM by rw [e6]; omega), decide_eq_true (by omega)]
          rfl
        exact q4 ▸ .two q3 (.int _) (.int _)
      refine ⟨fun σ' H' => Hold (∃ (w : Str) (v7 : Option V), σ' = [some (.int n), some (.int m), some (.int s), some (.ref D), some (.int (0 + (i : Int))), some (.ref t), some (.str w), v7] ∧ nameB w = true ∧ H' = H5), ?_, fun σ' H' hm => ?_⟩
      · walk_at "gc"
        refine Gc.lt_2 (fun c1 => ?_) (fun c1 => ?_)
        · have m1 := mod_in (a := (0 + (i : Int))) (b := 26) (by decide)
          obtain ⟨s1, hs1, hm1⟩ := atI_in (xs := LET.cps.toList) m1.1 m1.2
          obtain ⟨s2, hs2, hm2⟩ := atI_in (xs := LET.cps.toList) (i := (0 + (i : Int)) / 26) (by omega) (by show _ < ((26 : Nat) : Int); omega)
          have z8 := ((nameB_iff z).mp hz).2.1
          have g0 : z.length ≤ sizeLine := Evl.sz_of (by omega)
          have g1 : (⟨#[s1]⟩ : Str).length + (⟨#[s2]⟩ : Str).length ≤ sizeLine := Gc.sz _
          have g2 : ((⟨#[s1]⟩ : Str) ++ ⟨#[s2]⟩).length + (cutS z none (some 6)).length ≤ sizeLine := Evl.sz_of (by have := cutS_length z none (some 6); rw [app_len]; show 1 + 1 + _ ≤ 100000; omega)
          walk_at "gc"
          exact ⟨⟨_, _, rfl, nameB_mix hm1 hm2 hz, rfl⟩⟩
        · exact ⟨⟨_, _, rfl, hz, rfl⟩⟩
      obtain ⟨⟨w, v7, rfl, hw, rfl⟩⟩ := hm
      have f5 : H' D = some (.lst xs) := by walk_at "gc_at"
      have hxl : xs.length < sizeLine := Evl.sz_lt (by have := hr.1; omega)
      walk_at "gc"
      rename_i q hq H6 e6 f6
      have f7 : H6 D = some (.lst xs) := by walk_at "gc_at"
      have e26 : Et K H3 H6 := by walk_at "gc_et"
      refine ⟨⟨_, _, _, _, xs ++ [.ref q], ps ++ [(.inr w, .ref t)], rfl, upd_same, ((hr.et e26).snoc ⟨q, rfl, by walk_at "gc_at"⟩).et (Et.lst f7), fun p hp => ?_, fun p hp => ?_, by rw [List.length_append, hl]; rfl, Ex.mut (by walk_at "gc_ex") hD⟩⟩
      · rcases List.mem_append.mp hp with c | c
        · exact ⟨(ha p c).1, (ha p c).2.et (e26.trans (Et.lst f7))⟩
        · rw [List.mem_singleton.mp c]
          exact ⟨hw, hsh.et ((Et.of e6).trans (Et.lst f7))⟩
      · rcases List.mem_append.mp hp with c | c
        · exact hk p c
        · rw [List.mem_singleton.mp c]
          show w.length ≤ 100000
          have := ((nameB_iff w).mp hw).2.1
          omega
    · obtain ⟨⟨v4, v5, v6, v7, xs, ps, rfl, hx, hr, ha, hk, hl, he⟩⟩ := hp
      walk_at "gc"
      exact k D xs ps H2 hD he hx hr ha hk hl
/-- cell_at(script, k) -/
def sp_cell_at (K : PySem.W.Frag) : Sp := fun vs H Q _ => ∃ (a : Addr) (ns : List Int) (j : Int), vs = [.ref a, .int j] ∧ SqL K H a (ns.map V.int) ∧ 0 ≤ j ∧ Q (.int (cellI ns j)) H
theorem ok_l_cell_at (T : Tx K mg) : FnOk P w K mg base CX0 1 T.f_l_cell_at T.fd_l_cell_at ["_law_script", "_law_k"] (sp_cell_at K) := by
  refine T.F_l_cell_at.ok sc_l_cell_at (fun vs H Q E h => ?_) (fun cdv A outer s H vs Q E hr h => ?_)
  · first | (obtain ⟨rfl, _⟩ := h; rfl) | (obtain ⟨_, rfl, _⟩ := h; rfl) | (obtain ⟨_, _, rfl, _⟩ := h; rfl) | (obtain ⟨_, _, _, rfl, _⟩ := h; rfl) | (obtain ⟨_, _, _, _, rfl, _⟩ := h; rfl) | (obtain ⟨_, _, _, _, _, rfl, _⟩ := h; rfl) | (obtain ⟨_, _, _, _, _, _, rfl, _⟩ := h; rfl) | (obtain ⟨_, _, _, _, _, _, _, rfl, _⟩ := h; rfl) | (obtain ⟨_, _, _, _, _, _, _, _, rfl, _⟩ := h; rfl)
  · obtain ⟨a, ns, j, rfl, hs, h0, k⟩ := h
    refine ⟨_, (pss_cons (ps_if (pt_cmpR op_lt (pv 1) (pe_callB call_len_seq (by rfl) T.n_len PySem.boot_len (pa_cons (pv 0) pa_nil)) (nomark _)) (pss_one (ps_ret (pe_ix ix_list (pv 0) (pv 1) (fun _ _ => rfl)))) pss_nil) (pss_one (ps_ret pe_int))), ?_⟩
    walk_at "gc"
    rw [List.length_map]
    refine Gc.lt_2 (fun hc => ?_) (fun hc => ?_)
    · have hj : j.toNat < ns.length := by omega
      have ej : j = ((j.toNat : Nat) : Int) := by omega
      refine ⟨_, rfl, _, rfl, _, _, _, _, rfl, rfl, hs, (by rw [ej]; exact atI_nat (by rw [List.getElem?_map, List.getElem?_eq_getElem hj]; rfl)), ?_⟩
      have e : cellI ns j = ns[j.toNat] := by unfold cellI; simp [hj]
      rw [e] at k
      exact k
    · have hj : ns.length ≤ j.toNat := by omega
      have e : cellI ns j = 0 := by unfold cellI; simp [hj]
      rw [e] at k
      exact k
/-- truth(b, b) -/
def sp_truth : Sp := fun vs H Q _ => ∃ b : Bool, vs = [.bl b, .bl b] ∧ Q (.bl true) H
theorem ok_l_truth (T : Tx K mg) : FnOk P w K mg base CX0 1 T.f_l_truth T.fd_l_truth ["_law_found", "_law_due"] (sp_truth) := by
  refine T.F_l_truth.ok sc_l_truth (fun vs H Q E h => ?_) (fun cdv A outer s H vs Q E hr h => ?_)
  · first | (obtain ⟨rfl, _⟩ := h; rfl) | (obtain ⟨_, rfl, _⟩ := h; rfl) | (obtain ⟨_, _, rfl, _⟩ := h; rfl) | (obtain ⟨_, _, _, rfl, _⟩ := h; rfl) | (obtain ⟨_, _, _, _, rfl, _⟩ := h; rfl) | (obtain ⟨_, _, _, _, _, rfl, _⟩ := h; rfl) | (obtain ⟨_, _, _, _, _, _, rfl, _⟩ := h; rfl) | (obtain ⟨_, _, _, _, _, _, _, rfl, _⟩ := h; rfl) | (obtain ⟨_, _, _, _, _, _, _, _, rfl, _⟩ := h; rfl)
  · obtain ⟨b, rfl, k⟩ := h
    refine ⟨_, (pss_one (ps_ret (pe_and (pe_callB call_isi (by rfl) T.n_isinstance PyProof.Rows.boot_isinstance (pa_cons (pv 0) (pa_cons (pe_bltn (v := .ty "bool") (by rfl) T.n_bool PyProof.Rows.boot_bool rfl) pa_nil))) (pe_one (pe_cmpR op_eq (pv 0) (pv 1) (nomark _)))))), ?_⟩
    walk_at "gc"
    exact Gc.bl_eq (decide_eq_true rfl) k
/-- is_name(x) -/
def sp_is_name (K : PySem.W.Frag) : Sp := fun vs H Q _ => ∃ x : V, vs = [x] ∧ ((∃ z : Str, x = .str z ∧ z.length ≤ 100000 ∧ ∀ H', Ex H H' → Q (.bl (nameB z)) H') ∨ (NoStr K H x ∧ Q (.bl false) H))
theorem ok_is_name (T : Tx K mg) : FnOk P w K mg base CX0 1 T.f_is_name T.fd_is_name ["thing"] (sp_is_name K) := by
  refine T.F_is_name.ok sc_is_name (fun vs H Q E h => ?_) (fun cdv A outer s H vs Q E hr h => ?_)
  · first | (obtain ⟨rfl, _⟩ := h; rfl) | (obtain ⟨_, rfl, _⟩ := h; rfl) | (obtain ⟨_, _, rfl, _⟩ := h; rfl) | (obtain ⟨_, _, _, rfl, _⟩ := h; rfl) | (obtain ⟨_, _, _, _, rfl, _⟩ := h; rfl) | (obtain ⟨_, _, _, _, _, rfl, _⟩ := h; rfl) | (obtain ⟨_, _, _, _, _, _, rfl, _⟩ := h; rfl) | (obtain ⟨_, _, _, _, _, _, _, rfl, _⟩ := h; rfl) | (obtain ⟨_, _, _, _, _, _, _, _, rfl, _⟩ := h; rfl)
  · obtain ⟨x, rfl, k⟩ := h
    rcases k with ⟨z, rfl, hz, k⟩ | ⟨⟨t, h1, h2⟩, k⟩
    · refine ⟨_, (pss_cons (ps_if (PW.pt (pw_or (pt_not (pt_val (pe_callB call_isi (by rfl) T.n_isinstance PyProof.Rows.boot_isinstance (pa_cons (pv 0) (pa_cons (pe_bltn (v := .ty "str") (by rfl) T.n_str PyProof.Rows.boot_str rfl) pa_nil))))) (pw_or1 (pt_not (pt_chain op_le op_le pe_int (pe_callB call_len_str (by rfl) T.n_len PySem.boot_len (pa_cons (pv 0) pa_nil)) (pe_glob (v := .int 8) rfl T.c_LONGEST ⟨_, rfl⟩)))))) (pss_one (ps_ret pe_bl)) pss_nil) (pss_one (ps_ret (pe_callB (cr_all rfl) (by rfl) T.n_all PyProof.Rows.boot_all (pa_cons (pe_lc (own := [("sign", 1)]) (g := gName 1) (tt := tYes) rfl sc_is_name.nd (pi_str (pv 0)) (blkOk_by (own := [("sign", 1)]) (N := ["thing", "sign"]) (sc := defScope s_is_name) (by decide +kernel)) (fun _ _ _ _ _ => pg_name (i := 1) sc_is_name.nd rfl (Or.inl rfl)) (fun _ _ _ _ _ => pts_nil) (fun _ _ _ _ _ => (pe_cmpR op_in_sign (pv 1) (pe_glob (v := .str "abcdefghijklmnopqrstuvwxyz") rfl T.c_LETTERS ⟨_, rfl⟩) (by with_unfolding_all rfl)))) pa_nil))))), ?_⟩
      walk_at "gc"
      refine Gc.le_2 (fun c1 => ?_) (fun c1 => ?_)
      · walk_at "gc"
        refine Gc.leN_2 (fun c2 => ?_) (fun c2 => ?_)
        · walk_at "gc"
          exact Gc.bl_eq (nameB_long z c2).symm (k H (Ex.refl _))
        · walk_at "gc"
          rename_i D hD
          have hsz : z.cps.size ≤ 8 := by have : ((z.cps.size : Nat) : Int) ≤ 8 := c2; omega
          refine Gc.lc_go (walk_str (z := z)) (fun i acc _ => acc = ((z.cps.toList.take i).map fun c => V.bl (decide (c ∈ LET.cps.toList)))) (by omega) hD (fun _ _ => trivial) (fun _ _ _ _ h => h) (fun _ _ => rfl) (fun i x acc H2 Kk Nn hi hy e hD2 p hK hN => ?_) (fun acc H2 e hD2 p => ?_)
          · obtain ⟨c, hc, rfl⟩ := hy
            walk_at "gc"
            refine hK _ _ (Ex.refl _) ?_
            rw [p]
            exact (take_map_succ (f := fun c => V.bl (decide (c ∈ LET.cps.toList))) (by rw [← hc]; simp)).symm
          · have e1 : acc = ((z.cps.toList.map fun c => decide (c ∈ LET.cps.toList)).map V.bl) := by
              rw [p, List.take_of_length_le (by simp), List.map_map]; rfl
            subst e1
            refine ⟨D, _, rfl, Evl.sq_of hD2, ?_⟩
            refine Gc.bl_eq ?_ (k H2 e)
            exact nameB_yes z c1 c2
      · walk_at "gc"
        exact Gc.bl_eq (nameB_short z c1).symm (k H (Ex.refl _))
    · refine ⟨_, (pss_cons (ps_if (PW.pt (pw_or (pt_not (pt_val (pe_callB call_isi (by rfl) T.n_isinstance PyProof.Rows.boot_isinstance (pa_cons (pv 0) (pa_cons (pe_bltn (v := .ty "str") (by rfl) T.n_str PyProof.Rows.boot_str rfl) pa_nil))))) (pw_or1 (pt_not (pt_chain op_le op_le pe_int (pe_callB call_len_str (by rfl) T.n_len PySem.boot_len (pa_cons (pv 0) pa_nil)) (pe_glob (v := .int 8) rfl T.c_LONGEST ⟨_, rfl⟩)))))) (pss_one (ps_ret pe_bl)) pss_nil) (pss_one (ps_ret (pe_callB (cr_all rfl) (by rfl) T.n_all PyProof.Rows.boot_all (pa_cons (pe_lc (own := [("sign", 1)]) (g := gName 1) (tt := tYes) rfl sc_is_name.nd (pi_str (pv 0)) (blkOk_by (own := [("sign", 1)]) (N := ["thing", "sign"]) (sc := defScope s_is_name) (by decide +kernel)) (fun _ _ _ _ _ => pg_name (i := 1) sc_is_name.nd rfl (Or.inl rfl)) (fun _ _ _ _ _ => pts_nil) (fun _ _ _ _ _ => (pe_cmpR op_in_sign (pv 1) (pe_glob (v := .str "abcdefghijklmnopqrstuvwxyz") rfl T.c_LETTERS ⟨_, rfl⟩) (by with_unfolding_all rfl)))) pa_nil))))), ?_⟩
      walk_at "gc"
      exact k
/-- is_whole(x) -/
def sp_is_whole (K : PySem.W.Frag) : Sp := fun vs H Q _ => ∃ (x : V) (b : Bool), vs = [x] ∧ WholeJ K H x b ∧ Q (.bl b) H
theorem ok_is_whole (T : Tx K mg) : FnOk P w K mg base CX0 1 T.f_is_whole T.fd_is_whole ["thing"] (sp_is_whole K) := by
  refine T.F_is_whole.ok sc_is_whole (fun vs H Q E h => ?_) (fun cdv A outer s H vs Q E hr h => ?_)
  · first | (obtain ⟨rfl, _⟩ := h; rfl) | (obtain ⟨_, rfl, _⟩ := h; rfl) | (obtain ⟨_, _, rfl, _⟩ := h; rfl) | (obtain ⟨_, _, _, rfl, _⟩ := h; rfl) | (obtain ⟨_, _, _, _, rfl, _⟩ := h; rfl) | (obtain ⟨_, _, _, _, _, rfl, _⟩ := h; rfl) | (obtain ⟨_, _, _, _, _, _, rfl, _⟩ := h; rfl) | (obtain ⟨_, _, _, _, _, _, _, rfl, _⟩ := h; rfl) | (obtain ⟨_, _, _, _, _, _, _, _, rfl, _⟩ := h; rfl)
  · obtain ⟨x, b, rfl, ⟨t, b1, b2, h1, h2, h3, rfl⟩, k⟩ := h
    refine ⟨_, (pss_one (ps_ret (pe_and (pe_callB call_isi (by rfl) T.n_isinstance PyProof.Rows.boot_isinstance (pa_cons (pv 0) (pa_cons (pe_bltn (v := .ty "int") (by rfl) T.n_int PyProof.Rows.boot_int rfl) pa_nil))) (pe_one (pe_not (pe_callB call_isi (by rfl) T.n_isinstance PyProof.Rows.boot_isinstance (pa_cons (pv 0) (pa_cons (pe_bltn (v := .ty "bool") (by rfl) T.n_bool PyProof.Rows.boot_bool rfl) pa_nil)))))))), ?_⟩
    walk_at "gc"
    cases b1 with
    | false => exact iteF k
    | true =>
      walk_at "gc"
      exact k
/-- is_share(v) -/
def sp_is_share (K : PySem.W.Frag) : Sp := fun vs H Q _ => ∃ (v : V) (b : Bool), vs = [v] ∧ ShJ K H v b ∧ Q (.bl b) H
theorem ok_is_share (T : Tx K mg) : FnOk P w K mg base CX0 2 T.f_is_share T.fd_is_share ["thing"] (sp_is_share K) := by
  refine T.F_is_share.ok sc_is_share (fun vs H Q E h => ?_) (fun cdv A outer s H vs Q E hr h => ?_)
  · first | (obtain ⟨rfl, _⟩ := h; rfl) | (obtain ⟨_, rfl, _⟩ := h; rfl) | (obtain ⟨_, _, rfl, _⟩ := h; rfl) | (obtain ⟨_, _, _, rfl, _⟩ := h; rfl) | (obtain ⟨_, _, _, _, rfl, _⟩ := h; rfl) | (obtain ⟨_, _, _, _, _, rfl, _⟩ := h; rfl) | (obtain ⟨_, _, _, _, _, _, rfl, _⟩ := h; rfl) | (obtain ⟨_, _, _, _, _, _, _, rfl, _⟩ := h; rfl) | (obtain ⟨_, _, _, _, _, _, _, _, rfl, _⟩ := h; rfl)
  · obtain ⟨v, b, rfl, hv, k⟩ := h
    refine ⟨_, (pss_cons (ps_if (PW.pt (pw_or (pt_not (pt_val (pe_callB call_isi (by rfl) T.n_isinstance PyProof.Rows.boot_isinstance (pa_cons (pv 0) (pa_cons (pe_bltn (v := .ty "tuple") (by rfl) T.n_tuple PyProof.Rows.boot_tuple rfl) pa_nil))))) (pw_or1 (pt_cmpR op_ne (pe_callB call_len_seq (by rfl) T.n_len PySem.boot_len (pa_cons (pv 0) pa_nil)) pe_int (nomark _))))) (pss_one (ps_ret pe_bl)) pss_nil) (pss_cons (ps_for PassesOwn.never rfl (pi_tup (pv 0)) (pg_name (i := 1) sc_is_share.nd rfl (Or.inl rfl)) (pss_one (ps_if (PW.pt (pw_or (pt_not (pt_val (pe_call (ok_is_whole T) (hr.mono (by decide)) rfl T.m_is_whole T.F_is_whole.kp T.b_is_whole .nil pass0 (pa_cons (pv 1) pa_nil)))) (pw_or1 (pt_not (pt_chain op_le op_lt pe_int (pv 1) (pe_glob (v := .int 1000000000000000000000000000000000000000000000000000000000000) rfl T.c_LIMIT ⟨_, rfl⟩)))))) (pss_one (ps_ret pe_bl)) pss_nil))) (pss_one (ps_ret (pe_cmpR op_gt (pe_op op_add (pe_ix ix_tup (pv 0) pe_int (fun _ _ => rfl)) (pe_ix ix_tup (pv 0) pe_int (fun _ _ => rfl))) pe_int (nomark _)))))), ?_⟩
    cases hv with
    | int i =>
      walk_at "gc"
      exact k
    | oth h kk =>
      walk_at "gc"
      exact k
    | len h n =>
      walk_at "gc"
      refine Gc.neI_t (by omega) ?_
      walk_at "gc"
      exact k
    | @two a x y o p h hx hy =>
      walk_at "gc"
      refine for_it (walk_tup (xs := [x, y])) (fun i σ' H' => Hold (∃ v, σ' = [some (.ref a), v] ∧ H' = H ∧ ∀ j, j < i → [goodN o, goodN p][j]? = some true)) ⟨⟨_, rfl, rfl, fun j hj => absurd hj (Nat.not_lt_zero j)⟩⟩ (fun _ _ _ _ hp => by obtain ⟨⟨_, _, rfl, _⟩⟩ := hp; exact h) (fun i z σ' H1 H2 hi hp hq => ?_) (fun σ' H1 hp => ?_)
      · obtain ⟨⟨v, rfl, rfl, hg⟩⟩ := hp
        obtain ⟨rfl, hz⟩ := hq
        obtain ⟨oz, hn, he, hb⟩ := pair_at hx hy hz
        cases hn with
        | int i' =>
          walk_at "gc"
          refine ⟨WholeJ.int i', ?_⟩
          walk_at "gc"
          have e6 : LIM = 10 ^ 60 := rfl
          refine Gc.le_2 (fun c1 => ?_) (fun c1 => ?_)
          · walk_at "gc"
            refine Gc.ltN_2 (fun c2 => ?_) (fun c2 => ?_)
            · walk_at "gc"
              rw [hb (by show (decide (0 ≤ i') && decide (i' < LIM)) = false; rw [decide_eq_false (p := i' < LIM) (by rw [e6]; omega), Bool.and_false])] at k
              exact k
            · refine ⟨⟨some (.int i'), rfl, rfl, fun j hj => ?_⟩⟩
              by_cases c : j < i
              · exact hg j c
              · rw [show j = i by omega, he]
                exact congrArg some (show (decide (0 ≤ i') && decide (i' < LIM)) = true by rw [decide_eq_true c1, decide_eq_true (p := i' < LIM) (by rw [e6]; omega)]; rfl)
          · walk_at "gc"
            rw [hb (by show (decide (0 ≤ i') && decide (i' < LIM)) = false; rw [decide_eq_false c1, Bool.false_and])] at k
            exact k
        | odd hw =>
          walk_at "gc"
          rw [hb rfl] at k
          exact k
      · obtain ⟨⟨v, rfl, rfl, hg⟩⟩ := hp
        obtain ⟨i', j', rfl, rfl, e⟩ := pair_end (Option.some.inj (hg 0 (by show 0 < 2; decide))) (Option.some.inj (hg 1 (by show 1 < 2; decide)))
        rw [e] at k
        cases hx
        cases hy
        walk_at "gc"
        exact k
/-- is_page(v) -/
def sp_is_page (K : PySem.W.Frag) : Sp := fun vs H Q _ => ∃ v : V, vs = [v] ∧ ((∃ (d : Addr) (kvs : List (Key × V)) (g : Bool), v = .ref d ∧ H d = some (.dK kvs) ∧ PageJ K H kvs g ∧ ∀ H', Ex H H' → Q (.bl g) H') ∨
  ∃ t : String, TyX K H v (.type t) ∧ PySem.W.kitOne K (.type t) (.type "dict") = some false ∧ Q (.bl false) H)
theorem ok_is_page (T : Tx K mg) : FnOk P w K mg base CX0 3 T.f_is_page T.fd_is_page ["thing"] (sp_is_page K) := by
  refine T.F_is_page.ok sc_is_page (fun vs H Q E h => ?_) (fun cdv A outer s H vs Q E hr h => ?_)
  · first | (obtain ⟨rfl, _⟩ := h; rfl) | (obtain ⟨_, rfl, _⟩ := h; rfl) | (obtain ⟨_, _, rfl, _⟩ := h; rfl) | (obtain ⟨_, _, _, rfl, _⟩ := h; rfl) | (obtain ⟨_, _, _, _, rfl, _⟩ := h; rfl) | (obtain ⟨_, _, _, _, _, rfl, _⟩ := h; rfl) | (obtain ⟨_, _, _, _, _, _, rfl, _⟩ := h; rfl) | (obtain ⟨_, _, _, _, _, _, _, rfl, _⟩ := h; rfl) | (obtain ⟨_, _, _, _, _, _, _, _, rfl, _⟩ := h; rfl)
  · obtain ⟨v, rfl, h⟩ := h
    rcases h with ⟨dd, kvs, g, rfl, hd, ⟨hs, h1000, f, hf, rfl⟩, k⟩ | ⟨t, ht, hk, k⟩
    · refine ⟨_, (pss_cons (ps_if (PW.pt (pw_or (pt_not (pt_val (pe_callB call_isi (by rfl) T.n_isinstance PyProof.Rows.boot_isinstance (pa_cons (pv 0) (pa_cons (pe_bltn (v := .ty "dict") (by rfl) T.n_dict PyProof.Rows.boot_dict rfl) pa_nil))))) (pw_or1 (pt_cmpR op_gt (pe_callB call_lenDR (by rfl) T.n_len PySem.boot_len (pa_cons (pv 0) pa_nil)) (pe_glob (v := .int 200) rfl T.c_MOST_NAMES ⟨_, rfl⟩) (nomark _))))) (pss_one (ps_ret pe_bl)) pss_nil) (pss_cons (ps_lock (ps_for PassesOwn.never rfl (pi_keys (pv 0)) (pg_name (i := 1) sc_is_page.nd rfl (Or.inl rfl)) (pss_one (ps_if (PW.pt (pw_or (pt_not (pt_val (pe_call (ok_is_name T) (hr.mono (by decide)) rfl T.m_is_name T.F_is_name.kp T.b_is_name .nil pass0 (pa_cons (pv 1) pa_nil)))) (pw_or1 (pt_not (pt_val (pe_call (ok_is_share T) (hr.mono (by decide)) rfl T.m_is_share T.F_is_share.kp T.b_is_share .nil pass0 (pa_cons (pe_dget (hu_of hr) (pv 0) (pv 1) (fun _ _ => rfl)) pa_nil))))))) (pss_one (ps_ret pe_bl)) pss_nil)))) (pss_one (ps_ret pe_bl)))), ?_⟩
      walk_at "gc"
      refine Gc.lt_2 (fun c1 => ?_) (fun c1 => ?_)
      · walk_at "gc"
        have e : (decide (((kvs.length : Nat) : Int) ≤ 200) && kvs.all fun p => keyB p.1 && f p.1) = false := by rw [decide_eq_false (by omega), Bool.false_and]
        rw [e] at k
        exact k _ (Ex.refl _)
      refine Gc.lock_go hd (fun od H1 h1 er ul oth => ?_)
      walk_at "gc"
      refine Or.inl ⟨kvs, h1, ?_⟩
      refine for_it walk_keys (fun i σ' H' => Hold (∃ v, σ' = [some (.ref dd), v] ∧ Ex H1 H' ∧ ∀ p ∈ kvs.take i, (keyB p.1 && f p.1) = true)) ⟨⟨_, rfl, Ex.refl _, fun p hp => absurd hp (by simp)⟩⟩ (fun _ _ _ _ hp => by obtain ⟨⟨_, _, e, _⟩⟩ := hp; exact e _ _ h1) (fun i x σ' H2 H3 hi hp hy => ?_) (fun σ' H2 hp => ?_)
      · obtain ⟨⟨v, rfl, e2, hg⟩⟩ := hp
        obtain ⟨rfl, key, y, hky, rfl⟩ := hy
        have hmem : (key, y) ∈ kvs := List.mem_of_getElem? hky
        obtain ⟨v2, hv2⟩ := valV_some hmem
        have hbad : (keyB key && f key) = false → (decide (((kvs.length : Nat) : Int) ≤ 200) && kvs.all fun p => keyB p.1 && f p.1) = false := fun q => by
          have : (kvs.all fun p => keyB p.1 && f p.1) = false := List.all_eq_false.mpr ⟨_, hmem, by show ¬ (keyB key && f key) = true; rw [q]; exact Bool.false_ne_true⟩
          rw [this, Bool.and_false]
        cases key with
        | inl n =>
          walk_at "gc"
          refine Or.inr ⟨.int n, ?_⟩
          walk_at "gc"
          rw [hbad rfl] at k
          exact k _ (ul _ (by walk_at "gc_ex"))
        | inr z =>
          walk_at "gc"
          refine Or.inl ⟨z, rfl, hs _ hmem, fun H9 e9 => ?_⟩
          have e19 : Ex H1 H9 := e2.trans e9
          cases hz : nameB z with
          | false =>
            walk_at "gc"
            rw [hbad (by show (nameB z && _) = false; rw [hz, Bool.false_and])] at k
            exact k _ (ul _ (by walk_at "gc_ex"))
          | true =>
            walk_at "gc"
            refine ⟨Gc.dget_k (k := .inr z) (.inr ⟨_, e19 _ _ h1⟩) hv2, ?_⟩
            walk_at "gc"
            refine ⟨(hf _ _ hv2).et (er.et.trans (Et.of e19)), ?_⟩
            cases hz2 : f (.inr z) with
            | false =>
              walk_at "gc"
              rw [hbad (by rw [hz2, Bool.and_false])] at k
              exact k _ (ul _ (by walk_at "gc_ex"))
            | true =>
              walk_at "gc"
              refine ⟨⟨_, rfl, e19, fun p hp => ?_⟩⟩
              rw [List.take_add_one, hky] at hp
              rcases List.mem_append.mp hp with q | q
              · exact hg p q
              · rw [List.mem_singleton.mp q]
                show (nameB z && f (.inr z)) = true
                rw [hz, hz2]
                rfl
      · obtain ⟨⟨v, rfl, e2, hg⟩⟩ := hp
        rw [List.take_length] at hg
        have : (kvs.all fun p => keyB p.1 && f p.1) = true := List.all_eq_true.mpr hg
        rw [this, Bool.and_true, decide_eq_true (by omega)] at k
        walk_at "gc"
        exact k _ (ul _ (by walk_at "gc_ex"))
    · refine ⟨_, (pss_cons (ps_if (PW.pt (pw_or (pt_not (pt_val (pe_callB call_isi (by rfl) T.n_isinstance PyProof.Rows.boot_isinstance (pa_cons (pv 0) (pa_cons (pe_bltn (v := .ty "dict") (by rfl) T.n_dict PyProof.Rows.boot_dict rfl) pa_nil))))) (pw_or1 (pt_cmpR op_gt (pe_callB call_lenDR (by rfl) T.n_len PySem.boot_len (pa_cons (pv 0) pa_nil)) (pe_glob (v := .int 200) rfl T.c_MOST_NAMES ⟨_, rfl⟩) (nomark _))))) (pss_one (ps_ret pe_bl)) pss_nil) (pss_cons (ps_lock (ps_for PassesOwn.never rfl (pi_keys (pv 0)) (pg_name (i := 1) sc_is_page.nd rfl (Or.inl rfl)) (pss_one (ps_if (PW.pt (pw_or (pt_not (pt_val (pe_call (ok_is_name T) (hr.mono (by decide)) rfl T.m_is_name T.F_is_name.kp T.b_is_name .nil pass0 (pa_cons (pv 1) pa_nil)))) (pw_or1 (pt_not (pt_val (pe_call (ok_is_share T) (hr.mono (by decide)) rfl T.m_is_share T.F_is_share.kp T.b_is_share .nil pass0 (pa_cons (pe_dget (hu_of hr) (pv 0) (pv 1) (fun _ _ => rfl)) pa_nil))))))) (pss_one (ps_ret pe_bl)) pss_nil)))) (pss_one (ps_ret pe_bl)))), ?_⟩
      walk_at "gc"
      exact k
/-- odd_name(c): a key, good iff c % 6 > 3 -/
def sp_odd_name : Sp := fun vs H Q _ => ∃ c : Int, vs = [.int c] ∧ ∀ k : Key, keySz k → keyB k = decide (3 < c % 6) → Q (kV k) H
theorem ok_l_odd_name (T : Tx K mg) : FnOk P w K mg base CX0 1 T.f_l_odd_name T.fd_l_odd_name ["_law_cell"] (sp_odd_name) := by
  refine T.F_l_odd_name.ok sc_l_odd_name (fun vs H Q E h => ?_) (fun cdv A outer s H vs Q E hr h => ?_)
  · first | (obtain ⟨rfl, _⟩ := h; rfl) | (obtain ⟨_, rfl, _⟩ := h; rfl) | (obtain ⟨_, _, rfl, _⟩ := h; rfl) | (obtain ⟨_, _, _, rfl, _⟩ := h; rfl) | (obtain ⟨_, _, _, _, rfl, _⟩ := h; rfl) | (obtain ⟨_, _, _, _, _, rfl, _⟩ := h; rfl) | (obtain ⟨_, _, _, _, _, _, rfl, _⟩ := h; rfl) | (obtain ⟨_, _, _, _, _, _, _, rfl, _⟩ := h; rfl) | (obtain ⟨_, _, _, _, _, _, _, _, rfl, _⟩ := h; rfl)
  · obtain ⟨c, rfl, k⟩ := h
    refine ⟨_, (pss_cons (ps_set (i := 1) sc_l_odd_name.nd rfl (Or.inl rfl) (pe_op op_mod (pv 0) pe_int)) (pss_cons (ps_if (pt_cmpR op_eq (pv 1) pe_int (nomark _)) (pss_one (ps_ret pe_str)) pss_nil) (pss_cons (ps_if (pt_cmpR op_eq (pv 1) pe_int (nomark _)) (pss_one (ps_ret pe_str)) pss_nil) (pss_cons (ps_if (pt_cmpR op_eq (pv 1) pe_int (nomark _)) (pss_one (ps_ret (pe_op op_add_str pe_str (pe_ix ix_str pe_str (pe_op op_mod (pe_op op_fdiv (pv 0) pe_int) pe_int) (fun _ _ => rfl))))) pss_nil) (pss_cons (ps_if (pt_cmpR op_eq (pv 1) pe_int (nomark _)) (pss_one (ps_ret (pe_op op_mod (pe_op op_fdiv (pv 0) pe_int) pe_int))) pss_nil) (pss_one (ps_ret (pe_slice sl_str pe_str po_none (po_some (pe_op op_add pe_int (pe_op op_mod (pe_op op_fdiv (pv 0) pe_int) pe_int))))))))))), ?_⟩
    walk_at "gc"
    refine Gc.eqI_2 (fun h1 => ?_) (fun h1 => ?_)
    · walk_at "gc"
      exact k (.inr "") (by show (0 : Nat) ≤ 100000; decide) (by rw [h1]; decide +kernel)
    walk_at "gc"
    refine Gc.eqI_2 (fun h2 => ?_) (fun h2 => ?_)
    · walk_at "gc"
      exact k (.inr "abcdefghi") (by show _ ≤ 100000; decide +kernel) (by rw [h2]; decide +kernel)
    walk_at "gc"
    refine Gc.eqI_2 (fun h3 => ?_) (fun h3 => ?_)
    · have m := mod_in (a := c / 6) (b := 4) (by decide)
      obtain ⟨s, hs, hmem⟩ := atI_in (xs := (" A1-" : Str).cps.toList) m.1 m.2
      walk_at "gc"
      exact k (.inr _) (by show _ ≤ 100000; rw [app_len]; show 2 + 1 ≤ 100000; decide) (by rw [h3]; exact nameB_ab hmem)
    walk_at "gc"
    refine Gc.eqI_2 (fun h4 => ?_) (fun h4 => ?_)
    · walk_at "gc"
      exact k (.inl _) trivial (by rw [h4]; rfl)
    have m := mod_in (a := c / 6) (b := 8) (by decide)
    have m6 := mod_in (a := c) (b := 6) (by decide)
    have e : (1 + c / 6 % 8) = (((1 + c / 6 % 8).toNat : Nat) : Int) := by omega
    walk_at "gc"
    rw [e]
    refine k (.inr _) ?_ ?_
    · show _ ≤ 100000
      rw [cut_len]
      have : ("abcdefgh" : Str).length = 8 := by decide +kernel
      omega
    · show nameB _ = _
      rw [nameB_cut (by omega), decide_eq_true (by omega)]
/-- odd_share(c): no share -/
def sp_odd_share (K : PySem.W.Frag) : Sp := fun vs H Q _ => ∃ c : Int, vs = [.int c] ∧ ∀ v H', Ex H H' → ShJ K H' v false → Q v H'
theorem ok_l_odd_share (T : Tx K mg) : FnOk P w K mg base CX0 1 T.f_l_odd_share T.fd_l_odd_share ["_law_cell"] (sp_odd_share K) := by
  refine T.F_l_odd_share.ok sc_l_odd_share (fun vs H Q E h => ?_) (fun cdv A outer s H vs Q E hr h => ?_)
  · first | (obtain ⟨rfl, _⟩ := h; rfl) | (obtain ⟨_, rfl, _⟩ := h; rfl) | (obtain ⟨_, _, rfl, _⟩ := h; rfl) | (obtain ⟨_, _, _, rfl, _⟩ := h; rfl) | (obtain ⟨_, _, _, _, rfl, _⟩ := h; rfl) | (obtain ⟨_, _, _, _, _, rfl, _⟩ := h; rfl) | (obtain ⟨_, _, _, _, _, _, rfl, _⟩ := h; rfl) | (obtain ⟨_, _, _, _, _, _, _, rfl, _⟩ := h; rfl) | (obtain ⟨_, _, _, _, _, _, _, _, rfl, _⟩ := h; rfl)
  · obtain ⟨c, rfl, k⟩ := h
    refine ⟨_, (pss_cons (ps_set (i := 1) sc_l_odd_share.nd rfl (Or.inl rfl) (pe_op op_mod (pe_op op_fdiv (pv 0) pe_int) pe_int)) (pss_cons (ps_set (i := 2) sc_l_odd_share.nd rfl (Or.inl rfl) (pe_lst (pa_cons (pe_lst (pa_cons (pv 1) (pa_cons pe_int pa_nil))) (pa_cons (pe_tup (pa_cons (pv 1) pa_nil)) (pa_cons (pe_tup (pa_cons (pv 1) (pa_cons pe_int (pa_cons pe_int pa_nil)))) (pa_cons (pe_tup (pa_cons (pe_op op_sub (pv 1) pe_int) (pa_cons pe_int pa_nil))) (pa_cons (pe_tup (pa_cons pe_int (pa_cons (pe_op op_sub (pv 1) pe_int) pa_nil))) (pa_cons (pe_tup (pa_cons (pe_op op_add (pe_op op_pow pe_int pe_int) (pv 1)) (pa_cons pe_int pa_nil))) (pa_cons (pe_tup (pa_cons pe_int (pa_cons (pe_op op_add (pe_op op_pow pe_int pe_int) (pv 1)) pa_nil))) pa_nil))))))))) (pss_cons (ps_set (i := 2) sc_l_odd_share.nd rfl (Or.inl rfl) (pe_op op_cat (pv 2) (pe_lst (pa_cons (pe_tup (pa_cons pe_bl (pa_cons (pv 1) pa_nil))) (pa_cons (pe_tup (pa_cons (pv 1) (pa_cons pe_str pa_nil))) (pa_cons (pe_tup (pa_cons pe_int (pa_cons pe_int pa_nil))) (pa_cons (pv 1) (pa_cons (pe_tup (pa_cons (pv 1) (pa_cons pe_bl pa_nil))) (pa_cons (pe_tup (pa_cons pe_int (pa_cons pe_bl pa_nil))) (pa_cons (pe_tup (pa_cons pe_str (pa_cons (pv 1) pa_nil))) (pa_cons (pe_tup (pa_cons pe_non (pa_cons (pv 1) pa_nil))) pa_nil))))))))))) (pss_one (ps_ret (pe_ix ix_list (pv 2) (pe_op op_mod (pv 0) pe_int) (fun _ _ => rfl))))))), ?_⟩
    have m := mod_in (a := c) (b := 15) (by decide)
    have m5 := mod_in (a := c / 15) (b := 5) (by decide)
    walk_at "gc"
    refine ⟨Gc.atI_getD m.1 (by show c % 15 < ((15 : Nat) : Int); exact m.2), k _ _ (by walk_at "gc_ex") ?_⟩
    generalize hg : List.getD _ (c % 15).toNat V.non = v
    have hv := hg ▸ Gc.getD_mem (i := c % 15) m.1 (by show c % 15 < ((15 : Nat) : Int); exact m.2)
    clear hg
    simp only [List.mem_append, List.mem_cons, List.not_mem_nil, or_false] at hv
    rcases hv with (rfl | rfl | rfl | rfl | rfl | rfl | rfl) | rfl | rfl | rfl | rfl | rfl | rfl | rfl | rfl
    · exact .oth (Gc.tyx_l (xs := [_, _]) (by walk_at "gc_at")) Gc.kit_list_tuple
    · exact .len (xs := [_]) (by walk_at "gc_at") (by show ¬ 1 = 2; decide)
    · exact .len (xs := [_, _, _]) (by walk_at "gc_at") (by show ¬ 3 = 2; decide)
    · exact .odd (by walk_at "gc_at") (.int _) (.int _) (pairL (Or.inl (by omega)))
    · exact .odd (by walk_at "gc_at") (.int _) (.int _) (pairR (Or.inl (by omega)))
    · exact .odd (by walk_at "gc_at") (.int _) (.int _) (pairL (Or.inr (by show (10 : Int) ^ 60 ≤ 10 ^ 60 + c / 15 % 5; omega)))
    · exact .odd (by walk_at "gc_at") (.int _) (.int _) (pairR (Or.inr (by show (10 : Int) ^ 60 ≤ 10 ^ 60 + c / 15 % 5; omega)))
    · exact .odd (by walk_at "gc_at") (.odd (.bl _)) (.int _) rfl
    · exact .odd (by walk_at "gc_at") (.int _) (.odd (.str _)) rfl
    · exact .odd (by walk_at "gc_at") (.int _) (.int _) (by decide +kernel)
    · exact .int _
    · exact .odd (by walk_at "gc_at") (.int _) (.odd (.bl _)) rfl
    · exact .odd (by walk_at "gc_at") (.int _) (.odd (.bl _)) rfl
    · exact .odd (by walk_at "gc_at") (.odd (.str _)) (.int _) rfl
    · exact .odd (by walk_at "gc_at") (.odd .non) (.int _) rfl
theorem ok_law_k04 (T : Tx K mg) : FnOk P w K mg base CX0 4 T.f_law_k04 T.fd_law_k04 ["_law_script"] (sp_law K) := by
  refine T.F_law_k04.ok sc_law_k04 (fun vs H Q E h => ?_) (fun cdv A outer s H vs Q E hr h => ?_)
  · first | (obtain ⟨rfl, _⟩ := h; rfl) | (obtain ⟨_, rfl, _⟩ := h; rfl) | (obtain ⟨_, _, rfl, _⟩ := h; rfl) | (obtain ⟨_, _, _, rfl, _⟩ := h; rfl) | (obtain ⟨_, _, _, _, rfl, _⟩ := h; rfl) | (obtain ⟨_, _, _, _, _, rfl, _⟩ := h; rfl) | (obtain ⟨_, _, _, _, _, _, rfl, _⟩ := h; rfl) | (obtain ⟨_, _, _, _, _, _, _, rfl, _⟩ := h; rfl) | (obtain ⟨_, _, _, _, _, _, _, _, rfl, _⟩ := h; rfl)
  · obtain ⟨a, ns, rfl, hs, hl, k⟩ := h
    refine ⟨_, (pss_cons (ps_set (i := 1) sc_law_k04.nd rfl (Or.inl rfl) (pe_op op_mod (pe_call (ok_l_cell_at T) (hr.mono (by decide)) rfl T.m_l_cell_at T.F_l_cell_at.kp T.b_l_cell_at .nil pass0 (pa_cons (pv 0) (pa_cons pe_int pa_nil))) pe_int)) (pss_cut (ps_if (pt_cmpR op_eq (pe_op op_mod (pe_op op_fdiv (pe_call (ok_l_cell_at T) (hr.mono (by decide)) rfl T.m_l_cell_at T.F_l_cell_at.kp T.b_l_cell_at .nil pass0 (pa_cons (pv 0) (pa_cons pe_int pa_nil))) pe_int) pe_int) pe_int (nomark _)) (pss_one (ps_set (i := 1) sc_law_k04.nd rfl (Or.inl rfl) (pe_op op_add pe_int (pe_op op_mod (pe_op op_fdiv (pe_call (ok_l_cell_at T) (hr.mono (by decide)) rfl T.m_l_cell_at T.F_l_cell_at.kp T.b_l_cell_at .nil pass0 (pa_cons (pv 0) (pa_cons pe_int pa_nil))) pe_int) pe_int)))) pss_nil) (pss_cons (ps_set (i := 2) sc_law_k04.nd rfl (Or.inl rfl) (pe_call (ok_l_rows_by T) (hr.mono (by decide)) rfl T.m_l_rows_by T.F_l_rows_by.kp T.b_l_rows_by .nil pass0 (pa_cons (pe_call (ok_l_cell_at T) (hr.mono (by decide)) rfl T.m_l_cell_at T.F_l_cell_at.kp T.b_l_cell_at .nil pass0 (pa_cons (pv 0) (pa_cons pe_int pa_nil))) (pa_cons (pe_call (ok_l_cell_at T) (hr.mono (by decide)) rfl T.m_l_cell_at T.F_l_cell_at.kp T.b_l_cell_at .nil pass0 (pa_cons (pv 0) (pa_cons pe_int pa_nil))) (pa_cons (pv 1) pa_nil))))) (pss_cons (ps_set (i := 3) sc_law_k04.nd rfl (Or.inl rfl) (pe_call (ok_l_cell_at T) (hr.mono (by decide)) rfl T.m_l_cell_at T.F_l_cell_at.kp T.b_l_cell_at .nil pass0 (pa_cons (pv 0) (pa_cons pe_int pa_nil)))) (pss_cons (ps_set (i := 4) sc_law_k04.nd rfl (Or.inl rfl) (pe_cmpR op_lt (pv 1) pe_int (nomark _))) (pss_cut (ps_if (PW.pt (pw_and (pt_cmpR op_gt (pv 1) pe_int (nomark _)) (pw_and1 (pt_cmpR op_gt (pe_op op_mod (pv 3) pe_int) pe_int (nomark _))))) (pss_cons (ps_set (i := 5) sc_law_k04.nd rfl (Or.inl rfl) (pe_op op_mod (pe_op op_fdiv (pv 3) pe_int) (pv 1))) (pss_one (ps_if (pt_cmpR op_eq (pe_op op_mod (pv 3) pe_int) pe_int (nomark _)) (pss_cons (ps_asg (pe_tup (pa_cons (pe_call (ok_l_odd_name T) (hr.mono (by decide)) rfl T.m_l_odd_name T.F_l_odd_name.kp T.b_l_odd_name .nil pass0 (pa_cons (pe_call (ok_l_cell_at T) (hr.mono (by decide)) rfl T.m_l_cell_at T.F_l_cell_at.kp T.b_l_cell_at .nil pass0 (pa_cons (pv 0) (pa_cons pe_int pa_nil))) pa_nil)) (pa_cons (pe_ix ix_tup (pe_ix ix_list (pv 2) (pv 5) (fun _ _ => rfl)) pe_int (fun _ _ => rfl)) pa_nil))) (pg_sub (pv 2) (pv 5) set_list)) (pss_one (ps_set (i := 4) sc_law_k04.nd rfl (Or.inl rfl) (pe_and (pv 4) (pe_one (pe_cmpR op_gt (pe_op op_mod (pe_call (ok_l_cell_at T) (hr.mono (by decide)) rfl T.m_l_cell_at T.F_l_cell_at.kp T.b_l_cell_at .nil pass0 (pa_cons (pv 0) (pa_cons pe_int pa_nil))) pe_int) pe_int (nomark _))))))) (pss_cons (ps_asg (pe_tup (pa_cons (pe_ix ix_tup (pe_ix ix_list (pv 2) (pv 5) (fun _ _ => rfl)) pe_int (fun _ _ => rfl)) (pa_cons (pe_call (ok_l_odd_share T) (hr.mono (by decide)) rfl T.m_l_odd_share T.F_l_odd_share.kp T.b_l_odd_share .nil pass0 (pa_cons (pe_call (ok_l_cell_at T) (hr.mono (by decide)) rfl T.m_l_cell_at T.F_l_cell_at.kp T.b_l_cell_at .nil pass0 (pa_cons (pv 0) (pa_cons pe_int pa_nil))) pa_nil)) pa_nil))) (pg_sub (pv 2) (pv 5) set_list)) (pss_one (ps_set (i := 4) sc_law_k04.nd rfl (Or.inl rfl) pe_bl)))))) pss_nil) (pss_cons (ps_set (i := 6) sc_law_k04.nd rfl (Or.inl rfl) pe_dnewK) (pss_cons (ps_for PassesOwn.never rfl (pi_list (pv 2)) (pg_name (i := 7) sc_law_k04.nd rfl (Or.inl rfl)) (pss_one (ps_dput (hu_of hr) (pv 6) (pe_ix ix_tup (pv 7) pe_int (fun _ _ => rfl)) (pe_ix ix_tup (pv 7) pe_int (fun _ _ => rfl)) rfl))) (pss_cons (ps_if (pt_cmpR op_lt (pe_callB call_lenDR (by rfl) T.n_len PySem.boot_len (pa_cons (pv 6) pa_nil)) (pe_callB call_len_seq (by rfl) T.n_len PySem.boot_len (pa_cons (pv 2) pa_nil)) (nomark _)) (pss_one (ps_ret pe_bl)) pss_nil) (pss_cons (ps_set (i := 8) sc_law_k04.nd rfl (Or.inl rfl) (pe_callTy call_dictD (by rfl) T.n_dict PyProof.Rows.boot_dict (pa_cons (pv 6) pa_nil))) (pss_cons (ps_if (PW.pt (pw_or (pt_not (pt_val (pe_call (ok_l_truth T) (hr.mono (by decide)) rfl T.m_l_truth T.F_l_truth.kp T.b_l_truth .nil pass0 (pa_cons (pe_call (ok_is_page T) (hr.mono (by decide)) rfl T.m_is_page T.F_is_page.kp T.b_is_page .nil pass0 (pa_cons (pv 8) pa_nil)) (pa_cons (pv 4) pa_nil))))) (pw_or (pt_cmpR (op_pgEqN (hu70 hr)) (pv 8) (pv 6) (nomark _)) (pw_or1 (pt_cmpR op_isnot_bl (pe_call (ok_is_page T) (hr.mono (by decide)) rfl T.m_is_page T.F_is_page.kp T.b_is_page .nil pass0 (pa_cons pe_dnewK pa_nil)) pe_bl (nomark _)))))) (pss_one (ps_ret pe_bl)) pss_nil) (pss_one (ps_ret (pe_and (pe_cmpR op_is_bl (pe_call (ok_is_page T) (hr.mono (by decide)) rfl T.m_is_page T.F_is_page.kp T.b_is_page .nil pass0 (pa_cons (pv 2) pa_nil)) pe_bl (nomark _)) (pe_and (pe_cmpR op_is_bl (pe_call (ok_is_page T) (hr.mono (by decide)) rfl T.m_is_page T.F_is_page.kp T.b_is_page .nil pass0 (pa_cons pe_str pa_nil)) pe_bl (nomark _)) (pe_and (pe_cmpR op_is_bl (pe_call (ok_is_page T) (hr.mono (by decide)) rfl T.m_is_page T.F_is_page.kp T.b_is_page .nil pass0 (pa_cons pe_non pa_nil)) pe_bl (nomark _)) (pe_one (pe_cmpR op_is_bl (pe_call (ok_is_page T) (hr.mono (by decide)) rfl T.m_is_page T.F_is_page.kp T.b_is_page .nil pass0 (pa_cons (pe_callB call_len_seq (by rfl) T.n_len PySem.boot_len (pa_cons (pv 2) pa_nil)) pa_nil)) pe_bl (nomark _))))))))))))))))))), ?_⟩
    have m5 := mod_in (a := cellI ns 0) (b := 5) (by decide)
    have m4 := mod_in (a := cellI ns 0 / 30) (b := 4) (by decide)
    walk_at "gc"
    refine ⟨fun σ' H' => Hold (∃ s : Int, σ' = [some (.ref a), some (.int s), none, none, none, none, none, none, none] ∧ H' = H ∧ 0 ≤ s ∧ s ≤ 201), ?_, fun σ' H' hm => ?_⟩
    · walk_at "gc"
      refine Gc.eqI_2 (fun c1 => ?_) (fun c1 => ?_)
      · walk_at "gc"
        exact ⟨⟨_, rfl, rfl, by omega, by omega⟩⟩
      · exact ⟨⟨_, rfl, rfl, by omega, by omega⟩⟩
    obtain ⟨⟨s, rfl, rfl, s0, s1⟩⟩ := hm
    walk_at "gc"
    rename_i p xs ps H1 hp0 e1 hx hr ha hk hpl
    have hxl : (xs.length : Int) = s := by have := hr.1; omega
    refine ⟨fun σ' H' => Hold (∃ xs ps good v1, σ' = [some (.ref a), some (.int s), some (.ref p), some (.int (cellI ns 3)), some (.bl good), v1, none, none, none] ∧ H' p = some (.lst xs) ∧ RowsAt K H' xs ps ∧ (∀ p ∈ ps, keySz p.1) ∧ ((AllOk K H' ps ∧ good = decide (s < 201)) ∨ (OneOdd K H' ps ∧ good = false)) ∧ ps.length = s.toNat), ?_, fun σ' H' hm => ?_⟩
    · walk_at "gc"
      refine Gc.lt_2 (fun c1 => ?_) (fun c1 => ?_)
      rotate_left
      · walk_at "gc"
        exact ⟨⟨xs, ps, _, _, rfl, hx, hr, hk, Or.inl ⟨ha, rfl⟩, hpl⟩⟩
      walk_at "gc"
      refine Gc.lt_2 (fun c2 => ?_) (fun c2 => ?_)
      rotate_left
      · exact ⟨⟨xs, ps, _, _, rfl, hx, hr, hk, Or.inl ⟨ha, rfl⟩, hpl⟩⟩
      have mj := mod_in (a := cellI ns 3 / 4) (b := s) c1
      have hix := ixN_in (n := xs.length) (i := cellI ns 3 / 4 % s) mj.1 (by omega)
      have hj : (cellI ns 3 / 4 % s).toNat < xs.length := by omega
      have hj2 : (cellI ns 3 / 4 % s).toNat < ps.length := by omega
      obtain ⟨r, hr1, hr2⟩ := hr.2 _ _ _ (List.getElem?_eq_getElem hj) (List.getElem?_eq_getElem hj2)
      have hat : atI xs (cellI ns 3 / 4 % s) = some (.ref r) := by
        have q : atI xs (((cellI ns 3 / 4 % s).toNat : Nat) : Int) = some xs[(cellI ns 3 / 4 % s).toNat] := atI_nat (List.getElem?_eq_getElem hj)
        rw [show (((cellI ns 3 / 4 % s).toNat : Nat) : Int) = cellI ns 3 / 4 % s by omega, hr1] at q
        exact q
      have hgood := ha _ (List.getElem_mem hj2)
      have hksz := hk _ (List.getElem_mem hj2)
      generalize ps[(cellI ns 3 / 4 % s).toNat] = p0 at hr2 hgood hksz
      walk_at "gc"
      refine Gc.eqI_2 (fun c3 => ?_) (fun c3 => ?_)
      · walk_at "gc"
        rename_i key hks hkb q hq H2 e2 f2
        have f3 : H2 p = some (.lst xs) := by walk_at "gc_at"
        have e2m : Ex H' (upd H2 p (.lst (xs.set (cellI ns 3 / 4 % s).toNat (.ref q)))) := Ex.mut (e1.trans e2) hp0
        walk_at "gc"
        refine Gc.and_ev (decide (3 < cellI ns 4 % 6)) (fun _ Q' q => by walk_at "gc"; exact q) ?_
        have e23 : Et K H1 (upd H2 p (.lst (xs.set (cellI ns 3 / 4 % s).toNat (.ref q)))) := (Et.of e2).trans (Et.lst f3)
        have q2 : SqT K (upd H2 p (.lst (xs.set (cellI ns 3 / 4 % s).toNat (.ref q)))) q [kV key, p0.2] := (Et.lst f3).tp _ _ (by walk_at "gc_at")
        refine ⟨⟨_, ps.set (cellI ns 3 / 4 % s).toNat (key, p0.2), _, _, rfl, upd_same, (hr.et e23).set ⟨q, rfl, q2⟩ _, keySz_set hk hks _, ?_, by rw [List.length_set]; exact hpl⟩⟩
        cases hc : decide (3 < cellI ns 4 % 6) with
        | true => exact Or.inl ⟨allOk_set (p := (key, p0.2)) (ha.et e23) (hkb.trans hc) (hgood.2.et e23) _, Bool.and_true _⟩
        | false => exact Or.inr ⟨oneOdd_set (p := (key, p0.2)) (ha.et e23) hj2 true (hgood.2.et e23) (by rw [hkb, hc]; rfl), Bool.and_false _⟩
      · walk_at "gc"
        rename_i v H5 e5 hv q hq H2 e2 f2
        have f3 : H2 p = some (.lst xs) := by walk_at "gc_at"
        walk_at "gc"
        have e23 : Et K H1 (upd H2 p (.lst (xs.set (cellI ns 3 / 4 % s).toNat (.ref q)))) := (Et.of (e5.trans e2)).trans (Et.lst f3)
        have e24 : Et K H5 (upd H2 p (.lst (xs.set (cellI ns 3 / 4 % s).toNat (.ref q)))) := (Et.of e2).trans (Et.lst f3)
        have q2 : SqT K (upd H2 p (.lst (xs.set (cellI ns 3 / 4 % s).toNat (.ref q)))) q [kV p0.1, v] := (Et.lst f3).tp _ _ (by walk_at "gc_at")
        exact ⟨⟨_, ps.set (cellI ns 3 / 4 % s).toNat (p0.1, v), _, _, rfl, upd_same, (hr.et e23).set ⟨q, rfl, q2⟩ _, keySz_set (p := (p0.1, v)) hk hksz _, Or.inr ⟨oneOdd_set (p := (p0.1, v)) (ha.et e23) hj2 false (hv.et e24) (Bool.and_false _), rfl⟩, by rw [List.length_set]; exact hpl⟩⟩
    clear hx hr ha hk hpl hxl
    obtain ⟨⟨xs, ps, good, v1, rfl, hx, hr, hk, hj, hpl⟩⟩ := hm
    have hxl := hr.1
    walk_at "gc"
    rename_i d hd0 H2 e2 f2
    have hx2 : H2 p = some (.lst xs) := by walk_at "gc_at"
    refine ⟨⟨_, Evl.sq_of hx2⟩, ?_⟩
    refine for_it (walk_list (xs := xs)) (fun i σ' H' => Hold (∃ v7, σ' = [some (.ref a), some (.int s), some (.ref p), some (.int (cellI ns 3)), some (.bl good), v1, some (.ref d), v7, none] ∧ H' d = some (.dK (putAll (ps.take i))) ∧ Et K H2 H' ∧ H' p = some (.lst xs))) ⟨⟨_, rfl, f2, Et.refl _, hx2⟩⟩ (fun _ _ _ _ hp => by obtain ⟨⟨_, _, _, _, e⟩⟩ := hp; exact Evl.sq_of e) (fun i x σ' H3 H4 hi hp hy => ?_) (fun σ' H3 hp => ?_)
    · obtain ⟨⟨v7, rfl, hd, het, hx3⟩⟩ := hp
      obtain ⟨rfl, hxi⟩ := hy
      have hi2 : i < ps.length := by omega
      obtain ⟨r, rfl, hr2⟩ := hr.2 i x ps[i] hxi (List.getElem?_eq_getElem hi2)
      have hr3 : SqT K H4 r [kV ps[i].1, ps[i].2] := het.tp _ _ (Er.sqT (Er.of e2) hr2)
      have hpd : p ≠ d := fun z => by subst z; rw [hd] at hx3; cases hx3
      walk_at "gc"
      have hlen := putAll_len (ps.take i)
      rw [List.length_take] at hlen
      refine ⟨DPut.k hd (Evl.sz_lt (by omega)), ?_⟩
      exact ⟨⟨_, rfl, by rw [List.take_add_one, List.getElem?_eq_getElem hi2]; exact (upd_same.trans (by rw [Option.toList, putAll_snoc])), het.trans (Et.dK hd), by rw [upd_ne hpd]; exact hx3⟩⟩
    obtain ⟨⟨v7, rfl, hd, het, hx3⟩⟩ := hp
    rw [hxl, List.take_length] at hd
    walk_at "gc"
    refine Gc.lt_2 (fun c1 => ?_) (fun c1 => ?_)
    · walk_at "gc"
      exact k _
    have hnd := putAll_nd ps
    have hple : (putAll ps).length = ps.length := by have := putAll_len ps; omega
    rw [putAll_eq ps hple] at hd hnd
    have et3 : Et K H' H3 := (Et.of e2).trans het
    have hPJ : PageJ K H3 ps good := by
      rcases hj with ⟨h1, h2⟩ | ⟨h1, h2⟩
      · have q := pageJ_ok hk (by omega) (h1.et et3)
        rw [h2, show decide (s < 201) = decide (((ps.length : Nat) : Int) ≤ 200) from decide_eq_decide.mpr (by omega)]
        exact q
      · rw [h2]
        exact pageJ_odd hk (by omega) hnd (h1.et et3)
    have hEq : ∀ H9, Et K H3 H9 → ∀ p ∈ ps, ∀ v', valV ps p.1 = some v' → EqJ K H9 p.2 v' true := fun H9 e9 => AllOk.eqj hnd (by
      intro q hq
      rcases hj with ⟨h1, h2⟩ | ⟨⟨p0, _, b, h1, _, h2⟩, _⟩
      · exact ⟨true, ((h1.et (et3.trans e9)) q hq).2⟩
      · rcases h2 q hq with c | c
        · rw [c]; exact ⟨b, h1.et (et3.trans e9)⟩
        · exact ⟨true, c.et (et3.trans e9)⟩)
    walk_at "gc"
    rename_i hh hh0 H5 e5 f5
    refine Or.inl ⟨_, ps, good, rfl, f5, hPJ.et (Et.of e5), fun H6 e6 => ?_⟩
    walk_at "gc"
    refine Gc.pgN_go (ks := ps) (ls := ps) (fun _ => true) (by walk_at "gc_at") (by walk_at "gc_at") (hEq _ (Et.of (e5.trans e6))) ?_
    rw [dictEq_self]
    walk_at "gc"
    rename_i d2 hd2 H7 e7 f7
    refine Or.inl ⟨_, [], true, rfl, f7, pageJ_nil, fun H8 e8 => ?_⟩
    walk_at "gc"
    refine Or.inr ⟨"list", Gc.tyx_l (xs := xs) (by walk_at "gc_at"), Gc.kit_list_dict, ?_⟩
    walk_at "gc"
    refine Or.inr ⟨"str", .base (.str _), Gc.kit_str_dict, ?_⟩
    walk_at "gc"
    refine Or.inr ⟨"NoneType", .base .non, Gc.kit_NoneType_dict, ?_⟩
    walk_at "gc"
    refine Or.inr ⟨"int", .base (.int _), Gc.kit_int_dict, ?_⟩
    walk_at "gc"
    exact k _
end
section
theorem all_mk {l : PySem.W.OpenLaw} {w : World} {K : PySem.W.Frag} {h : Heap} {mg : Str → Option Value} {fa : Addr} (X : K.In h) (G : h.Ns mainGlobals mg) (hfa : mg "law" = some (.ref fa))
    {f_l_name_by f_l_number_by f_l_mixed f_l_rows_by f_l_cell_at f_l_truth f_is_name f_is_whole f_is_share f_is_page f_l_odd_name f_l_odd_share f_law_k04 : Addr}
    {t_LETTERS t_LIMIT t_LONGEST t_MOST_NAMES : Tok}
    {od_l_name_by an_l_name_by od_l_number_by an_l_number_by od_l_mixed an_l_mixed od_l_rows_by an_l_rows_by od_l_cell_at an_l_cell_at od_l_truth an_l_truth od_is_name an_is_name od_is_whole an_is_whole od_is_share an_is_share od_is_page an_is_page od_l_odd_name an_l_odd_name od_l_odd_share an_l_odd_share od_law_k04 an_law_k04 : Option Addr} {sl_l_name_by sl_l_number_by sl_l_mixed sl_l_rows_by sl_l_cell_at sl_l_truth sl_is_name sl_is_whole sl_is_share sl_is_page sl_l_odd_name sl_l_odd_share sl_law_k04 : Array (Option Value)} {oc_l_name_by kV_l_name_by dc_l_name_by pm_l_name_by cd_l_name_by ct_l_name_by oc_l_number_by kV_l_number_by dc_l_number_by pm_l_number_by cd_l_number_by ct_l_number_by oc_l_mixed kV_l_mixed dc_l_mixed pm_l_mixed cd_l_mixed ct_l_mixed oc_l_rows_by kV_l_rows_by dc_l_rows_by pm_l_rows_by cd_l_rows_by ct_l_rows_by oc_l_cell_at kV_l_cell_at dc_l_cell_at pm_l_cell_at cd_l_cell_at ct_l_cell_at oc_l_truth kV_l_truth dc_l_truth pm_l_truth cd_l_truth ct_l_truth oc_is_name kV_is_name dc_is_name pm_is_name cd_is_name ct_is_name oc_is_whole kV_is_whole dc_is_whole pm_is_whole cd_is_whole ct_is_whole oc_is_share kV_is_share dc_is_share pm_is_share cd_is_share ct_is_share oc_is_page kV_is_page dc_is_page pm_is_page cd_is_page ct_is_page oc_l_odd_name kV_l_odd_name dc_l_odd_name pm_l_odd_name cd_l_odd_name ct_l_odd_name oc_l_odd_share kV_l_odd_share dc_l_odd_share pm_l_odd_share cd_l_odd_share ct_l_odd_share oc_law_k04 kV_law_k04 dc_law_k04 pm_law_k04 cd_law_k04 ct_law_k04 : Value}
    (a_l_name_by : PySem.W.nsIn K mainGlobals "_law_name_by" = some (some (.ref f_l_name_by)))
    (l_l_name_by : K.lookup f_l_name_by = some ⟨oc_l_name_by, od_l_name_by, .func (PySem.W.fnOf "_law_name_by" "_law_name_by" (defArgs s_l_name_by) (defBody s_l_name_by) (defScope s_l_name_by) .none kV_l_name_by dc_l_name_by pm_l_name_by an_l_name_by cd_l_name_by ct_l_name_by), sl_l_name_by⟩)
    (cI_l_name_by : PySem.W.codeIn K cd_l_name_by "_law_name_by" = true)
    (kk_l_name_by : PySem.W.keepIn K (.ref f_l_name_by) = true)
    (a_l_number_by : PySem.W.nsIn K mainGlobals "_law_number_by" = some (some (.ref f_l_number_by)))
    (l_l_number_by : K.lookup f_l_number_by = some ⟨oc_l_number_by, od_l_number_by, .func (PySem.W.fnOf "_law_number_by" "_law_number_by" (defArgs s_l_number_by) (defBody s_l_number_by) (defScope s_l_number_by) .none kV_l_number_by dc_l_number_by pm_l_number_by an_l_number_by cd_l_number_by ct_l_number_by), sl_l_number_by⟩)
    (cI_l_number_by : PySem.W.codeIn K cd_l_number_by "_law_number_by" = true)
    (kk_l_number_by : PySem.W.keepIn K (.ref f_l_number_by) = true)
    (a_l_mixed : PySem.W.nsIn K mainGlobals "_law_mixed" = some (some (.ref f_l_mixed)))
    (l_l_mixed : K.lookup f_l_mixed = some ⟨oc_l_mixed, od_l_mixed, .func (PySem.W.fnOf "_law_mixed" "_law_mixed" (defArgs s_l_mixed) (defBody s_l_mixed) (defScope s_l_mixed) .none kV_l_mixed dc_l_mixed pm_l_mixed an_l_mixed cd_l_mixed ct_l_mixed), sl_l_mixed⟩)
    (cI_l_mixed : PySem.W.codeIn K cd_l_mixed "_law_mixed" = true)
    (kk_l_mixed : PySem.W.keepIn K (.ref f_l_mixed) = true)
    (a_l_rows_by : PySem.W.nsIn K mainGlobals "_law_rows_by" = some (some (.ref f_l_rows_by)))
    (l_l_rows_by : K.lookup f_l_rows_by = some ⟨oc_l_rows_by, od_l_rows_by, .func (PySem.W.fnOf "_law_rows_by" "_law_rows_by" (defArgs s_l_rows_by) (defBody s_l_rows_by) (defScope s_l_rows_by) .none kV_l_rows_by dc_l_rows_by pm_l_rows_by an_l_rows_by cd_l_rows_by ct_l_rows_by), sl_l_rows_by⟩)
    (cI_l_rows_by : PySem.W.codeIn K cd_l_rows_by "_law_rows_by" = true)
    (kk_l_rows_by : PySem.W.keepIn K (.ref f_l_rows_by) = true)
    (a_l_cell_at : PySem.W.nsIn K mainGlobals "_law_cell_at" = some (some (.ref f_l_cell_at)))
    (l_l_cell_at : K.lookup f_l_cell_at = some ⟨oc_l_cell_at, od_l_cell_at, .func (PySem.W.fnOf "_law_cell_at" "_law_cell_at" (defArgs s_l_cell_at) (defBody s_l_cell_at) (defScope s_l_cell_at) .none kV_l_cell_at dc_l_cell_at pm_l_cell_at an_l_cell_at cd_l_cell_at ct_l_cell_at), sl_l_cell_at⟩)
    (cI_l_cell_at : PySem.W.codeIn K cd_l_cell_at "_law_cell_at" = true)
    (kk_l_cell_at : PySem.W.keepIn K (.ref f_l_cell_at) = true)
    (a_l_truth : PySem.W.nsIn K mainGlobals "_law_truth" = some (some (.ref f_l_truth)))
    (l_l_truth : K.lookup f_l_truth = some ⟨oc_l_truth, od_l_truth, .func (PySem.W.fnOf "_law_truth" "_law_truth" (defArgs s_l_truth) (defBody s_l_truth) (defScope s_l_truth) .none kV_l_truth dc_l_truth pm_l_truth an_l_truth cd_l_truth ct_l_truth), sl_l_truth⟩)
    (cI_l_truth : PySem.W.codeIn K cd_l_truth "_law_truth" = true)
    (kk_l_truth : PySem.W.keepIn K (.ref f_l_truth) = true)
    (a_is_name : PySem.W.nsIn K mainGlobals "is_name" = some (some (.ref f_is_name)))
    (l_is_name : K.lookup f_is_name = some ⟨oc_is_name, od_is_name, .func (PySem.W.fnOf "is_name" "is_name" (defArgs s_is_name) (defBody s_is_name) (defScope s_is_name) .none kV_is_name dc_is_name pm_is_name an_is_name cd_is_name ct_is_name), sl_is_name⟩)
    (cI_is_name : PySem.W.codeIn K cd_is_name "is_name" = true)
    (kk_is_name : PySem.W.keepIn K (.ref f_is_name) = true)
    (a_is_whole : PySem.W.nsIn K mainGlobals "is_whole" = some (some (.ref f_is_whole)))
    (l_is_whole : K.lookup f_is_whole = some ⟨oc_is_whole, od_is_whole, .func (PySem.W.fnOf "is_whole" "is_whole" (defArgs s_is_whole) (defBody s_is_whole) (defScope s_is_whole) .none kV_is_whole dc_is_whole pm_is_whole an_is_whole cd_is_whole ct_is_whole), sl_is_whole⟩)
    (cI_is_whole : PySem.W.codeIn K cd_is_whole "is_whole" = true)
    (kk_is_whole : PySem.W.keepIn K (.ref f_is_whole) = true)
    (a_is_share : PySem.W.nsIn K mainGlobals "is_share" = some (some (.ref f_is_share)))
    (l_is_share : K.lookup f_is_share = some ⟨oc_is_share, od_is_share, .func (PySem.W.fnOf "is_share" "is_share" (defArgs s_is_share) (defBody s_is_share) (defScope s_is_share) .none kV_is_share dc_is_share pm_is_share an_is_share cd_is_share ct_is_share), sl_is_share⟩)
    (cI_is_share : PySem.W.codeIn K cd_is_share "is_share" = true)
    (kk_is_share : PySem.W.keepIn K (.ref f_is_share) = true)
    (a_is_page : PySem.W.nsIn K mainGlobals "is_page" = some (some (.ref f_is_page)))
    (l_is_page : K.lookup f_is_page = some ⟨oc_is_page, od_is_page, .func (PySem.W.fnOf "is_page" "is_page" (defArgs s_is_page) (defBody s_is_page) (defScope s_is_page) .none kV_is_page dc_is_page pm_is_page an_is_page cd_is_page ct_is_page), sl_is_page⟩)
    (cI_is_page : PySem.W.codeIn K cd_is_page "is_page" = true)
    (kk_is_page : PySem.W.keepIn K (.ref f_is_page) = true)
    (a_l_odd_name : PySem.W.nsIn K mainGlobals "_law_odd_name" = some (some (.ref f_l_odd_name)))
    (l_l_odd_name : K.lookup f_l_odd_name = some ⟨oc_l_odd_name, od_l_odd_name, .func (PySem.W.fnOf "_law_odd_name" "_law_odd_name" (defArgs s_l_odd_name) (defBody s_l_odd_name) (defScope s_l_odd_name) .none kV_l_odd_name dc_l_odd_name pm_l_odd_name an_l_odd_name cd_l_odd_name ct_l_odd_name), sl_l_odd_name⟩)
    (cI_l_odd_name : PySem.W.codeIn K cd_l_odd_name "_law_odd_name" = true)
    (kk_l_odd_name : PySem.W.keepIn K (.ref f_l_odd_name) = true)
    (a_l_odd_share : PySem.W.nsIn K mainGlobals "_law_odd_share" = some (some (.ref f_l_odd_share)))
    (l_l_odd_share : K.lookup f_l_odd_share = some ⟨oc_l_odd_share, od_l_odd_share, .func (PySem.W.fnOf "_law_odd_share" "_law_odd_share" (defArgs s_l_odd_share) (defBody s_l_odd_share) (defScope s_l_odd_share) .none kV_l_odd_share dc_l_odd_share pm_l_odd_share an_l_odd_share cd_l_odd_share ct_l_odd_share), sl_l_odd_share⟩)
    (cI_l_odd_share : PySem.W.codeIn K cd_l_odd_share "_law_odd_share" = true)
    (kk_l_odd_share : PySem.W.keepIn K (.ref f_l_odd_share) = true)
    (a_law_k04 : PySem.W.nsIn K mainGlobals "law" = some (some (.ref f_law_k04)))
    (l_law_k04 : K.lookup f_law_k04 = some ⟨oc_law_k04, od_law_k04, .func (PySem.W.fnOf "law" "law" (defArgs s_law_k04) (defBody s_law_k04) (defScope s_law_k04) .none kV_law_k04 dc_law_k04 pm_law_k04 an_law_k04 cd_law_k04 ct_law_k04), sl_law_k04⟩)
    (cI_law_k04 : PySem.W.codeIn K cd_law_k04 "law" = true)
    (kk_law_k04 : PySem.W.keepIn K (.ref f_law_k04) = true)
    (ac_LETTERS : PySem.W.nsIn K mainGlobals "LETTERS" = some (some (.str "abcdefghijklmnopqrstuvwxyz" t_LETTERS)))
    (ac_LIMIT : PySem.W.nsIn K mainGlobals "LIMIT" = some (some (.int 1000000000000000000000000000000000000000000000000000000000000 t_LIMIT)))
    (ac_LONGEST : PySem.W.nsIn K mainGlobals "LONGEST" = some (some (.int 8 t_LONGEST)))
    (ac_MOST_NAMES : PySem.W.nsIn K mainGlobals "MOST_NAMES" = some (some (.int 200 t_MOST_NAMES)))
    (z_all : PySem.W.nsIn K mainGlobals "all" = some none)
    (z_bool : PySem.W.nsIn K mainGlobals "bool" = some none)
    (z_dict : PySem.W.nsIn K mainGlobals "dict" = some none)
    (z_int : PySem.W.nsIn K mainGlobals "int" = some none)
    (z_isinstance : PySem.W.nsIn K mainGlobals "isinstance" = some none)
    (z_len : PySem.W.nsIn K mainGlobals "len" = some none)
    (z_range : PySem.W.nsIn K mainGlobals "range" = some none)
    (z_str : PySem.W.nsIn K mainGlobals "str" = some none)
    (z_tuple : PySem.W.nsIn K mainGlobals "tuple" = some none)
    : ∃ fd : FuncData, (∀ (s : Shared) (v : Value), BindsTo s fd ⟨[v], []⟩ [("_law_script", v)]) ∧ ∀ base : Heap, K.In base → base.Ns mainGlobals mg → FnOk l.prog w K mg base CX0 4 fa fd ["_law_script"] (sp_law K) := by
  have e := hfa.symm.trans (PySem.W.mg_of X G a_law_k04)
  cases e
  have F_l_name_by := fun_mk (st := s_l_name_by) l_l_name_by cI_l_name_by kk_l_name_by
  have b_l_name_by := F_l_name_by.binds (ps := ["_law_cell"]) fun _ _ _ _ _ _ us hl => match us, hl with | [_], _ => rfl
  have F_l_number_by := fun_mk (st := s_l_number_by) l_l_number_by cI_l_number_by kk_l_number_by
  have b_l_number_by := F_l_number_by.binds (ps := ["_law_cell"]) fun _ _ _ _ _ _ us hl => match us, hl with | [_], _ => rfl
  have F_l_mixed := fun_mk (st := s_l_mixed) l_l_mixed cI_l_mixed kk_l_mixed
  have b_l_mixed := F_l_mixed.binds (ps := ["_law_cell", "_law_k"]) fun _ _ _ _ _ _ us hl => match us, hl with | [_, _], _ => rfl
  have F_l_rows_by := fun_mk (st := s_l_rows_by) l_l_rows_by cI_l_rows_by kk_l_rows_by
  have b_l_rows_by := F_l_rows_by.binds (ps := ["_law_names", "_law_shares", "_law_size"]) fun _ _ _ _ _ _ us hl => match us, hl with | [_, _, _], _ => rfl
  have F_l_cell_at := fun_mk (st := s_l_cell_at) l_l_cell_at cI_l_cell_at kk_l_cell_at
  have b_l_cell_at := F_l_cell_at.binds (ps := ["_law_script", "_law_k"]) fun _ _ _ _ _ _ us hl => match us, hl with | [_, _], _ => rfl
  have F_l_truth := fun_mk (st := s_l_truth) l_l_truth cI_l_truth kk_l_truth
  have b_l_truth := F_l_truth.binds (ps := ["_law_found", "_law_due"]) fun _ _ _ _ _ _ us hl => match us, hl with | [_, _], _ => rfl
  have F_is_name := fun_mk (st := s_is_name) l_is_name cI_is_name kk_is_name
  have b_is_name := F_is_name.binds (ps := ["thing"]) fun _ _ _ _ _ _ us hl => match us, hl with | [_], _ => rfl
  have F_is_whole := fun_mk (st := s_is_whole) l_is_whole cI_is_whole kk_is_whole
  have b_is_whole := F_is_whole.binds (ps := ["thing"]) fun _ _ _ _ _ _ us hl => match us, hl with | [_], _ => rfl
  have F_is_share := fun_mk (st := s_is_share) l_is_share cI_is_share kk_is_share
  have b_is_share := F_is_share.binds (ps := ["thing"]) fun _ _ _ _ _ _ us hl => match us, hl with | [_], _ => rfl
  have F_is_page := fun_mk (st := s_is_page) l_is_page cI_is_page kk_is_page
  have b_is_page := F_is_page.binds (ps := ["thing"]) fun _ _ _ _ _ _ us hl => match us, hl with | [_], _ => rfl
  have F_l_odd_name := fun_mk (st := s_l_odd_name) l_l_odd_name cI_l_odd_name kk_l_odd_name
  have b_l_odd_name := F_l_odd_name.binds (ps := ["_law_cell"]) fun _ _ _ _ _ _ us hl => match us, hl with | [_], _ => rfl
  have F_l_odd_share := fun_mk (st := s_l_odd_share) l_l_odd_share cI_l_odd_share kk_l_odd_share
  have b_l_odd_share := F_l_odd_share.binds (ps := ["_law_cell"]) fun _ _ _ _ _ _ us hl => match us, hl with | [_], _ => rfl
  have F_law_k04 := fun_mk (st := s_law_k04) l_law_k04 cI_law_k04 kk_law_k04
  have b_law_k04 := F_law_k04.binds (ps := ["_law_script"]) fun _ _ _ _ _ _ us hl => match us, hl with | [_], _ => rfl
  let T : Tx K mg := { f_l_name_by := f_l_name_by, fd_l_name_by := _, F_l_name_by := F_l_name_by, b_l_name_by := b_l_name_by, m_l_name_by := PySem.W.mg_of X G a_l_name_by, f_l_number_by := f_l_number_by, fd_l_number_by := _, F_l_number_by := F_l_number_by, b_l_number_by := b_l_number_by, m_l_number_by := PySem.W.mg_of X G a_l_number_by, f_l_mixed := f_l_mixed, fd_l_mixed := _, F_l_mixed := F_l_mixed, b_l_mixed := b_l_mixed, m_l_mixed := PySem.W.mg_of X G a_l_mixed, f_l_rows_by := f_l_rows_by, fd_l_rows_by := _, F_l_rows_by := F_l_rows_by, b_l_rows_by := b_l_rows_by, m_l_rows_by := PySem.W.mg_of X G a_l_rows_by, f_l_cell_at := f_l_cell_at, fd_l_cell_at := _, F_l_cell_at := F_l_cell_at, b_l_cell_at := b_l_cell_at, m_l_cell_at := PySem.W.mg_of X G a_l_cell_at, f_l_truth := f_l_truth, fd_l_truth := _, F_l_truth := F_l_truth, b_l_truth := b_l_truth, m_l_truth := PySem.W.mg_of X G a_l_truth, f_is_name := f_is_name, fd_is_name := _, F_is_name := F_is_name, b_is_name := b_is_name, m_is_name := PySem.W.mg_of X G a_is_name, f_is_whole := f_is_whole, fd_is_whole := _, F_is_whole := F_is_whole, b_is_whole := b_is_whole, m_is_whole := PySem.W.mg_of X G a_is_whole, f_is_share := f_is_share, fd_is_share := _, F_is_share := F_is_share, b_is_share := b_is_share, m_is_share := PySem.W.mg_of X G a_is_share, f_is_page := f_is_page, fd_is_page := _, F_is_page := F_is_page, b_is_page := b_is_page, m_is_page := PySem.W.mg_of X G a_is_page, f_l_odd_name := f_l_odd_name, fd_l_odd_name := _, F_l_odd_name := F_l_odd_name, b_l_odd_name := b_l_odd_name, m_l_odd_name := PySem.W.mg_of X G a_l_odd_name, f_l_odd_share := f_l_odd_share, fd_l_odd_share := _, F_l_odd_share := F_l_odd_share, b_l_odd_share := b_l_odd_share, m_l_odd_share := PySem.W.mg_of X G a_l_odd_share, f_law_k04 := fa, fd_law_k04 := _, F_law_k04 := F_law_k04, b_law_k04 := b_law_k04, m_law_k04 := PySem.W.mg_of X G a_law_k04, t_LETTERS := t_LETTERS, c_LETTERS := PySem.W.mg_of X G ac_LETTERS, t_LIMIT := t_LIMIT, c_LIMIT := PySem.W.mg_of X G ac_LIMIT, t_LONGEST := t_LONGEST, c_LONGEST := PySem.W.mg_of X G ac_LONGEST, t_MOST_NAMES := t_MOST_NAMES, c_MOST_NAMES := PySem.W.mg_of X G ac_MOST_NAMES, n_all := PySem.W.mg_none_of X G z_all, n_bool := PySem.W.mg_none_of X G z_bool, n_dict := PySem.W.mg_none_of X G z_dict, n_int := PySem.W.mg_none_of X G z_int, n_isinstance := PySem.W.mg_none_of X G z_isinstance, n_len := PySem.W.mg_none_of X G z_len, n_range := PySem.W.mg_none_of X G z_range, n_str := PySem.W.mg_none_of X G z_str, n_tuple := PySem.W.mg_none_of X G z_tuple }
  exact ⟨T.fd_law_k04, fun s v => .of_eq rfl, fun base _ _ => ok_law_k04 T⟩
end
theorem walk {l : PySem.W.OpenLaw} {q : Program} {loose : List Str} {XP : (Str → Option Value) → Heap → Prop} {YP : World → Heap → Prop} {d : DefRec} {K : Params → PySem.W.Frag} (hn : l.most = some 63) (hdf : d.params.defaults = [])
    (hY : ∀ (w : World) (h : Heap), YP w h → (K w.params).In h)
    (F : ∀ (w : World) (mg : Str → Option Value) (fa : Addr) (h : Heap), (K w.params).In h → h.Ns mainGlobals mg → mg d.name = some (.ref fa) →
      ∃ fd : FuncData, (∀ (s : Shared) (u : Value), BindsTo s fd ⟨[u], []⟩ [("_law_script", u)]) ∧ ∀ base : Heap, (K w.params).In base → base.Ns mainGlobals mg → FnOk l.prog w (K w.params) mg base CX0 4 fa fd ["_law_script"] (sp_law (K w.params))) :
    PySem.W.WalkO q loose XP YP l.row.toRowW d [] (fun f vs => PySem.call f vs) :=
  L2.walk_of (n := 63) (k := 4) (x := "_law_script") (CX := fun _ => CX0) (sp := fun w => sp_law (K w.params)) hn (by decide) hdf ⟨rfl, by decide, by decide⟩ hY F (fun _ _ a ns hl _ hS => ⟨a, ns, rfl, hS, hl, fun _ => rfl⟩) fun _ _ _ _ _ z => z
end Gc

open PySem PySem.W PyProof.Rows in
set_option maxRecDepth 100000 in
set_option maxHeartbeats 0 in
theorem PySem.Challenge.cw_gossipcount_k04_pages_or_not_holds : PySem.Challenge.rw_gossipcount_k04_pages_or_not.Holds := by
  w_on; o_law; k_head; (case hw => w_witness2)
  k_fill
  refine Gc.walk (l := PySem.Challenge.rw_gossipcount_k04_pages_or_not) rfl rfl (fun w h Y => PySem.W.kIn_of Y) ?F
  case F =>
    intro w mg fa h KX G hmg
    refine' Gc.all_mk KX G hmg ?a_l_name_by ?l_l_name_by ?cI_l_name_by ?kk_l_name_by ?a_l_number_by ?l_l_number_by ?cI_l_number_by ?kk_l_number_by ?a_l_mixed ?l_l_mixed ?cI_l_mixed ?kk_l_mixed ?a_l_rows_by ?l_l_rows_by ?cI_l_rows_by ?kk_l_rows_by ?a_l_cell_at ?l_l_cell_at ?cI_l_cell_at ?kk_l_cell_at ?a_l_truth ?l_l_truth ?cI_l_truth ?kk_l_truth ?a_is_name ?l_is_name ?cI_is_name ?kk_is_name ?a_is_whole ?l_is_whole ?cI_is_whole ?kk_is_whole ?a_is_share ?l_is_share ?cI_is_share ?kk_is_share ?a_is_page ?l_is_page ?cI_is_page ?kk_is_page ?a_l_odd_name ?l_l_odd_name ?cI_l_odd_name ?kk_l_odd_name ?a_l_odd_share ?l_l_odd_share ?cI_l_odd_share ?kk_l_odd_share ?a_law_k04 ?l_law_k04 ?cI_law_k04 ?kk_law_k04 ?ac_LETTERS ?ac_LIMIT ?ac_LONGEST ?ac_MOST_NAMES ?z_all ?z_bool ?z_dict ?z_int ?z_isinstance ?z_len ?z_range ?z_str ?z_tuple
    (case a_l_name_by => k_is)
    (case l_l_name_by => k_is)
    (case cI_l_name_by => k_is)
    (case kk_l_name_by => k_is)
    (case a_l_number_by => k_is)
    (case l_l_number_by => k_is)
    (case cI_l_number_by => k_is)
    (case kk_l_number_by => k_is)
    (case a_l_mixed => k_is)
    (case l_l_mixed => k_is)
    (case cI_l_mixed => k_is)
    (case kk_l_mixed => k_is)
    (case a_l_rows_by => k_is)
    (case l_l_rows_by => k_is)
    (case cI_l_rows_by => k_is)
    (case kk_l_rows_by => k_is)
    (case a_l_cell_at => k_is)
    (case l_l_cell_at => k_is)
    (case cI_l_cell_at => k_is)
    (case kk_l_cell_at => k_is)
    (case a_l_truth => k_is)
    (case l_l_truth => k_is)
    (case cI_l_truth => k_is)
    (case kk_l_truth => k_is)
    (case a_is_name => k_is)
    (case l_is_name => k_is)
    (case cI_is_name => k_is)
    (case kk_is_name => k_is)
    (case a_is_whole => k_is)
    (case l_is_whole => k_is)
    (case cI_is_whole => k_is)
    (case kk_is_whole => k_is)
    (case a_is_share => k_is)
    (case l_is_share => k_is)
    (case cI_is_share => k_is)
    (case kk_is_share => k_is)
    (case a_is_page => k_is)
    (case l_is_page => k_is)
    (case cI_is_page => k_is)
    (case kk_is_page => k_is)
    (case a_l_odd_name => k_is)
    (case l_l_odd_name => k_is)
    (case cI_l_odd_name => k_is)
    (case kk_l_odd_name => k_is)
    (case a_l_odd_share => k_is)
    (case l_l_odd_share => k_is)
    (case cI_l_odd_share => k_is)
    (case kk_l_odd_share => k_is)
    (case a_law_k04 => k_is)
    (case l_law_k04 => k_is)
    (case cI_law_k04 => k_is)
    (case kk_law_k04 => k_is)
    (case ac_LETTERS => k_is)
    (case ac_LIMIT => k_is)
    (case ac_LONGEST => k_is)
    (case ac_MOST_NAMES => k_is)
    (case z_all => k_is)
    (case z_bool => k_is)
    (case z_dict => k_is)
    (case z_int => k_is)
    (case z_isinstance => k_is)
    (case z_len => k_is)
    (case z_range => k_is)
    (case z_str => k_is)
    (case z_tuple => k_is)
#print axioms PySem.Challenge.cw_gossipcount_k04_pages_or_not_holds
