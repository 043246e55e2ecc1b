import PyProof.Rows.All
import Wide.All
import OpenK.AllK
import Wide.FinOn
import HandS.ForMost
import HandS.Evl
import HandS.IsInst
import HandS.Walk
import HandS.TupLe
import HandS.Codes
import HandS.More
import HandS.SetFor
import PyProof.Rows.SortShellAny
import KE.GoesMore
import HandS.HotCalls
import HandS.ExcCtx
import HandS.ExcIs
import HandS.WordsExc
import HandS.ExcOwn
import HandS.Hot
import HandS.ExcBuiltin
import HandS.Finally
import PySem.Challenge.RW_gossipcount_k10_read
set_option Elab.async false
set_option linter.all false
set_option maxRecDepth 100000
set_option maxHeartbeats 4000000
namespace Gc
open PySem L2 Evl
/-! ### heaps that grow; small words -/
theorem tup_new {H : Hp} {xs : List V} {Q : VK} (h : ∀ p H', H p = none → Ex H H' → H' p = some (.tup xs) → Q (.ref p) H') : ∀ p, H p = none → Q (.ref p) (upd H p (.tup xs)) := fun p hp => h p _ hp (Ex.new hp) upd_same
theorem lst_new {H : Hp} {xs : List V} {Q : VK} (h : ∀ p H', H p = none → Ex H H' → H' p = some (.lst xs) → Q (.ref p) H') : ∀ p, H p = none → Q (.ref p) (upd H p (.lst xs)) := fun p hp => h p _ hp (Ex.new hp) upd_same
theorem dct_new {H : Hp} {xs : List (Key × V)} {Q : VK} (h : ∀ p H', H p = none → Ex H H' → H' p = some (.dK xs) → Q (.ref p) H') : ∀ p, H p = none → Q (.ref p) (upd H p (.dK xs)) := fun p hp => h p _ hp (Ex.new hp) upd_same
theorem ex_at {H H' : Hp} {a : Addr} {o : HO} (e : Ex H H') (h : H a = some o) : H' a = some o := e a o h
theorem ex_same {H H' : Hp} (e : Ex H H') : Same H H' := e
theorem bne_self {b : Bool} : (!b) = (if b = true then false else true) := by cases b <;> rfl
theorem sz (n : Nat) (h : Nat.ble n 100000 = true := by rfl) : n ≤ sizeLine := sz_of (Nat.le_of_ble_eq_true h)
/-- a share at t: the pair (a, b) -/
abbrev ShAt (K : PySem.W.Frag) (H : Hp) (t : Addr) (a b : Int) : Prop := SqT K H t [.int a, .int b]
theorem tyx_t {K : PySem.W.Frag} {H : Hp} {a : Addr} {xs : List V} (h : SqT K H a xs) : TyX K H (.ref a) (.type "tuple") := by
  rcases h with (h | ⟨o, h⟩) | ⟨o, its, n, hk, hc, _⟩
  · exact .base (.tup h)
  · exact .fTuple h
  · exact .kTuple hk hc
theorem tyx_l {K : PySem.W.Frag} {H : Hp} {a : Addr} {xs : List V} (h : SqL K H a xs) : TyX K H (.ref a) (.type "list") := by
  rcases h with (h | ⟨o, h⟩) | ⟨o, its, n, hk, hc, _⟩
  · exact .base (.lst h)
  · exact .base (.frz h)
  · exact .kList hk hc
theorem tyx_d {K : PySem.W.Frag} {H : Hp} {a : Addr} {kvs : List (Key × V)} (h : Rd H a (.dK kvs)) : TyX K H (.ref a) (.type "dict") := by
  rcases h with h | ⟨o, h⟩
  · exact .base (.dK h)
  · exact .fDict h
theorem ab_ex {H H1 : Hp} {p : Addr} {o : HO} (hp : H p = none) (h : upd H p o = H1) : Ex H H1 := h ▸ Ex.new hp
theorem ab_at {H H1 : Hp} {p : Addr} {o : HO} (h : upd H p o = H1) : H1 p = some o := h ▸ upd_same
/-- what is said here is not opened by the walk -/
structure Hold (P : Prop) : Prop where
  it : P
theorem ab_mut {H H1 H2 : Hp} {p : Addr} {o : HO} (hp : H p = none) (e : Ex H H1) (h : upd H1 p o = H2) : Ex H H2 := h ▸ Ex.mut e hp
theorem pos60 : (0 : Int) < 10 ^ (60 : Int).toNat := by decide
theorem ite_refl {x : V} {A B : Prop} (h : A) : if decide (x = x) = true then A else B := by
  rw [if_pos (decide_eq_true rfl)]; exact h
theorem ite_nrefl {x : V} {A B : Prop} (h : B) : if (!decide (x = x)) = true then A else B := by
  rw [decide_eq_true (rfl : x = x)]; exact iteF h
theorem ite_pos {c : Bool} {A B : Prop} (hc : c = true) (h : A) : if c = true then A else B := by
  rw [if_pos hc]; exact h
theorem ite_neg {c : Bool} {A B : Prop} (hc : c = false) (h : B) : if c = true then A else B := by
  rw [hc]; exact iteF h
theorem lt_t {i j : Int} {A B : Prop} (hc : i < j) (h : A) : if decide (i < j) = true then A else B := ite_pos (decide_eq_true hc) h
theorem lt_f {i j : Int} {A B : Prop} (hc : ¬ i < j) (h : B) : if decide (i < j) = true then A else B := ite_neg (decide_eq_false hc) h
theorem le_t {i j : Int} {A B : Prop} (hc : i ≤ j) (h : A) : if decide (i ≤ j) = true then A else B := ite_pos (decide_eq_true hc) h
theorem le_f {i j : Int} {A B : Prop} (hc : ¬ i ≤ j) (h : B) : if decide (i ≤ j) = true then A else B := ite_neg (decide_eq_false hc) h
theorem eqI_t {i j : Int} {A B : Prop} (hc : i = j) (h : A) : if decide (V.int i = V.int j) = true then A else B := ite_pos (decide_eq_true (by rw [hc])) h
theorem eqI_f {i j : Int} {A B : Prop} (hc : ¬ i = j) (h : B) : if decide (V.int i = V.int j) = true then A else B := ite_neg (decide_eq_false (fun e => hc (V.int.inj e))) h
theorem neI_t {i j : Int} {A B : Prop} (hc : ¬ i = j) (h : A) : if (!decide (V.int i = V.int j)) = true then A else B := ite_pos (by rw [decide_eq_false (fun e => hc (V.int.inj e))]; rfl) h
theorem neI_f {i j : Int} {A B : Prop} (hc : i = j) (h : B) : if (!decide (V.int i = V.int j)) = true then A else B := ite_neg (by rw [decide_eq_true (by rw [hc])]; rfl) h
theorem iteN_t {c : Bool} {A B : Prop} (hc : c = false) (h : A) : if (!c) = true then A else B := ite_pos (by rw [hc]; rfl) h
theorem iteN_f {c : Bool} {A B : Prop} (hc : c = true) (h : B) : if (!c) = true then A else B := ite_neg (by rw [hc]; rfl) h
/-- a and b, b without a new thing -/
theorem and_ev {te : TE} {σ : L2.St} {H : Hp} {Q : VK} {b1 : Bool} (b2 : Bool) (hv : b1 = true → ∀ Q' : VK, Q' (.bl b2) H → te σ H Q') (h : Q (.bl (b1 && b2)) H) : if b1 = true then te σ H Q else Q (.bl false) H := by
  cases b1 with
  | true => exact iteT (hv rfl Q h)
  | false => exact iteF h
theorem or_ev {te : TE} {σ : L2.St} {H : Hp} {Q : VK} {b1 : Bool} (b2 : Bool) (hv : b1 = false → ∀ Q' : VK, Q' (.bl b2) H → te σ H Q') (h : Q (.bl (b1 || b2)) H) : if b1 = true then Q (.bl true) H else te σ H Q := by
  cases b1 with
  | true => exact iteT h
  | false => exact iteF (hv rfl Q h)
theorem chain_ev {tc : TE} {r' : R2} {y : V} {σ : L2.St} {H : Hp} {Q : VK} {b1 : Bool} (b2 : Bool) (hv : b1 = true → ∀ Q' : VK, Q' (.bl b2) H → tc σ H fun w' H4 => r' y w' H4 Q') (h : Q (.bl (b1 && b2)) H) :
    if b1 = true then (tc σ H fun w' H4 => r' y w' H4 Q) else Q (.bl false) H := by
  cases b1 with
  | true => exact iteT (hv rfl Q h)
  | false => exact iteF h
theorem bl_eq {H : Hp} {Q : VK} {b c : Bool} (e : b = c) (h : Q (.bl c) H) : Q (.bl b) H := e ▸ h
theorem eqI_b {i j : Int} (h : i = j) : decide (V.int i = V.int j) = true := decide_eq_true (by rw [h])
/-- an open test on two whole numbers -/
theorem lt_2 {i j : Int} {A B : Prop} (h1 : i < j → A) (h2 : ¬ i < j → B) : if decide (i < j) = true then A else B := by
  by_cases hc : i < j
  · exact lt_t hc (h1 hc)
  · exact lt_f hc (h2 hc)
theorem le_2 {i j : Int} {A B : Prop} (h1 : i ≤ j → A) (h2 : ¬ i ≤ j → B) : if decide (i ≤ j) = true then A else B := by
  by_cases hc : i ≤ j
  · exact le_t hc (h1 hc)
  · exact le_f hc (h2 hc)
theorem ltN_2 {i j : Int} {A B : Prop} (h1 : ¬ i < j → A) (h2 : i < j → B) : if (!decide (i < j)) = true then A else B := by
  by_cases hc : i < j
  · rw [decide_eq_true hc]; exact iteF (h2 hc)
  · rw [decide_eq_false hc]; exact iteT (h1 hc)
theorem leN_2 {i j : Int} {A B : Prop} (h1 : ¬ i ≤ j → A) (h2 : i ≤ j → B) : if (!decide (i ≤ j)) = true then A else B := by
  by_cases hc : i ≤ j
  · rw [decide_eq_true hc]; exact iteF (h2 hc)
  · rw [decide_eq_false hc]; exact iteT (h1 hc)
theorem eqI_2 {i j : Int} {A B : Prop} (h1 : i = j → A) (h2 : ¬ i = j → B) : if decide (V.int i = V.int j) = true then A else B := by
  by_cases hc : i = j
  · exact eqI_t hc (h1 hc)
  · exact eqI_f hc (h2 hc)
theorem neI_2 {i j : Int} {A B : Prop} (h1 : ¬ i = j → A) (h2 : i = j → B) : if (!decide (V.int i = V.int j)) = true then A else B := by
  by_cases hc : i = j
  · exact neI_f hc (h2 hc)
  · exact neI_t hc (h1 hc)
theorem tyx_mono {K : PySem.W.Frag} {H H' : Hp} {x : V} {t : Value} (e : Ex H H') (h : TyX K H x t) : TyX K H' x t := by
  cases h with
  | base b =>
    cases b with
    | non => exact .base .non
    | bl y => exact .base (.bl y)
    | int y => exact .base (.int y)
    | str y => exact .base (.str y)
    | flt y => exact .base (.flt y)
    | lst q => exact .base (.lst (e _ _ q))
    | frz q => exact .base (.frz (e _ _ q))
    | tup q => exact .base (.tup (e _ _ q))
    | dK q => exact .base (.dK (e _ _ q))
    | dT q => exact .base (.dT (e _ _ q))
    | ins q c a n k m => exact .base (.ins (e _ _ q) c a n k m)
  | byt b => exact .byt b
  | set q => exact .set (e _ _ q)
  | kList q c => exact .kList q c
  | kTuple q c => exact .kTuple q c
  | kDict q c => exact .kDict q c
  | fTuple q => exact .fTuple (e _ _ q)
  | fDict q => exact .fDict (e _ _ q)
/-- a comprehension: P by the turn, the list so far and the heap -/
theorem lc_go {J : It} {n : Nat} {G : Hp → Prop} {Yv : Nat → V → Prop} (w : Walk J n G (fun i H x H' => H' = H ∧ Yv i x)) {g : TG} {tt : TT} {te : TE} {vs : List Nat} {σ : L2.St} {H1 : Hp} {D : Addr} {Qd : Hp → Prop}
    (P : Nat → List V → Hp → Prop) (hn : n ≤ 100000) (hD : H1 D = none) (hG : ∀ H, Ex H1 H → G H) (hP : ∀ i acc H o, P i acc H → P i acc (upd H D o)) (h0 : ∀ H, Ex H1 H → P 0 [] H)
    (hs : ∀ i x acc H (Kk : VK) (Nn : Hp → Prop), i < n → Yv i x → Ex H1 H → H D = some (.lst acc) → P i acc H → (∀ y H4, Ex H H4 → P (i + 1) (acc ++ [y]) H4 → Kk y H4) → (∀ H3, Ex H H3 → P (i + 1) acc H3 → Nn H3) →
      g x (wipe σ vs) H fun σ2 H2 => wipe σ2 vs = wipe σ vs ∧ tt σ2 H2 fun b H3 => if b = true then te σ2 H3 Kk else Nn H3)
    (hd : ∀ acc H, Ex H1 H → H D = some (.lst acc) → P n acc H → Qd H) :
    ∃ W : Nat → Nat → Hp → Prop, (∃ m, W 0 m (upd H1 D (.lst []))) ∧ ∀ i m H, W i m H →
      (J.stop i H ∧ Qd H) ∨ (J.go i H ∧ ∃ Nx : Hp → Prop, (∀ H', Nx H' → ∃ m', m' < m ∧ W (i + 1) m' H') ∧ ∀ x H', J.yld i H x H' → g x (wipe σ vs) H' fun σ2 H2 => wipe σ2 vs = wipe σ vs ∧ tt σ2 H2 fun b H3 =>
        if b = true then te σ2 H3 fun y H4 => ∃ acc, H4 D = some (.lst acc) ∧ acc.length < sizeLine ∧ Nx (upd H4 D (.lst (acc ++ [y]))) else Nx H3) := by
  refine lc_it w (fun i H => ∃ acc, H D = some (.lst acc) ∧ acc.length ≤ i ∧ Ex H1 H ∧ P i acc H) ⟨[], upd_same, Nat.le_refl _, Ex.new hD, h0 _ (Ex.new hD)⟩ (fun i H _ h => ?_) (fun i x H H' hi h y => ?_) (fun H h => ?_)
  · obtain ⟨acc, _, _, e, _⟩ := h
    exact hG H e
  · obtain ⟨acc, ha, hl, e, p⟩ := h
    obtain ⟨rfl, hy⟩ := y
    refine hs i x acc H' _ _ hi hy e ha p (fun y H4 e4 p4 => ?_) (fun H3 e3 p3 => ?_)
    · refine ⟨acc, e4 _ _ ha, sz_lt (by omega), acc ++ [y], upd_same, by rw [List.length_append, List.length_singleton]; omega, Ex.mut (e.trans e4) hD, hP _ _ _ _ p4⟩
    · exact ⟨acc, e3 _ _ ha, by omega, e.trans e3, p3⟩
  · obtain ⟨acc, ha, _, e, p⟩ := h
    exact hd acc H e ha p
/-- what is_whole answers of x -/
def WholeJ (K : PySem.W.Frag) (H : Hp) (x : V) (b : Bool) : Prop := ∃ (t : String) (b1 b2 : Bool), TyX K H x (.type t) ∧ PySem.W.kitOne K (.type t) (.type "int") = some b1 ∧ PySem.W.kitOne K (.type t) (.type "bool") = some b2 ∧ b = (b1 && !b2)
/-- x is no text -/
def NoStr (K : PySem.W.Frag) (H : Hp) (x : V) : Prop := ∃ t : String, TyX K H x (.type t) ∧ PySem.W.kitOne K (.type t) (.type "str") = some false
theorem kit_int_int {K : PySem.W.Frag} : PySem.W.kitOne K (.type "int") (.type "int") = some true := kit_ty (by decide +kernel)
theorem kit_int_bool {K : PySem.W.Frag} : PySem.W.kitOne K (.type "int") (.type "bool") = some false := kit_ty (by decide +kernel)
theorem kit_int_str {K : PySem.W.Frag} : PySem.W.kitOne K (.type "int") (.type "str") = some false := kit_ty (by decide +kernel)
theorem kit_int_tuple {K : PySem.W.Frag} : PySem.W.kitOne K (.type "int") (.type "tuple") = some false := kit_ty (by decide +kernel)
theorem kit_int_dict {K : PySem.W.Frag} : PySem.W.kitOne K (.type "int") (.type "dict") = some false := kit_ty (by decide +kernel)
theorem kit_int_list {K : PySem.W.Frag} : PySem.W.kitOne K (.type "int") (.type "list") = some false := kit_ty (by decide +kernel)
theorem kit_bool_int {K : PySem.W.Frag} : PySem.W.kitOne K (.type "bool") (.type "int") = some true := kit_ty (by decide +kernel)
theorem kit_bool_bool {K : PySem.W.Frag} : PySem.W.kitOne K (.type "bool") (.type "bool") = some true := kit_ty (by decide +kernel)
theorem kit_bool_str {K : PySem.W.Frag} : PySem.W.kitOne K (.type "bool") (.type "str") = some false := kit_ty (by decide +kernel)
theorem kit_bool_tuple {K : PySem.W.Frag} : PySem.W.kitOne K (.type "bool") (.type "tuple") = some false := kit_ty (by decide +kernel)
theorem kit_bool_dict {K : PySem.W.Frag} : PySem.W.kitOne K (.type "bool") (.type "dict") = some false := kit_ty (by decide +kernel)
theorem kit_bool_list {K : PySem.W.Frag} : PySem.W.kitOne K (.type "bool") (.type "list") = some false := kit_ty (by decide +kernel)
theorem kit_str_int {K : PySem.W.Frag} : PySem.W.kitOne K (.type "str") (.type "int") = some false := kit_ty (by decide +kernel)
theorem kit_str_bool {K : PySem.W.Frag} : PySem.W.kitOne K (.type "str") (.type "bool") = some false := kit_ty (by decide +kernel)
theorem kit_str_str {K : PySem.W.Frag} : PySem.W.kitOne K (.type "str") (.type "str") = some true := kit_ty (by decide +kernel)
theorem kit_str_tuple {K : PySem.W.Frag} : PySem.W.kitOne K (.type "str") (.type "tuple") = some false := kit_ty (by decide +kernel)
theorem kit_str_dict {K : PySem.W.Frag} : PySem.W.kitOne K (.type "str") (.type "dict") = some false := kit_ty (by decide +kernel)
theorem kit_str_list {K : PySem.W.Frag} : PySem.W.kitOne K (.type "str") (.type "list") = some false := kit_ty (by decide +kernel)
theorem kit_NoneType_int {K : PySem.W.Frag} : PySem.W.kitOne K (.type "NoneType") (.type "int") = some false := kit_ty (by decide +kernel)
theorem kit_NoneType_bool {K : PySem.W.Frag} : PySem.W.kitOne K (.type "NoneType") (.type "bool") = some false := kit_ty (by decide +kernel)
theorem kit_NoneType_str {K : PySem.W.Frag} : PySem.W.kitOne K (.type "NoneType") (.type "str") = some false := kit_ty (by decide +kernel)
theorem kit_NoneType_tuple {K : PySem.W.Frag} : PySem.W.kitOne K (.type "NoneType") (.type "tuple") = some false := kit_ty (by decide +kernel)
theorem kit_NoneType_dict {K : PySem.W.Frag} : PySem.W.kitOne K (.type "NoneType") (.type "dict") = some false := kit_ty (by decide +kernel)
theorem kit_NoneType_list {K : PySem.W.Frag} : PySem.W.kitOne K (.type "NoneType") (.type "list") = some false := kit_ty (by decide +kernel)
theorem kit_tuple_int {K : PySem.W.Frag} : PySem.W.kitOne K (.type "tuple") (.type "int") = some false := kit_ty (by decide +kernel)
theorem kit_tuple_bool {K : PySem.W.Frag} : PySem.W.kitOne K (.type "tuple") (.type "bool") = some false := kit_ty (by decide +kernel)
theorem kit_tuple_str {K : PySem.W.Frag} : PySem.W.kitOne K (.type "tuple") (.type "str") = some false := kit_ty (by decide +kernel)
theorem kit_tuple_tuple {K : PySem.W.Frag} : PySem.W.kitOne K (.type "tuple") (.type "tuple") = some true := kit_ty (by decide +kernel)
theorem kit_tuple_dict {K : PySem.W.Frag} : PySem.W.kitOne K (.type "tuple") (.type "dict") = some false := kit_ty (by decide +kernel)
theorem kit_tuple_list {K : PySem.W.Frag} : PySem.W.kitOne K (.type "tuple") (.type "list") = some false := kit_ty (by decide +kernel)
theorem kit_list_int {K : PySem.W.Frag} : PySem.W.kitOne K (.type "list") (.type "int") = some false := kit_ty (by decide +kernel)
theorem kit_list_bool {K : PySem.W.Frag} : PySem.W.kitOne K (.type "list") (.type "bool") = some false := kit_ty (by decide +kernel)
theorem kit_list_str {K : PySem.W.Frag} : PySem.W.kitOne K (.type "list") (.type "str") = some false := kit_ty (by decide +kernel)
theorem kit_list_tuple {K : PySem.W.Frag} : PySem.W.kitOne K (.type "list") (.type "tuple") = some false := kit_ty (by decide +kernel)
theorem kit_list_dict {K : PySem.W.Frag} : PySem.W.kitOne K (.type "list") (.type "dict") = some false := kit_ty (by decide +kernel)
theorem kit_list_list {K : PySem.W.Frag} : PySem.W.kitOne K (.type "list") (.type "list") = some true := kit_ty (by decide +kernel)
theorem kit_dict_int {K : PySem.W.Frag} : PySem.W.kitOne K (.type "dict") (.type "int") = some false := kit_ty (by decide +kernel)
theorem kit_dict_bool {K : PySem.W.Frag} : PySem.W.kitOne K (.type "dict") (.type "bool") = some false := kit_ty (by decide +kernel)
theorem kit_dict_str {K : PySem.W.Frag} : PySem.W.kitOne K (.type "dict") (.type "str") = some false := kit_ty (by decide +kernel)
theorem kit_dict_tuple {K : PySem.W.Frag} : PySem.W.kitOne K (.type "dict") (.type "tuple") = some false := kit_ty (by decide +kernel)
theorem kit_dict_dict {K : PySem.W.Frag} : PySem.W.kitOne K (.type "dict") (.type "dict") = some true := kit_ty (by decide +kernel)
theorem kit_dict_list {K : PySem.W.Frag} : PySem.W.kitOne K (.type "dict") (.type "list") = some false := kit_ty (by decide +kernel)
theorem WholeJ.int {K : PySem.W.Frag} {H : Hp} (i : Int) : WholeJ K H (.int i) true := ⟨"int", true, false, .base (.int i), kit_int_int, kit_int_bool, rfl⟩
theorem WholeJ.bl {K : PySem.W.Frag} {H : Hp} (i : Bool) : WholeJ K H (.bl i) false := ⟨"bool", true, true, .base (.bl i), kit_bool_int, kit_bool_bool, rfl⟩
theorem WholeJ.str {K : PySem.W.Frag} {H : Hp} (i : Str) : WholeJ K H (.str i) false := ⟨"str", false, false, .base (.str i), kit_str_int, kit_str_bool, rfl⟩
theorem WholeJ.non {K : PySem.W.Frag} {H : Hp} : WholeJ K H .non false := ⟨"NoneType", false, false, .base .non, kit_NoneType_int, kit_NoneType_bool, rfl⟩
theorem WholeJ.tup {K : PySem.W.Frag} {H : Hp} {t : Addr} {xs : List V} (h : SqT K H t xs) : WholeJ K H (.ref t) false := ⟨"tuple", false, false, tyx_t h, kit_tuple_int, kit_tuple_bool, rfl⟩
theorem WholeJ.lst {K : PySem.W.Frag} {H : Hp} {t : Addr} {xs : List V} (h : SqL K H t xs) : WholeJ K H (.ref t) false := ⟨"list", false, false, tyx_l h, kit_list_int, kit_list_bool, rfl⟩
theorem WholeJ.dct {K : PySem.W.Frag} {H : Hp} {t : Addr} {xs : List (Key × V)} (h : Rd H t (.dK xs)) : WholeJ K H (.ref t) false := ⟨"dict", false, false, tyx_d h, kit_dict_int, kit_dict_bool, rfl⟩
theorem NoStr.int {K : PySem.W.Frag} {H : Hp} (i : Int) : NoStr K H (.int i) := ⟨"int", .base (.int i), kit_int_str⟩
theorem NoStr.bl {K : PySem.W.Frag} {H : Hp} (i : Bool) : NoStr K H (.bl i) := ⟨"bool", .base (.bl i), kit_bool_str⟩
theorem NoStr.non {K : PySem.W.Frag} {H : Hp} : NoStr K H .non := ⟨"NoneType", .base .non, kit_NoneType_str⟩
theorem NoStr.tup {K : PySem.W.Frag} {H : Hp} {t : Addr} {xs : List V} (h : SqT K H t xs) : NoStr K H (.ref t) := ⟨"tuple", tyx_t h, kit_tuple_str⟩
theorem NoStr.lst {K : PySem.W.Frag} {H : Hp} {t : Addr} {xs : List V} (h : SqL K H t xs) : NoStr K H (.ref t) := ⟨"list", tyx_l h, kit_list_str⟩
theorem NoStr.dct {K : PySem.W.Frag} {H : Hp} {t : Addr} {xs : List (Key × V)} (h : Rd H t (.dK xs)) : NoStr K H (.ref t) := ⟨"dict", tyx_d h, kit_dict_str⟩
/-- an item of a list at an open place in bounds -/
theorem tl_len (z : Str) : z.cps.toList.length = z.length := Array.length_toList
theorem ixN_in {n : Nat} {i : Int} (h0 : 0 ≤ i) (h1 : i < n) : ixN n i = some i.toNat := by
  have q : ixN n ((i.toNat : Nat) : Int) = some i.toNat := Evl.ixN_nat (by omega)
  rw [show ((i.toNat : Nat) : Int) = i by omega] at q
  exact q
theorem mod_in {a b : Int} (h : 0 < b) : 0 ≤ a % b ∧ a % b < b := ⟨Int.emod_nonneg _ (by omega), Int.emod_lt_of_pos _ h⟩
theorem atI_in {α : Type} {xs : List α} {i : Int} (h0 : 0 ≤ i) (h1 : i < xs.length) : ∃ v, atI xs i = some v ∧ v ∈ xs := by
  have hj : i.toNat < xs.length := by omega
  have q : atI xs ((i.toNat : Nat) : Int) = some xs[i.toNat] := atI_nat (List.getElem?_eq_getElem hj)
  exact ⟨xs[i.toNat], by rw [show ((i.toNat : Nat) : Int) = i by omega] at q; exact q, List.getElem_mem hj⟩
theorem atI_getD {xs : List V} {i : Int} (h0 : 0 ≤ i) (h1 : i < xs.length) : atI xs i = some (xs.getD i.toNat .non) := by
  obtain ⟨v, hv, _⟩ := atI_in h0 h1
  have hj : i.toNat < xs.length := by omega
  have q : atI xs ((i.toNat : Nat) : Int) = some xs[i.toNat] := atI_nat (List.getElem?_eq_getElem hj)
  rw [show ((i.toNat : Nat) : Int) = i by omega] at q
  rw [q]
  simp [List.getD, List.getElem?_eq_getElem hj]
theorem getD_mem {xs : List V} {i : Int} (h0 : 0 ≤ i) (h1 : i < xs.length) : xs.getD i.toNat .non ∈ xs := by
  have hj : i.toNat < xs.length := by omega
  have : xs.getD i.toNat .non = xs[i.toNat] := by simp [List.getD, List.getElem?_eq_getElem hj]
  rw [this]
  exact List.getElem_mem hj
theorem WholeJ.mono {K : PySem.W.Frag} {H H' : Hp} {x : V} {b : Bool} (e : Ex H H') (h : WholeJ K H x b) : WholeJ K H' x b := by
  obtain ⟨t, b1, b2, h1, h2⟩ := h
  exact ⟨t, b1, b2, tyx_mono e h1, h2⟩
theorem NoStr.mono {K : PySem.W.Frag} {H H' : Hp} {x : V} (e : Ex H H') (h : NoStr K H x) : NoStr K H' x := by
  obtain ⟨t, h1, h2⟩ := h
  exact ⟨t, tyx_mono e h1, h2⟩
end Gc
/- what is known of an earlier heap, at a later one -/
local macro_rules | `(tactic| walk_at "gc_ex") => `(tactic| first
  | assumption
  | exact Evl.Ex.refl _
  | (refine' Evl.Ex.trans ?h (by assumption); (case h => walk_at "gc_ex")))
local macro_rules | `(tactic| walk_at "gc_at") => `(tactic| first
  | assumption
  | exact Evl.st_of (by assumption)
  | exact Evl.sq_of (by assumption)
  | exact L2.Rd.of (by assumption)
  | (refine' Evl.ex_t (by assumption) ?h; (case h => walk_at "gc_at"))
  | (refine' Evl.ex_l (by assumption) ?h; (case h => walk_at "gc_at"))
  | (refine' Evl.ex_rd (by assumption) ?h; (case h => walk_at "gc_at"))
  | (refine' Gc.ex_at (by assumption) ?h; (case h => walk_at "gc_at"))
  | walk_at "gc_x")
local macro_rules | `(tactic| walk_at "gc_ty") => `(tactic| first
  | exact L2.TyX.base (L2.TyOf.int _)
  | exact L2.TyX.base (L2.TyOf.bl _)
  | exact L2.TyX.base (L2.TyOf.str _)
  | exact L2.TyX.base L2.TyOf.non
  | assumption
  | (refine' Gc.tyx_t ?h; (case h => walk_at "gc_at"))
  | (refine' Gc.tyx_l ?h; (case h => walk_at "gc_at"))
  | (refine' Gc.tyx_d ?h; (case h => walk_at "gc_at")))
local macro_rules | `(tactic| walk_at "gc_kit") => `(tactic| first
  | exact Gc.kit_int_int
  | exact Gc.kit_int_bool
  | exact Gc.kit_int_str
  | exact Gc.kit_int_tuple
  | exact Gc.kit_int_dict
  | exact Gc.kit_int_list
  | exact Gc.kit_bool_int
  | exact Gc.kit_bool_bool
  | exact Gc.kit_bool_str
  | exact Gc.kit_bool_tuple
  | exact Gc.kit_bool_dict
  | exact Gc.kit_bool_list
  | exact Gc.kit_str_int
  | exact Gc.kit_str_bool
  | exact Gc.kit_str_str
  | exact Gc.kit_str_tuple
  | exact Gc.kit_str_dict
  | exact Gc.kit_str_list
  | exact Gc.kit_NoneType_int
  | exact Gc.kit_NoneType_bool
  | exact Gc.kit_NoneType_str
  | exact Gc.kit_NoneType_tuple
  | exact Gc.kit_NoneType_dict
  | exact Gc.kit_NoneType_list
  | exact Gc.kit_tuple_int
  | exact Gc.kit_tuple_bool
  | exact Gc.kit_tuple_str
  | exact Gc.kit_tuple_tuple
  | exact Gc.kit_tuple_dict
  | exact Gc.kit_tuple_list
  | exact Gc.kit_list_int
  | exact Gc.kit_list_bool
  | exact Gc.kit_list_str
  | exact Gc.kit_list_tuple
  | exact Gc.kit_list_dict
  | exact Gc.kit_list_list
  | exact Gc.kit_dict_int
  | exact Gc.kit_dict_bool
  | exact Gc.kit_dict_str
  | exact Gc.kit_dict_tuple
  | exact Gc.kit_dict_dict
  | exact Gc.kit_dict_list)
/- the answers that need no thought -/
local macro_rules | `(tactic| walk_at "gc_sd") => `(tactic| first
  | rfl
  | walk_at "gc_at"
  | exact L2.ClsV.ty _
  | walk_at "gc_ty"
  | walk_at "gc_kit"
  | exact Gc.sz _
  | exact Gc.pos60
  | exact ⟨by decide, by decide⟩
  | exact ⟨_, rfl⟩
  | exact Or.inl (by walk_at "gc_at")
  | exact Or.inr (by walk_at "gc_at")
  | exact Or.inr ⟨by decide, by decide⟩
  | exact Or.inl ⟨by decide, by decide⟩
  | exact Or.inr ⟨by omega, by omega⟩
  | exact Or.inl ⟨by omega, by omega⟩
  | exact ⟨by decide, by decide, by decide⟩
  | exact ⟨by omega, by omega⟩
  | exact Evl.sz_of (by omega)
  | exact Evl.sz_lt (by omega)
  | exact Exists.intro _ (by assumption)
  | exact Or.inl ⟨rfl, Exists.intro _ (Evl.sq_of (by assumption))⟩
  | walk_at "gc_y"
  | decide
  | omega)
local macro_rules | `(tactic| walk_at "gc_e") => `(tactic| (apply Exists.intro; first | refine And.intro rfl ?_ | walk_at "gc_e"))
/- one step of a reading -/
local macro_rules | `(tactic| walk_at "gc_1") => `(tactic| first
  | (refine And.intro rfl ?_)
  | walk_at "gc_e"
  | (with_reducible refine L2.iteT ?_)
  | (with_reducible refine L2.iteF ?_)
  | (with_reducible refine Gc.ite_refl ?_)
  | (with_reducible refine Gc.ite_nrefl ?_)
  | (intro p hp; refine (?_ : ∃ W : Nat → Nat → L2.Hp → Prop, _))
  | (intro p hp; generalize hX : L2.upd _ p _ = H1; have e1 := Gc.ab_ex hp hX; have f1 := Gc.ab_at hX; clear hX)
  | (refine' And.intro ?s ?_; (case s => walk_at "gc_sd"))
  | intro _)
local macro_rules | `(tactic| walk_at "gc") => `(tactic| repeat walk_at "gc_1")

namespace Gc
open PySem L2 Evl
/-! ### the laws' numbers -/
/-- the greater one, as the program's max takes it -/
def gmax (i j : Int) : Int := if j > i then j else i
/-- the lesser one, as the program's min takes it -/
def gmin (i j : Int) : Int := if j < i then j else i
theorem gmax_comm (i j : Int) : gmax i j = gmax j i := by unfold gmax; split <;> split <;> omega
theorem gmax_back (i j : Int) : gmax (gmax i j) i = gmax i j := by unfold gmax; split <;> split <;> omega
theorem gmax_in (i j : Int) : gmax i (gmax j i) = gmax j i := by unfold gmax; split <;> split <;> omega
/-- whether (a, b) reaches (c, d) -/
def reachB (a b c d : Int) : Bool := decide (c ≤ a) && decide (d ≤ b)
theorem reachB_self (a b : Int) : reachB a b a b = true := by unfold reachB; simp
/-- a cell of the script, 0 behind its end -/
def cellI (ns : List Int) (k : Int) : Int := ns.getD k.toNat 0
/-- a def of whole numbers that makes nothing -/
def sp_i1 (f : Int → Int) : Sp := fun vs H Q _ => ∃ c : Int, vs = [.int c] ∧ Q (.int (f c)) H
def sp_i2 (f : Int → Int → Int) : Sp := fun vs H Q _ => ∃ c e : Int, vs = [.int c, .int e] ∧ Q (.int (f c e)) H
def numberBy (c : Int) : Int :=
  if c % 5 < 2 then c / 5 % 3 * (c % 5) else if c % 5 = 2 then c / 5 % 1000 else if c % 5 = 3 then c / 5 % 10 ^ 60 else 10 ^ 60 - 1 - c / 5 % 1000
/-! ### names -/
def LET : Str := "abcdefghijklmnopqrstuvwxyz"
/-- a text of 1 to 8 small letters -/
def nameB (z : Str) : Bool := decide ((1 : Int) ≤ (z.length : Nat)) && (decide (((z.length : Nat) : Int) ≤ 8) && z.cps.toList.all fun c => decide (c ∈ LET.cps.toList))
theorem nameB_yes (z : Str) (h1 : (1 : Int) ≤ (z.length : Nat)) (h2 : ((z.length : Nat) : Int) ≤ 8) : ((z.cps.toList.map fun c => decide (c ∈ LET.cps.toList)).all id) = nameB z := by
  unfold nameB
  rw [decide_eq_true h1, decide_eq_true h2, Bool.true_and, Bool.true_and, List.all_map]
  rfl
theorem nameB_long (z : Str) (h2 : ¬ ((z.length : Nat) : Int) ≤ 8) : nameB z = false := by
  unfold nameB
  rw [decide_eq_false h2, Bool.false_and, Bool.and_false]
theorem nameB_short (z : Str) (h2 : ¬ (1 : Int) ≤ (z.length : Nat)) : nameB z = false := by
  unfold nameB
  rw [decide_eq_false h2, Bool.false_and]
theorem take_map_succ {α β : Type} {f : α → β} {l : List α} {i : Nat} {x : α} (h : l[i]? = some x) : (l.take (i + 1)).map f = (l.take i).map f ++ [f x] := by
  rw [List.take_add_one, h, List.map_append]
  rfl
theorem all_take_succ {α : Type} {p : α → Bool} {l : List α} {i : Nat} {x : α} (h : l[i]? = some x) : (l.take (i + 1)).all p = ((l.take i).all p && p x) := by
  rw [List.take_add_one, h, List.all_append]
  simp
/-- texts of one sign each -/
def sg (c : Nat) : Str := ⟨#[c]⟩
def Signs (p : Nat → Prop) (xs : List V) : Prop := ∃ cs : List Nat, xs = (cs.map sg).map V.str ∧ ∀ c ∈ cs, p c
theorem Signs.nil {p : Nat → Prop} : Signs p [] := ⟨[], rfl, fun _ h => (by cases h)⟩
theorem Signs.one {p : Nat → Prop} {xs : List V} {c : Nat} (h : Signs p xs) (hc : p c) : Signs p (xs ++ [.str ⟨#[c]⟩]) := by
  obtain ⟨cs, rfl, q⟩ := h
  refine ⟨cs ++ [c], by rw [List.map_append, List.map_append]; rfl, fun d hd => ?_⟩
  rcases List.mem_append.mp hd with h | h
  · exact q d h
  · rw [List.mem_singleton.mp h]; exact hc
theorem Signs.put {p : Nat → Prop} {xs : List V} {c : Nat} (h : Signs p xs) (hc : p c) (j : Nat) : Signs p (xs.set j (.str ⟨#[c]⟩)) := by
  obtain ⟨cs, rfl, q⟩ := h
  refine ⟨cs.set j c, by rw [List.map_set, List.map_set]; rfl, fun d hd => ?_⟩
  rcases List.mem_or_eq_of_mem_set hd with h | h
  · exact q d h
  · rw [h]; exact hc
theorem sg_lens : ∀ cs : List Nat, ((cs.map sg).map (fun x => x.length)).sum = cs.length
  | [] => rfl
  | c :: cs => by
    show 1 + ((cs.map sg).map (fun x => x.length)).sum = cs.length + 1
    rw [sg_lens cs, Nat.add_comm]
theorem sg_size (cs : List Nat) (h : cs.length ≤ 100000) : ((cs.map sg).map (fun x => x.length)).sum + (cs.map sg).length * ("" : Str).length ≤ 16777216 := by
  rw [sg_lens, List.length_map]
  show cs.length + cs.length * 0 ≤ 16777216
  omega
theorem joinL_sg : ∀ cs : List Nat, TL.joinL [] (cs.map fun c => [c]) = cs
  | [] => rfl
  | [c] => rfl
  | c :: d :: r => by
    show [c] ++ ([] ++ TL.joinL [] ((d :: r).map fun c => [c])) = c :: d :: r
    rw [joinL_sg (d :: r)]
    rfl
theorem join_sg (cs : List Nat) : Txt.join ("" : Str) (cs.map sg) = ⟨cs.toArray⟩ := by
  have e := SX.join_S [] (cs.map fun c => [c])
  rw [joinL_sg, List.map_map] at e
  exact e
/-- an amount -/
def amountB (i : Int) : Bool := decide (1 ≤ i) && decide (i ≤ 1000000000)
theorem amountB_alt (N : Int) : amountB N = (decide (0 < N) && decide (N < 1000000001)) := by
  have e1 : decide (1 ≤ N) = decide (0 < N) := decide_eq_decide.mpr (by omega)
  have e2 : decide (N ≤ 1000000000) = decide (N < 1000000001) := decide_eq_decide.mpr (by omega)
  unfold amountB
  rw [e1, e2]
/-- what a law promises: True -/
def sp_law (K : PySem.W.Frag) : Sp := fun vs H Q _ => ∃ (a : Addr) (ns : List Int), vs = [.ref a] ∧ SqL K H a (ns.map V.int) ∧ ns.length ≤ 63 ∧ ∀ H', Q (.bl true) H'
end Gc

namespace Gc
open PySem PySem.Spec PyProof.Rows L2
/-! ### == and != of dicts whose values are data (or the very same objects) -/
theorem hu70 {A : Around} {k : Nat} (hr : Room k A) : A.units + 70 < cLine := by have := hr.un; omega
/-- v == v' answers b: one object, or data -/
def EqJ (K : PySem.W.Frag) (H : Hp) (v v' : V) (b : Bool) : Prop :=
  (∃ a, v = .ref a ∧ v' = .ref a ∧ b = true) ∨ ∃ d e, Dp K H v d ∧ Dp K H v' e ∧ SeqAt.shaped d = true ∧ SeqAt.shaped e = true ∧ b = PyData.eqv d e
section
variable {X : Cx} {pins : List (Addr × Obj)} {σ : L2.St} {H : Hp} {s : Shared}
theorem eqj_at (I : Inv X pins σ H s) (hu : X.A.units + 70 < cLine) {v v' : V} {b : Bool} {u u' : Value} (h : EqJ X.K H v v' b) (r : RelV v u) (r' : RelV v' u') : SeqAt.EqAt X.A.in1 s u u' b := by
  rcases h with ⟨a, rfl, rfl, rfl⟩ | ⟨d, e, hd, he, sd, se, rfl⟩
  · cases r
    cases r'
    exact SeqAt.EqAt.same _
  · obtain ⟨as, r1⟩ := Dp.reads I d v u hd r
    obtain ⟨bs, r2⟩ := Dp.reads I e v' u' he r'
    exact PySem.W.keq_at r1 r2 sd se (by show X.A.units + 1 + 64 < cLine; omega)
/-- the answer of ks == ls, item by item -/
def dictEqB (ks ls : List (Key × V)) (e : Key → Bool) : Bool := decide (ks.length = ls.length) && ks.all fun p => (valV ls p.1).isSome && e p.1
theorem hits_j (I : Inv X pins σ H s) (hu : X.A.units + 70 < cLine) {ls : List (Key × V)} {vb : List (Key × Value)} (rb : KV ls vb) {e : Key → Bool} {ks : List (Key × V)} {va : List (Key × Value)} (ra : KV ks va) :
    (∀ p ∈ ks, ∀ v', valV ls p.1 = some v' → EqJ X.K H p.2 v' (e p.1)) → PySem.W.KeqHits X.A.in1 s vb va (ks.all fun p => (valV ls p.1).isSome && e p.1) := by
  unfold KV at ra
  induction ra with
  | nil => exact fun _ => .nil
  | @cons p q ps qs h t ih =>
    intro hp
    obtain ⟨k, v⟩ := q
    obtain ⟨h1, h2⟩ := h
    have h1' : p.1 = k := h1
    have rest := ih fun p' hm => hp p' (List.mem_cons_of_mem _ hm)
    have q0 := rb.val p.1
    cases hv : valV ls p.1 with
    | none =>
      rw [hv] at q0
      have hn : valueAt vb k = none := by
        rw [← h1']
        cases z : valueAt vb p.1 with
        | none => rfl
        | some y => rw [z] at q0; exact q0.elim
      have g : ((p :: ps).all fun p => (valV ls p.1).isSome && e p.1) = false := by simp [hv]
      rw [g]
      exact .miss hn
    | some v' =>
      rw [hv] at q0
      obtain ⟨y, hy, ry⟩ := RelO.some_of q0
      rw [h1'] at hy
      have g : ((p :: ps).all fun p => (valV ls p.1).isSome && e p.1) = (e p.1 && ps.all fun p => (valV ls p.1).isSome && e p.1) := by simp [hv]
      rw [g]
      exact .hit hy (eqj_at I hu (hp p List.mem_cons_self v' hv) h2 ry) rest
def rPgEq (K : PySem.W.Frag) (neg : Bool) : R2 := fun x y H Q => Hold (∃ (a b : Addr) (ks ls : List (Key × V)) (e : Key → Bool), x = .ref a ∧ y = .ref b ∧ Rd H a (.dK ks) ∧ Rd H b (.dK ls) ∧
  (∀ p ∈ ks, ∀ v', valV ls p.1 = some v' → EqJ K H p.2 v' (e p.1)) ∧ Q (.bl (if neg = true then !dictEqB ks ls e else dictEqB ks ls e)) H)
theorem op_pgEq (hu : X.A.units + 70 < cLine) : OpR X (compareOp .Eq) (rPgEq X.K false) := by
  intro pins s σ H x y v u Q I rx ry h
  obtain ⟨⟨a, b, ks, ls, e, rfl, rfl, ea, eb, hj, q⟩⟩ := h
  obtain rfl : v = Value.ref a := rx
  obtain rfl : u = Value.ref b := ry
  obtain ⟨_, ya, va, ra, da⟩ := dk_rd I.hok ea
  obtain ⟨_, yb, vb, rb, db⟩ := dk_rd I.hok eb
  refine PySem.W.keq_eq (knd := mixKind X.prog X.w) ya yb da db (by omega) (fun _ => hits_j I hu rb ra hj) (fin_bl I q ?_)
  show dictEqB ks ls e = _
  unfold dictEqB
  rw [ra.length, rb.length]
  cases hq : (va.length == vb.length) <;> simp_all
theorem op_pgEqN (hu : X.A.units + 70 < cLine) : OpR X (compareOp .NotEq) (rPgEq X.K true) := by
  intro pins s σ H x y v u Q I rx ry h
  obtain ⟨⟨a, b, ks, ls, e, rfl, rfl, ea, eb, hj, q⟩⟩ := h
  obtain rfl : v = Value.ref a := rx
  obtain rfl : u = Value.ref b := ry
  obtain ⟨_, ya, va, ra, da⟩ := dk_rd I.hok ea
  obtain ⟨_, yb, vb, rb, db⟩ := dk_rd I.hok eb
  refine PySem.W.keq_ne (knd := mixKind X.prog X.w) ya yb da db (by omega) (fun _ => hits_j I hu rb ra hj) (fin_bl I q ?_)
  show (!dictEqB ks ls e) = _
  unfold dictEqB
  rw [ra.length, rb.length]
  cases hq : (va.length == vb.length) <;> simp_all
theorem pg_go {K : PySem.W.Frag} {H : Hp} {Q : VK} {a b : Addr} {ks ls : List (Key × V)} (e : Key → Bool) (ha : Rd H a (.dK ks)) (hb : Rd H b (.dK ls)) (h : ∀ p ∈ ks, ∀ v', valV ls p.1 = some v' → EqJ K H p.2 v' (e p.1)) (q : Q (.bl (dictEqB ks ls e)) H) :
    rPgEq K false (.ref a) (.ref b) H Q := ⟨⟨a, b, ks, ls, e, rfl, rfl, ha, hb, h, q⟩⟩
theorem pgN_go {K : PySem.W.Frag} {H : Hp} {Q : VK} {a b : Addr} {ks ls : List (Key × V)} (e : Key → Bool) (ha : Rd H a (.dK ks)) (hb : Rd H b (.dK ls)) (h : ∀ p ∈ ks, ∀ v', valV ls p.1 = some v' → EqJ K H p.2 v' (e p.1)) (q : Q (.bl (!dictEqB ks ls e)) H) :
    rPgEq K true (.ref a) (.ref b) H Q := ⟨⟨a, b, ks, ls, e, rfl, rfl, ha, hb, h, q⟩⟩
end
end Gc

namespace Gc
open PySem PySem.Spec PyProof.Rows L2
/-! ### sorted of texts, any number of them: a list, a dict's keys, a set -/
section
variable {X : Cx}
def rSortedSA (K : PySem.W.Frag) : List V → Hp → VK → Prop := fun vs H Q => ∃ (a : Addr) (xs : List Str), vs = [V.ref a] ∧ SqL K H a (xs.map V.str) ∧
  ∀ (ys : List Str), ys.Perm xs → sortedS ys = true → ∀ p, H p = none → Q (.ref p) (upd H p (.lst (ys.map V.str)))
theorem cr_sortedSA (hc : X.calm = true) : CallR X (.builtin "sorted") (rSortedSA X.K) := by
  intro pins s σ H vs us Q I r h
  obtain ⟨a, xs, rfl, hs, q⟩ := h
  obtain ⟨its, rv, hl, hz⟩ := I.list hs
  rw [Vals.ref1 r]
  have hlen0 := rv.length
  refine PyProof.Rows.sorted_strsAny hl.isList rv.strs (by rw [← hlen0]; exact hz) fun out ys h1 h2 h3 => ?_
  obtain ⟨ep, he'⟩ := PyProof.Rows.sortedAll_at s.heap its out
  have hlen : (ys.map V.str).length ≤ sizeLine := by rw [List.length_map, h2.length_eq]; rw [List.length_map] at hz; exact hz
  exact ⟨.ref _, upd H (s.heap.objs.size + 1) (.lst (ys.map V.str)), I.laid (t' := s.toks) (fun _ _ => PyProof.Rows.sortedAll_old) (Nat.le_succ _) ⟨hlen, out.toList, ep, vals_of_strs h1, he'⟩, rfl, q ys h2 h3 _ (I.hok.fresh (Nat.le_succ _))⟩
def rSortedDA : List V → Hp → VK → Prop := fun vs H Q => ∃ (a : Addr) (kvs : List (Key × V)) (ks : List Str), vs = [.ref a] ∧ Rd H a (.dK kvs) ∧ kvs.map (·.1) = ks.map Sum.inr ∧
  ∀ (ys : List Str), ys.Perm ks → sortedS ys = true → ∀ p, H p = none → Q (.ref p) (upd H p (.lst (ys.map V.str)))
theorem cr_sortedDA (hcalm : X.calm = true) : CallR X (.builtin "sorted") rSortedDA := by
  intro pins s σ H xs us Q I r q
  obtain ⟨a, kvs, ks, ex, hd, hks, q⟩ := q
  subst ex
  obtain ⟨u, eu, rx⟩ := vals1 r
  subst eu
  cases rx
  obtain ⟨z, lo, vs, rel, dd⟩ := dk_rd I.hok hd
  obtain ⟨ep, hat⟩ := dd.dictAt
  have hkeys : vs.map (·.1) = ks.map Sum.inr := rel.keys.symm.trans hks
  have hl : vs.length = ks.length := by
    have e := congrArg List.length hkeys
    rw [List.length_map, List.length_map] at e
    exact e
  have h16 : vs.length ≤ sizeLine := by rw [← rel.length]; exact z
  refine Calls.call_function_entry PyProof.Rows.kind_sorted PyProof.Rows.plain_sorted PyProof.Rows.entry_sorted (PyProof.Rows.args_sorted1 _) ?_
  unfold Builtin.«sorted»
  refine wpAny_bind (m := checkCount "sorted" 1 1 _) (wpAny_pure ?_)
  refine wpAny_bind (PySem.W.kdu_collect (A := X.A.in1) (PySem.W.kdl_dict (knd := mixKind X.prog X.w) (kvs := vs) (ep := ep) lo) (I.ok.hd hcalm) hat h16 fun h' tk acc hk hacc => ?_)
  have hal : acc.toList.length = ks.length := by rw [Array.length_toList, hacc.1, hl]
  have hS : StrsAre acc.toList ks := strs_at hal fun j v e => by
    obtain ⟨k, x, e1, e2⟩ := hacc.2 j v (by rw [← Array.getElem?_toList]; exact e)
    have e3 : (vs.map (·.1))[j]? = some k := by rw [List.getElem?_map, e1]; all_goals rfl
    rw [hkeys, List.getElem?_map] at e3
    cases e4 : ks[j]? with
    | none => rw [e4] at e3; cases e3
    | some y =>
      rw [e4] at e3
      have e5 : Sum.inr y = k := Option.some.inj e3
      subst e5
      obtain ⟨t, ev⟩ := Value.isStrOf_shape (x := y) (v := v) e2
      exact ⟨y, t, rfl, ev⟩
  have I1 : Inv X pins σ H { s with heap := h', toks := tk } := I.kept hk
  refine wpAny_bind (wpAny_newList ?_ (by rw [hal, ← hl]; exact h16))
  have hoL : (h'.push (seqObj "list" acc.toList.toArray 0)).get? h'.objs.size = some (seqObj "list" acc.toList.toArray 0) := Heap.get?_push_size _ rfl
  show wpAny _ _ _ _ _ { s with heap := h'.push (seqObj "list" acc.toList.toArray 0), toks := tk }
  refine wpAny_bind (wpAny_holding (wpAny_call_entry PyProof.Rows.slot_list_sort ⟨_, hoL, rfl⟩ PyProof.Rows.entry_list_sort
    (PyProof.Rows.list_sort_treeKAny strKind_oneLt (s := { s with heap := h'.push (seqObj "list" acc.toList.toArray 0), toks := tk }) hoL hS.keysOf (fun v₁ v₂ rest e => keyKind_strs (by rw [← e]; exact hS)) (by rw [hal, ← hl]; exact h16) fun st' hp hs => ⟨_, rfl, ?_⟩)
    (PyProof.Rows.args_list_sort _)))
  obtain ⟨ys, g1, g2, g3⟩ := sorted_out_str hS hp hs
  obtain ⟨e', he'⟩ := PyProof.Rows.sortedHeap_at (vs := acc.toList) (out := (arrOf st').map (·.2)) hoL
  have hlen : (ys.map V.str).length ≤ sizeLine := by
    rw [List.length_map, g2.length_eq, ← hl]
    exact h16
  refine wpAny_pure ⟨_, rfl, .ref h'.objs.size, upd H h'.objs.size (.lst (ys.map V.str)), I1.laid (t' := tk) (fun b u e => ?_) (Nat.le_refl _)
    (show ObjOk X.prog X.w _ _ _ (.lst (ys.map V.str)) from ⟨hlen, ((arrOf st').map (·.2)).toList, e', vals_of_strs g1, by rw [Array.toArray_toList]; exact he'⟩), rfl, q ys g2 g3 _ (I1.hok.fresh (Nat.le_refl _))⟩
  have hlt := Heap.lt_size e
  rw [PyProof.Rows.sortedHeap_old (Nat.ne_of_lt hlt) (by rw [size_push']; exact Nat.lt_succ_of_lt hlt)]
  exact Heap.get?_push_of_some _ e
end
end Gc

namespace Gc
open PySem PySem.Spec PyProof.Rows L2 L2H
/-! ### own exceptions (context None), a def called with the exception that is handled -/
theorem passLN {X : Cx} : Passes (L2N.CX X.prog X.w) X L2.E0 := by
  intro _ _ _ _ _ _ _ h
  obtain ⟨_, _, _, _, _, _, _, _, _, _, _, _, z⟩ := h
  exact z.elim
theorem takesN0 {X : Cx} : L2N.Takes X (fun _ _ _ _ => False) := by
  intro _ _ x
  obtain ⟨_, _, _, _, _, _, _, _, _, _, _, _, _, _, _, _, z⟩ := x
  exact z.elim
section
variable {P : Program} {w : World} {K : PySem.W.Frag} {mg : Str → Option Value} {base : Heap}
/-- a def that may raise -/
theorem okN {x qual : Str} {st : Stmt} {f : Addr} {fd : FuncData} {N ps : List Str} {k : Nat} {sp : Sp} (F : Fun K x qual st f fd) (S : FnScope N ps (defScope st))
    (len : ∀ vs H Q E, sp vs H Q E → vs.length = ps.length)
    (hbody : ∀ (cdv : Value) (A : Around) (outer : List Env) (s : Shared) (H : Hp) (vs : List V) (Q : VK) (E : XK), Room k (A.deeper (envOfC qual (defScope st) s.heap.objs.size f cdv)) → sp vs H Q E →
      ∃ t, PSs (cxOf (L2N.CX P w) P w K mg base N qual (defScope st) f cdv A outer s H E) (defBody st) t ∧ t { nx := fun _ H' => Q .non H', rt := Q } (L2.start N vs) H) :
    FnOk P w K mg base (L2N.CX P w) (k + 1) f fd ps sp := by
  obtain ⟨k1, k2, k3, k4, k5, k6, k7, k8, k9, rfl, lk, hcd⟩ := F.ex
  exact L2.fn_of lk hcd S len (fun A outer s H vs Q E hr q => hbody k7 A outer s H vs Q E hr q)
/-- what a def promises that is called with the exception in hand: a its address, c its class, dx its dict -/
structure FnE (P : Program) (w : World) (K : PySem.W.Frag) (mg : Str → Option Value) (base : Heap) (k : Nat) (f : Addr) (fd : FuncData) (ps : List Str) (sp : Addr → Value → Option Addr → Sp) : Prop where
  len : ∀ a c dx vs H Q E, sp a c dx vs H Q E → vs.length = ps.length
  run : ∀ (A : Around) (outer : List Env) (s : Shared) (H : Hp) (us : List Value) (vs : List V) (Q : VK) (p : Addr × Obj) (c : Value) (dx : Option Addr), RoomH k A → Hot1 A p → Zc c dx p.2 → PinOk outer H s p → Env0 P w K mg base A outer s H →
    BindsTo s fd ⟨us, []⟩ (ps.zip us) → Vals vs us → sp p.1 c dx vs H Q L2.E0 → codeAny (model P w) A (.call (.ref f) ⟨us, []⟩) (CR L2.CX0 outer P w H s Q L2.E0) s
theorem fnE_of {x qual : Str} {st : Stmt} {f : Addr} {fd : FuncData} {N ps : List Str} {k : Nat} {sp : Addr → Value → Option Addr → Sp} (F : Fun K x qual st f fd) (S : FnScope N ps (defScope st))
    (len : ∀ a c dx vs H Q E, sp a c dx vs H Q E → vs.length = ps.length)
    (body : ∀ (cdv : Value) (A : Around) (outer : List Env) (s : Shared) (H : Hp) (vs : List V) (Q : VK) (a : Addr) (oe : Obj) (c : Value) (dx : Option Addr), Hot1 A (a, oe) → Zc c dx oe → RoomH k (A.deeper (envOfC qual (defScope st) s.heap.objs.size f cdv)) → sp a c dx vs H Q L2.E0 →
      ∃ t, PSs (cxH L2.CX0 P w K mg base N qual (defScope st) f cdv A outer s H L2.E0 (a, oe)) (defBody st) t ∧ t { nx := fun _ H' => Q .non H', rt := Q } (L2.start N vs) H) :
    FnE P w K mg base (k + 1) f fd ps sp := by
  obtain ⟨k1, k2, k3, k4, k5, k6, k7, k8, k9, rfl, lk, hcd⟩ := F.ex
  refine ⟨len, ?_⟩
  rintro A outer s H us vs Q ⟨a, oe⟩ c dx hr hot hz hpin e0 hb r hsp
  have hl := len _ _ _ _ _ _ _ hsp
  have kIn : K.In s.heap := e0.mod.kin.keeps (fun b o q => (e0.bs b o q).1)
  have hlim : s.heap.NoLimit := e0.mod.nolimit.keeps (fun b o q => (e0.bs b o q).1)
  have kinds : ∀ y ∈ ps.zip us, (defScope st).names.lookup y.1 = some .local ∨ ((defScope st).names.lookup y.1 = some .cell ∧ ((cellsFrom (s.heap.objs.size + 1) (defScope st).names []).lookup y.1).isSome = true) := by
    rintro ⟨n, v⟩ hy
    exact (S.par n (List.of_mem_zip hy).1).imp id (fun q => ⟨q, PySem.W.cellsFrom_some _ _ _ (.inl q)⟩)
  refine codeAny_call_function hr.depth (kIn _ _ lk) rfl S.co S.gen rfl (PySem.W.codeRec_of kIn hcd) (hb _ _ _ _ (wpAny_newFunctionEnv_cells S.kind kinds (fun env he s1 z => ?_)))
  subst he
  refine ⟨hlim.keeps z.toInCall.keep, codeAny_func ?_⟩
  obtain ⟨t, ht, hq⟩ := body k7 A outer s H vs Q a oe c dx hot hz (hr.deeper _) hsp
  have I := inv_startH (CX := L2.CX0) (E := L2.E0) (f := f) (cd := k7) S hpin e0 hl r z
  refine wpAny_mono (ht.run [] s1 _ H _ I hq) (fun fl s' hs => ?_) (fun _ _ q => q)
  cases fl with
  | ret u =>
    obtain ⟨v, σ', H', J, rv, q⟩ := hs
    exact ⟨v, H', J.os, J.bare, J.base, J.hok, rv, q⟩
  | next =>
    obtain ⟨σ', H', J, q⟩ := hs
    exact ⟨V.non, H', J.os, J.bare, J.base, J.hok, rfl, q⟩
  | brk => exact (let ⟨_, _, _, q⟩ := hs; q.elim)
  | cont => exact (let ⟨_, _, _, q⟩ := hs; q.elim)
end
section
variable {X : Cx} {k : Nat} {f C : Addr} {fd : FuncData} {ps : List Str} {x : Str} {q pos : Pos} {e : Expr} {es : List Expr} {t : TA}
/-- its call, within the suite -/
theorem pe_callE {sp : Addr → Value → Option Addr → Sp} {a : Addr} {oe : Obj} {c : Value} {dx : Option Addr} (F : FnE X.prog X.w X.K X.mg X.base k f fd ps sp) (hr : RoomH k X.A) (hot : Hot1 X.A (a, oe)) (hz : Zc c dx oe) (hp : (a, oe) ∈ X.pn)
    (hg : Gl X x) (hm : X.mg x = some (.ref f)) (hk : PySem.W.keepIn X.K (.ref f) = true) (hb : Binds X.K fd ps []) (ha : PA X (e :: es) t)
    (hdb : (x == ("__debug__" : Str)) = false := by decide) (he : starEach (e :: es) X.env = (false, eval e X.env) :: starEach es X.env := by rfl) (hpl : (backTo pos (starEach es X.env)).any (·.1) = false := by rfl) :
    PE X (.Call (.Name x q) (e :: es) [] pos) (tCallS (sp a c dx) (fun _ => L2.E0) t) := by
  refine ⟨?_⟩
  intro pins s σ H Q I h
  refine wpAny_Call_Name_kw (ld_glob I hg hm (PySem.W.callWith_K (h₀ := X.base) I.ok.mod.kin hk (thn (ha.run pos pins s σ H _ I h) fun us s1 z => ?_) he hpl) hdb)
  obtain ⟨vs, H1, I1, r, hsp⟩ := z
  refine ⟨I1.kIn, ?_⟩
  have hl : us.length = ps.length := r.length.symm.trans (F.len _ _ _ _ _ _ _ hsp)
  have b := hb s1 us I1.kIn (by rw [List.append_nil]; exact hl)
  rw [List.append_nil] at b
  have P1 := I1.pin (a, oe) (List.mem_append_left _ hp)
  have hpin : PinOk X.stack H1 s1 (a, oe) := ⟨P1.1, P1.2.1, fun m => (List.mem_cons.mp (I1.stkSub a m)).elim P1.2.2.1 P1.2.2.2.1, P1.2.2.2.2⟩
  refine wpAny_call (codeAny_mono (F.run X.A X.stack s1 H1 us vs Q (a, oe) c dx hr hot hz hpin I1.env0 b r hsp) fun r' s' hq => ?_)
  cases r' with
  | error e => exact hq.elim
  | ok fl =>
    cases fl with
    | ret u => exact I1.after hq
    | next => exact hq.elim
    | brk => exact hq.elim
    | cont => exact hq.elim
/-- isinstance(e, c), e the exception in hand -/
theorem call_isP {a D : Addr} {oe : Obj} (c : ExcC X.K D) (hp : (a, oe) ∈ X.pn) (hz : Zc (.ref D) none oe) (hf : ∃ vs, oe.data = .fields vs) : CallR X (.builtin "isinstance") (rIsE X.K D a) := by
  obtain ⟨vs, hv⟩ := hf
  intro pins s σ H xs us Q I r h
  obtain ⟨y, cv, b, e, hcv, hk, hq⟩ := h
  subst e
  obtain ⟨u1, r1, e1, z1, rest⟩ : ∃ u1 r1, us = u1 :: r1 ∧ RelV (.ref a) u1 ∧ Vals [y] r1 := by
    cases r with
    | cons rx rr => exact ⟨_, _, rfl, rx, rr⟩
  obtain ⟨u2, e2, z2⟩ : ∃ u2, r1 = [u2] ∧ RelV y u2 := by
    cases rest with
    | cons rx rr => cases rr; exact ⟨_, rfl, rx⟩
  obtain rfl : u1 = Value.ref a := z1
  rw [hcv _ z2] at e2
  subst e2
  subst e1
  have hget := (I.pin (a, oe) (List.mem_append_left _ hp)).1
  have J : PySem.W.InstAt s.heap a oe D none := by
    obtain ⟨oc, od, dd, sl⟩ := oe
    have h1 : oc = .ref D := hz.1
    have h2 : od = none := hz.2
    have h3 : dd = .fields vs := hv
    subst h1 h2 h3
    exact ⟨hget, rfl, rfl, trivial⟩
  exact PySem.W.kia_one (PySem.W.handS_kitx_exc c.hg c.hk c.hs c.hd c.ha c.hn c.ht c.hm) I.kIn J hk (fun z => nomatch z) (fun tk => ⟨.bl b, H, I.kept (t' := tk) (fun _ _ z => z), rfl, hq⟩)
/-- C(a, ..) where __init__ may raise, in a try -/
def tMakeS (C : Addr) (sp : Sp) (E : L2.St → XK) (t : TA) : TE := fun σ H Q => t σ H fun vs H1 => ∀ x dx, H1 x = none → H1 dx = none → dx ≠ x → sp (.ref x :: vs) (upd (upd H1 dx (.own x)) x (.ins C dx [])) (fun v H2 => v = .non ∧ Q (.ref x) H2) (E σ)
theorem pe_makeS {CX : CXT} {E : L2.St → XK} {sp : Sp} (M : Mk X.K C f) (F : FnOk X.prog X.w X.K X.mg X.base CX k f fd ps sp) (hr : Room (k + 1) X.A) (hg : Gl X x) (hm : X.mg x = some (.ref C)) (hb : Binds X.K fd ps []) (hx : ∀ σ, PassesAt CX X σ (E σ))
    (ha : PA X (e :: es) t) (hdb : (x == ("__debug__" : Str)) = false := by decide) (he : starEach (e :: es) X.env = (false, eval e X.env) :: starEach es X.env := by rfl) (hpl : (backTo pos (starEach es X.env)).any (·.1) = false := by rfl) :
    PE X (.Call (.Name x q) (e :: es) [] pos) (tMakeS C sp E t) := by
  refine ⟨?_⟩
  intro pins s σ H Q I h
  refine wpAny_Call_Name_kw (ld_glob I hg hm (PySem.W.callWith_K (h₀ := X.base) I.ok.mod.kin M.kp (thn (ha.run pos pins s σ H _ I h) fun us s1 z => ?_) he hpl) hdb)
  obtain ⟨vs, H1, I1, r, hsp⟩ := z
  refine ⟨I1.kIn, ?_⟩
  have q1 := hsp (s1.heap.objs.size + 1) s1.heap.objs.size (I1.hok.fresh (Nat.le_succ _)) (I1.hok.fresh (Nat.le_refl _)) (Nat.ne_of_lt (Nat.lt_succ_self _))
  have J := Inv.made (C := C) I1
  have rv : Vals (V.ref (s1.heap.objs.size + 1) :: vs) (Value.ref (s1.heap.objs.size + 1) :: us) := .cons rfl r
  have hl : (Value.ref (s1.heap.objs.size + 1) :: us).length = ps.length := rv.length.symm.trans (F.len _ _ _ _ q1)
  have b := hb _ (Value.ref (s1.heap.objs.size + 1) :: us) J.kIn (by rw [List.append_nil]; exact hl)
  rw [List.append_nil] at b
  refine wpAny_call (make_map (f := f) I1.kIn M.makes M.init (beq_iff_eq.mp M.fn) (codeAny_mono (F.run _ X.stack _ _ _ _ _ _ (E σ) (hr.make C us []) (J.env0.make C us []) b rv q1) fun r' s' hq => ?_))
  cases r' with
  | error e => exact hx σ _ _ _ e s' J hq
  | ok fl =>
    cases fl with
    | ret u =>
      obtain ⟨v, H', J2, rv2, ev, q3⟩ := J.after hq
      rw [ev] at rv2
      exact ⟨rv2, ⟨V.ref (s1.heap.objs.size + 1), H', J2, rfl, q3⟩⟩
    | next => exact hq.elim
    | brk => exact hq.elim
    | cont => exact hq.elim
end
/-- o.m(e, ..) within a try: what it raises is wished for at the slots as they stand -/
def tMethS (C : Addr) (m : Str) (sp : Sp) (E : L2.St → XK) (ta : TE) (t : TA) : TE := fun σ H Q => ta σ H fun x H1 => ∃ a dx fs, x = .ref a ∧ H1 a = some (.ins C dx fs) ∧ fs.lookup m = none ∧ t σ H1 fun vs H2 => sp (x :: vs) H2 Q (E σ)
theorem pe_methS {X : Cx} {CX : CXT} {k : Nat} {f C : Addr} {fd : FuncData} {ps : List Str} {sp : Sp} {E : L2.St → XK} {m : Str} {pos apos : Pos} {e o : Expr} {es : List Expr} {ta : TE} {t : TA} {pl : Sem Bool} (he : PE X o ta) (c : Cls X.K C) (hm : Meth X.K C m f)
    (F : FnOk X.prog X.w X.K X.mg X.base CX k f fd ps sp) (hr : Room k X.A) (hb : Binds X.K fd ps []) (hx : ∀ σ, PassesAt CX X σ (E σ)) (ha : PA X (e :: es) t)
    (hst : starEach (e :: es) X.env = (false, eval e X.env) :: starEach es X.env := by rfl) (hpl : (backTo pos (starEach es X.env)).any (·.1) = false := by rfl)
    (ht : eval (.Call (.Attribute o m apos) (e :: es) [] pos) X.env = (do
      let ov ← eval o X.env
      standAt apos.atName
      let (f, first) ← holding [ov] (getMethod ov m pl)
      callWith pos f first (backTo pos (starEach (e :: es) X.env)) (backToKw pos (keywordEach [] X.env))) := by rfl) :
    PE X (.Call (.Attribute o m apos) (e :: es) [] pos) (tMethS C m sp E ta t) := by
  refine ⟨fun pins s σ H Q I h => ?_⟩
  refine PySem.W.methodCall_KW (pl := pl) (thn (he.run pins s σ H _ I h) fun u s1 ⟨x, H1, I1, rx, a, dx, fs, ex, ea, l, q⟩ => ?_) ht
  subst ex
  obtain rfl : u = Value.ref a := rx
  refine getmeth_ok I1 ea c hm l ?_
  refine PySem.W.callWith_K (first := [.ref a]) (h₀ := X.base) I.ok.mod.kin hm.kp (thn (ha.run pos pins s1 σ H1 _ I1 q) fun us s2 ⟨vs, H2, I2, r, q2⟩ => ⟨I2.kIn, ?_⟩) hst hpl
  exact run_fnS (us := .ref a :: us) (vs := .ref a :: vs) F hr hb (hx σ) I2 (.cons rfl r) q2
/-- the suite's room and exception -/
theorem roomMark {k j : Nat} {A : Around} {v : Option Value} (hr : Room j A) (h : k ≤ j) : RoomH k (A.mark v) := ⟨(hr.mono h).dp, (hr.mono h).un⟩
theorem hotMark {A : Around} {a : Addr} {oe : Obj} {c : Value} {dx : Option Addr} (hz : L2N.Zn c dx oe) (hf : ∃ vs, oe.data = .fields vs) : Hot1 (A.mark (some (.ref a))) (a, oe) := by
  obtain ⟨vs, hv⟩ := hf
  exact ⟨rfl, vs, hv, hz.2.2 vs hv⟩
end Gc

namespace Gc
open PySem L2 Evl
/-! ### what may be read stays: locks come and go, new things come -/
def Er (H H' : Hp) : Prop := ∀ a o, H a = some o → H' a = some o ∨ ∃ kvs : List (Key × V), (o = .dK kvs ∨ ∃ od, o = .frz od (.dK kvs)) ∧ Rd H' a (.dK kvs)
theorem Er.refl (H : Hp) : Er H H := fun _ _ h => .inl h
theorem Er.of {H H' : Hp} (e : Ex H H') : Er H H' := fun a o h => .inl (e a o h)
theorem Er.rd {H H' : Hp} (e : Er H H') {a : Addr} {kvs : List (Key × V)} (h : Rd H a (.dK kvs)) : Rd H' a (.dK kvs) := by
  rcases h with h | ⟨od, h⟩
  · rcases e a _ h with q | ⟨kk, q1, q2⟩
    · exact .inl q
    · rcases q1 with q1 | ⟨_, q1⟩
      · cases q1; exact q2
      · cases q1
  · rcases e a _ h with q | ⟨kk, q1, q2⟩
    · exact .inr ⟨_, q⟩
    · rcases q1 with q1 | ⟨_, q1⟩
      · cases q1
      · cases q1; exact q2
theorem Er.trans {H H1 H2 : Hp} (e : Er H H1) (f : Er H1 H2) : Er H H2 := fun a o h => by
  rcases e a o h with q | ⟨kvs, q1, q2⟩
  · exact f a o q
  · exact .inr ⟨kvs, q1, f.rd q2⟩
theorem Er.tup {H H' : Hp} (e : Er H H') {a : Addr} {xs : List V} (h : H a = some (.tup xs)) : H' a = some (.tup xs) := by
  rcases e a _ h with q | ⟨kk, q1, q2⟩
  · exact q
  · rcases q1 with q1 | ⟨_, q1⟩ <;> cases q1
theorem Er.lst {H H' : Hp} (e : Er H H') {a : Addr} {xs : List V} (h : H a = some (.lst xs)) : H' a = some (.lst xs) := by
  rcases e a _ h with q | ⟨kk, q1, q2⟩
  · exact q
  · rcases q1 with q1 | ⟨_, q1⟩ <;> cases q1
theorem Er.ftup {H H' : Hp} (e : Er H H') {a : Addr} {od} {xs : List V} (h : H a = some (.frz od (.tup xs))) : H' a = some (.frz od (.tup xs)) := by
  rcases e a _ h with q | ⟨kk, q1, q2⟩
  · exact q
  · rcases q1 with q1 | ⟨_, q1⟩ <;> cases q1
theorem Er.flst {H H' : Hp} (e : Er H H') {a : Addr} {od} {xs : List V} (h : H a = some (.frz od (.lst xs))) : H' a = some (.frz od (.lst xs)) := by
  rcases e a _ h with q | ⟨kk, q1, q2⟩
  · exact q
  · rcases q1 with q1 | ⟨_, q1⟩ <;> cases q1
theorem Er.sqT {K : PySem.W.Frag} {H H' : Hp} (e : Er H H') {a : Addr} {xs : List V} (h : SqT K H a xs) : SqT K H' a xs := by
  rcases h with (h | ⟨o, h⟩) | h
  · exact .inl (.inl (e.tup h))
  · exact .inl (.inr ⟨o, e.ftup h⟩)
  · exact .inr h
theorem Er.sqL {K : PySem.W.Frag} {H H' : Hp} (e : Er H H') {a : Addr} {xs : List V} (h : SqL K H a xs) : SqL K H' a xs := by
  rcases h with (h | ⟨o, h⟩) | h
  · exact .inl (.inl (e.lst h))
  · exact .inl (.inr ⟨o, e.flst h⟩)
  · exact .inr h
theorem Er.lock {H : Hp} {d : Addr} {od : Obj} {kvs : List (Key × V)} (h : H d = some (.dK kvs)) : Er H (upd H d (.frz od (.dK kvs))) := fun a o q => by
  by_cases e : a = d
  · subst e
    rw [h] at q
    cases q
    exact .inr ⟨kvs, .inl rfl, .inr ⟨od, upd_same⟩⟩
  · exact .inl (by rw [upd_ne e]; exact q)
theorem Er.unlock {H : Hp} {d : Addr} {od : Obj} {kvs : List (Key × V)} (h : H d = some (.frz od (.dK kvs))) : Er H (upd H d (.dK kvs)) := fun a o q => by
  by_cases e : a = d
  · subst e
    rw [h] at q
    cases q
    exact .inr ⟨kvs, .inr ⟨od, rfl⟩, .inl upd_same⟩
  · exact .inl (by rw [upd_ne e]; exact q)
theorem lock_ex {H H' : Hp} {d : Addr} {od : Obj} {u : HO} (e : Ex (upd H d (.frz od u)) H') (h : H d = some u) : Ex H (upd H' d u) := fun a o q => by
  by_cases c : a = d
  · subst c
    rw [h] at q
    cases q
    exact upd_same
  · rw [upd_ne c]
    exact e a o (by rw [upd_ne c]; exact q)
/-- behind a loop over a dict that only made new things -/
theorem unl {H H' : Hp} {d : Addr} {od : Obj} {u : HO} {R : Hp → Prop} (hd : H d = some u) (e : Ex (upd H d (.frz od u)) H') (h : ∀ H2, Ex H H2 → R H2) : H' d = some (.frz od u) ∧ R (upd H' d u) :=
  ⟨e d _ upd_same, h _ (lock_ex e hd)⟩
/-- x's type, whatever it is -/
theorem Er.ty {K : PySem.W.Frag} {H H' : Hp} {x : V} {t : Value} (e : Er H H') (h : TyX K H x t) : TyX K H' x t := by
  cases h with
  | base b =>
    cases b with
    | non => exact .base .non
    | bl y => exact .base (.bl y)
    | int y => exact .base (.int y)
    | str y => exact .base (.str y)
    | flt y => exact .base (.flt y)
    | lst q => exact .base (.lst (e.lst q))
    | @frz a ob xs q => exact .base (.frz (e.flst q))
    | tup q => exact .base (.tup (e.tup q))
    | dK q => exact tyx_d (e.rd (.inl q))
    | dT q =>
      rcases e _ _ q with q | ⟨kk, q1, q2⟩
      · exact .base (.dT q)
      · rcases q1 with q1 | ⟨_, q1⟩ <;> cases q1
    | ins q c a n k m =>
      rcases e _ _ q with q | ⟨kk, q1, q2⟩
      · exact .base (.ins q c a n k m)
      · rcases q1 with q1 | ⟨_, q1⟩ <;> cases q1
  | byt b => exact .byt b
  | set q =>
    rcases e _ _ q with q | ⟨kk, q1, q2⟩
    · exact .set q
    · rcases q1 with q1 | ⟨_, q1⟩ <;> cases q1
  | kList q c => exact .kList q c
  | kTuple q c => exact .kTuple q c
  | kDict q c => exact .kDict q c
  | fTuple q => exact .fTuple (e.ftup q)
  | fDict q => exact tyx_d (e.rd (.inr ⟨_, q⟩))
theorem Er.whole {K : PySem.W.Frag} {H H' : Hp} {x : V} {b : Bool} (e : Er H H') (h : WholeJ K H x b) : WholeJ K H' x b := by
  obtain ⟨t, b1, b2, h1, h2⟩ := h
  exact ⟨t, b1, b2, e.ty h1, h2⟩
/-- len of a dict, locked or not -/
theorem call_lenDR {X : Cx} : CallR X (.builtin "len") (fun xs H Q => ∃ a kvs, xs = [V.ref a] ∧ Rd H a (.dK kvs) ∧ Q (.int (kvs : List (Key × V)).length) H) := by
  intro pins s σ H xs us Q I r h
  obtain ⟨a, kvs, rfl, ha, q⟩ := h
  obtain ⟨u, rfl, ru⟩ := vals1 r
  cases ru
  exact d_len I ha fun t s' I' => ⟨.int kvs.length, H, I', ⟨t, rfl⟩, q⟩
/-- d[k] of a dict by keys, locked or not -/
theorem dget_k {H : Hp} {a : Addr} {kvs : List (Key × V)} {k : Key} {v : V} (e : Rd H a (.dK kvs)) (h : valV kvs k = some v) : DGet H a (kV k) (some v) := .inl ⟨kvs, k, e, rfl, h.symm⟩
theorem dget_o {H : Hp} {a : Addr} {kvs : List (Key × V)} (k : Key) (e : Rd H a (.dK kvs)) : DGet H a (kV k) (valV kvs k) := .inl ⟨kvs, k, e, rfl, rfl⟩
/-! ### pages that are built by putting -/
def putAll (ps : List (Key × V)) : List (Key × V) := ps.foldl (fun acc p => putK acc p.1 p.2) []
theorem putAll_snoc (ps : List (Key × V)) (p : Key × V) : putAll (ps ++ [p]) = putK (putAll ps) p.1 p.2 := by unfold putAll; rw [List.foldl_append]; rfl
theorem nd_put {κ : Type} [DecidableEq κ] {kvs : List (κ × V)} {k : κ} (v : V) (hn : (kvs.map (·.1)).Nodup) : ((putK kvs k v).map (·.1)).Nodup := by
  unfold putK
  split
  · rw [List.map_map]
    have e : ((fun x : κ × V => x.1) ∘ fun kv : κ × V => if kv.1 = k then (kv.1, v) else kv) = fun x => x.1 := by
      funext x
      show (if x.1 = k then (x.1, v) else x).1 = x.1
      split <;> rfl
    rw [e]
    exact hn
  · rename_i h
    have : valV kvs k = none := by
      have q := valV_any k kvs
      cases z : valV kvs k with
      | none => rfl
      | some y => rw [z] at q; exact absurd q h
    have q := nd_putK v hn this
    unfold putK at q
    rw [if_neg h] at q
    exact q
theorem snoc_ind {α : Type} {P : List α → Prop} (h0 : P []) (h1 : ∀ l a, P l → P (l ++ [a])) : ∀ l, P l := by
  intro l
  have : ∀ n (l : List α), l.length = n → P l := by
    intro n
    induction n with
    | zero => intro l e; rw [List.eq_nil_of_length_eq_zero e]; exact h0
    | succ n ih =>
      intro l e
      have hl : l ≠ [] := by intro z; rw [z] at e; cases e
      rw [← List.dropLast_concat_getLast hl]
      exact h1 _ _ (ih _ (by rw [List.length_dropLast]; omega))
  exact this _ l rfl
theorem putAll_nd : ∀ ps : List (Key × V), ((putAll ps).map (·.1)).Nodup := by
  refine snoc_ind List.nodup_nil (fun l a h => ?_)
  rw [putAll_snoc]
  exact nd_put _ h
theorem putAll_len : ∀ ps : List (Key × V), (putAll ps).length ≤ ps.length := by
  refine snoc_ind (Nat.le_refl _) (fun l a h => ?_)
  rw [putAll_snoc, List.length_append]
  have := length_putK (putAll l) a.1 a.2
  show _ ≤ l.length + 1
  omega
theorem putAll_eq : ∀ ps : List (Key × V), (putAll ps).length = ps.length → putAll ps = ps := by
  refine snoc_ind (fun _ => rfl) (fun l a h hl => ?_)
  rw [putAll_snoc] at hl ⊢
  rw [List.length_append] at hl
  have h1 := length_putK (putAll l) a.1 a.2
  have h2 := putAll_len l
  have hl' : (putK (putAll l) a.1 a.2).length = l.length + 1 := hl
  have e := h (by omega)
  rw [e] at hl' ⊢
  unfold putK at hl' ⊢
  split
  · rename_i c
    rw [if_pos c, List.length_map] at hl'
    omega
  · rfl
theorem valV_mem {κ : Type} [DecidableEq κ] {kvs : List (κ × V)} {k : κ} {v : V} (h : valV kvs k = some v) : (k, v) ∈ kvs := by
  unfold valV at h
  cases z : kvs.find? fun kv => decide (kv.1 = k) with
  | none => rw [z] at h; cases h
  | some p =>
    rw [z] at h
    have e1 : p.2 = v := by simpa using h
    have e2 : p.1 = k := of_decide_eq_true (List.find?_some (p := fun kv : κ × V => decide (kv.1 = k)) z)
    rw [← e1, ← e2]
    exact List.mem_of_find?_eq_some z
theorem valV_some {κ : Type} [DecidableEq κ] {kvs : List (κ × V)} {p : κ × V} (h : p ∈ kvs) : ∃ v, valV kvs p.1 = some v := by
  have q := valV_any p.1 kvs
  have : (kvs.any fun kv => decide (kv.1 = p.1)) = true := List.any_eq_true.mpr ⟨p, h, decide_eq_true rfl⟩
  rw [this] at q
  cases z : valV kvs p.1 with
  | none => rw [z] at q; cases q
  | some v => exact ⟨v, rfl⟩
theorem rd_fz {H : Hp} {a : Addr} {o : Obj} {u : HO} (h : H a = some (.frz o u)) : Rd H a u := .inr ⟨o, h⟩
theorem isD_of {H : Hp} {a : Addr} {kvs : List (Key × V)} (h : Rd H a (.dK kvs)) : IsD H a := .inl ⟨kvs, h⟩
/-- a for whose body neither returns nor breaks: its goal is small -/
theorem for_go {J : It} {n : Nat} {G : Hp → Prop} {Y : Nat → Hp → V → Hp → Prop} (w : Walk J n G Y) {g : TG} {tb : TS} {D : Ends} {σ : L2.St} {H : Hp} (Pv : Nat → L2.St → Hp → Prop) (h0 : Pv 0 σ H) (hG : ∀ i σ H, i ≤ n → Pv i σ H → G H)
    (hs : ∀ (R : VK) (B : L2.St → Hp → Prop) i x σ H H', i < n → Pv i σ H → Y i H x H' → g x σ H' fun σ2 H2 => tb ⟨Pv (i + 1), R, B, Pv (i + 1)⟩ σ2 H2) (hd : ∀ σ H, Pv n σ H → D.nx σ H) :
    ∃ W : Nat → Nat → L2.St → Hp → Prop, (∃ m, W 0 m σ H) ∧ ∀ i m σ H, W i m σ H →
      (J.stop i H ∧ D.nx σ H) ∨ (J.go i H ∧ ∃ N : L2.St → Hp → Prop, (∀ σ' H', N σ' H' → ∃ m', m' < m ∧ W (i + 1) m' σ' H') ∧ ∀ x H', J.yld i H x H' → g x σ H' fun σ2 H2 => tb { D with nx := N, ct := N, bk := D.nx } σ2 H2) :=
  for_it w Pv h0 hG (fun i x σ H H' hi hp hy => hs D.rt D.nx i x σ H H' hi hp hy) hd
/-- a cut whose first statement neither returns nor breaks -/
theorem cut_go {t u : TS} {D : Ends} {σ : L2.St} {H : Hp} (Mid : L2.St → Hp → Prop) (h : ∀ (R : VK) (B E : L2.St → Hp → Prop), t ⟨Mid, R, B, E⟩ σ H) (h2 : ∀ σ' H', Mid σ' H' → u D σ' H') : C8.tCut t u D σ H := ⟨Mid, h D.rt D.bk D.ct, h2⟩
theorem er_mut {H H' : Hp} {p : Addr} {o : HO} (e : Er H H') (hp : H p = none) : Er H (upd H' p o) := fun a u q => by
  have c : a ≠ p := fun z => by rw [z, hp] at q; cases q
  rcases e a u q with z | ⟨kk, q1, q2⟩
  · exact .inl (by rw [upd_ne c]; exact z)
  · exact .inr ⟨kk, q1, q2.elim (fun z => .inl (by rw [upd_ne c]; exact z)) (fun ⟨od, z⟩ => .inr ⟨od, by rw [upd_ne c]; exact z⟩)⟩
/-- a statement with the rest of the program behind a name -/
theorem op_go {t u : TS} {D : Ends} {σ : L2.St} {H : Hp} (h : ∀ (N : L2.St → Hp → Prop) (R : VK) (B E : L2.St → Hp → Prop), (∀ σ' H', u D σ' H' → N σ' H') → (∀ v H', D.rt v H' → R v H') → t ⟨N, R, B, E⟩ σ H) : C8.tCut t u D σ H := ⟨u D, h _ D.rt D.bk D.ct (fun _ _ q => q) (fun _ _ q => q), fun _ _ q => q⟩
/-- the last statement -/
theorem end_go {t : TS} {D : Ends} {σ : L2.St} {H : Hp} (h : ∀ (N : L2.St → Hp → Prop) (R : VK) (B E : L2.St → Hp → Prop), (∀ σ' H', D.nx σ' H' → N σ' H') → (∀ v H', D.rt v H' → R v H') → t ⟨N, R, B, E⟩ σ H) : t D σ H := h _ _ D.bk D.ct (fun _ _ q => q) (fun _ _ q => q)
/-- types and tuples stay -/
structure Et (K : PySem.W.Frag) (H H' : Hp) : Prop where
  tp : ∀ a xs, SqT K H a xs → SqT K H' a xs
  ty : ∀ x t, TyX K H x t → TyX K H' x t
theorem Et.refl {K : PySem.W.Frag} (H : Hp) : Et K H H := ⟨fun _ _ h => h, fun _ _ h => h⟩
theorem Et.trans {K : PySem.W.Frag} {H H1 H2 : Hp} (e : Et K H H1) (f : Et K H1 H2) : Et K H H2 := ⟨fun a xs h => f.tp a xs (e.tp a xs h), fun x t h => f.ty x t (e.ty x t h)⟩
theorem Er.et {K : PySem.W.Frag} {H H' : Hp} (e : Er H H') : Et K H H' := ⟨fun _ _ h => e.sqT h, fun _ _ h => e.ty h⟩
theorem Et.of {K : PySem.W.Frag} {H H' : Hp} (e : Ex H H') : Et K H H' := (Er.of e).et
theorem Et.whole {K : PySem.W.Frag} {H H' : Hp} {x : V} {b : Bool} (e : Et K H H') (h : WholeJ K H x b) : WholeJ K H' x b := by
  obtain ⟨t, b1, b2, h1, h2⟩ := h
  exact ⟨t, b1, b2, e.ty _ _ h1, h2⟩
theorem et_mut {K : PySem.W.Frag} {H : Hp} {p : Addr} {o o' : HO} (h : H p = some o) (hk : (∃ xs ys, o = .lst xs ∧ o' = .lst ys) ∨ ∃ xs ys : List (Key × V), o = .dK xs ∧ o' = .dK ys) : Et K H (upd H p o') := by
  have nt : ∀ a xs, H a = some (.tup xs) → a ≠ p := fun a xs q z => by
    subst z
    rw [h] at q
    rcases hk with ⟨_, _, rfl, _⟩ | ⟨_, _, rfl, _⟩ <;> cases q
  have nf : ∀ a od u, H a = some (.frz od u) → a ≠ p := fun a od xs q z => by
    subst z
    rw [h] at q
    rcases hk with ⟨_, _, rfl, _⟩ | ⟨_, _, rfl, _⟩ <;> cases q
  refine ⟨fun a xs q => ?_, fun x t q => ?_⟩
  · rcases q with (q | ⟨od, q⟩) | q
    · exact .inl (.inl (by rw [upd_ne (nt _ _ q)]; exact q))
    · exact .inl (.inr ⟨od, by rw [upd_ne (nf _ _ _ q)]; exact q⟩)
    · exact .inr q
  · cases q with
    | base b =>
      cases b with
      | non => exact .base .non
      | bl y => exact .base (.bl y)
      | int y => exact .base (.int y)
      | str y => exact .base (.str y)
      | flt y => exact .base (.flt y)
      | @lst a xs q =>
        by_cases c : a = p
        · subst c
          rw [h] at q
          rcases hk with ⟨_, _, rfl, rfl⟩ | ⟨_, _, rfl, _⟩
          · exact .base (.lst upd_same)
          · cases q
        · exact .base (.lst (by rw [upd_ne c]; exact q))
      | frz q => exact .base (.frz (by rw [upd_ne (nf _ _ _ q)]; exact q))
      | tup q => exact .base (.tup (by rw [upd_ne (nt _ _ q)]; exact q))
      | @dK a xs q =>
        by_cases c : a = p
        · subst c
          rw [h] at q
          rcases hk with ⟨_, _, rfl, rfl⟩ | ⟨_, _, rfl, rfl⟩
          · cases q
          · exact .base (.dK upd_same)
        · exact .base (.dK (by rw [upd_ne c]; exact q))
      | @dT a xs q =>
        have c : a ≠ p := fun c => by subst c; rw [h] at q; rcases hk with ⟨_, _, rfl, _⟩ | ⟨_, _, rfl, _⟩ <;> cases q
        exact .base (.dT (by rw [upd_ne c]; exact q))
      | @ins a C dx fs q c1 a1 n1 k1 m1 =>
        have c : a ≠ p := fun c => by subst c; rw [h] at q; rcases hk with ⟨_, _, rfl, _⟩ | ⟨_, _, rfl, _⟩ <;> cases q
        exact .base (.ins (by rw [upd_ne c]; exact q) c1 a1 n1 k1 m1)
    | byt b => exact .byt b
    | @set a S n q =>
      have c : a ≠ p := fun c => by subst c; rw [h] at q; rcases hk with ⟨_, _, rfl, _⟩ | ⟨_, _, rfl, _⟩ <;> cases q
      exact .set (by rw [upd_ne c]; exact q)
    | kList q c => exact .kList q c
    | kTuple q c => exact .kTuple q c
    | kDict q c => exact .kDict q c
    | fTuple q => exact .fTuple (by rw [upd_ne (nf _ _ _ q)]; exact q)
    | fDict q => exact .fDict (by rw [upd_ne (nf _ _ _ q)]; exact q)
theorem Et.lst {K : PySem.W.Frag} {H : Hp} {p : Addr} {xs ys : List V} (h : H p = some (.lst xs)) : Et K H (upd H p (.lst ys)) := et_mut h (.inl ⟨_, _, rfl, rfl⟩)
theorem Et.dK {K : PySem.W.Frag} {H : Hp} {p : Addr} {xs ys : List (Key × V)} (h : H p = some (.dK xs)) : Et K H (upd H p (.dK ys)) := et_mut h (.inr ⟨_, _, rfl, rfl⟩)
/-- a loop over a dict -/
theorem lock_go {t : TS} {D : Ends} {σ : L2.St} {H : Hp} {d : Addr} {kvs : List (Key × V)} (hd : H d = some (.dK kvs))
    (h : ∀ od H1, H1 d = some (.frz od (.dK kvs)) → Er H H1 → (∀ H', Ex H1 H' → Ex H (upd H' d (.dK kvs))) → (∀ a, a ≠ d → H1 a = H a) →
      t ⟨fun σ' H' => H' d = some (.frz od (.dK kvs)) ∧ D.nx σ' (upd H' d (.dK kvs)), fun v H' => H' d = some (.frz od (.dK kvs)) ∧ D.rt v (upd H' d (.dK kvs)), fun σ' H' => H' d = some (.frz od (.dK kvs)) ∧ D.bk σ' (upd H' d (.dK kvs)), fun σ' H' => H' d = some (.frz od (.dK kvs)) ∧ D.ct σ' (upd H' d (.dK kvs))⟩ σ H1) :
    tLock t D σ H := ⟨d, _, hd, trivial, fun od => h od _ upd_same (Er.lock hd) (fun H' e => lock_ex e hd) (fun a c => upd_ne c)⟩
end Gc
/- reading facts along Ex and Er -/
local macro_rules | `(tactic| walk_at "gc_er") => `(tactic| first
  | assumption
  | exact Gc.Er.refl _
  | exact Gc.Er.of (by assumption)
  | (refine' Gc.Er.trans ?h (by assumption); (case h => walk_at "gc_er"))
  | (refine' Gc.Er.trans ?h (Gc.Er.of (by assumption)); (case h => walk_at "gc_er")))
local macro_rules | `(tactic| walk_at "gc_ra") => `(tactic| first
  | assumption
  | exact Evl.st_of (by assumption)
  | exact Evl.sq_of (by assumption)
  | exact L2.Rd.of (by assumption)
  | exact Gc.rd_fz (by assumption)
  | (refine' Gc.Er.sqT (by assumption) ?h; (case h => walk_at "gc_ra"))
  | (refine' Gc.Er.sqL (by assumption) ?h; (case h => walk_at "gc_ra"))
  | (refine' Gc.Er.rd (by assumption) ?h; (case h => walk_at "gc_ra"))
  | (refine' Gc.Er.sqT (Gc.Er.of (by assumption)) ?h; (case h => walk_at "gc_ra"))
  | (refine' Gc.Er.sqL (Gc.Er.of (by assumption)) ?h; (case h => walk_at "gc_ra"))
  | (refine' Gc.Er.rd (Gc.Er.of (by assumption)) ?h; (case h => walk_at "gc_ra")))
local macro_rules | `(tactic| walk_at "gc_et") => `(tactic| first
  | assumption
  | exact Gc.Et.refl _
  | exact Gc.Et.of (by assumption)
  | exact Gc.Er.et (by assumption)
  | exact Gc.Et.lst (by assumption)
  | exact Gc.Et.dK (by assumption)
  | (refine' Gc.Et.trans ?h (by assumption); (case h => walk_at "gc_et"))
  | (refine' Gc.Et.trans ?h (Gc.Et.of (by assumption)); (case h => walk_at "gc_et"))
  | (refine' Gc.Et.trans ?h (Gc.Er.et (by assumption)); (case h => walk_at "gc_et")))

namespace Gc
open PySem L2 Evl
def LIM : Int := 10 ^ 60
inductive NumJ (K : PySem.W.Frag) (H : Hp) : V → Option Int → Prop
  | int (i : Int) : NumJ K H (.int i) (some i)
  | odd {x : V} (h : WholeJ K H x false) : NumJ K H x none
def goodN : Option Int → Bool
  | some i => decide (0 ≤ i) && decide (i < LIM)
  | none => false
def pairB : Option Int → Option Int → Bool
  | some i, some j => goodN (some i) && (goodN (some j) && decide (0 < i + j))
  | _, _ => false
theorem NumJ.et {K : PySem.W.Frag} {H H' : Hp} (e : Et K H H') {x : V} {o : Option Int} (h : NumJ K H x o) : NumJ K H' x o := by
  cases h with
  | int i => exact .int i
  | odd h => exact .odd (e.whole h)
/-- what is_share answers of v -/
inductive ShJ (K : PySem.W.Frag) (H : Hp) : V → Bool → Prop
  | int (i : Int) : ShJ K H (.int i) false
  | oth {a : Addr} {t : String} (h : TyX K H (.ref a) (.type t)) (k : PySem.W.kitOne K (.type t) (.type "tuple") = some false) : ShJ K H (.ref a) false
  | len {a : Addr} {xs : List V} (h : SqT K H a xs) (n : ¬ xs.length = 2) : ShJ K H (.ref a) false
  | two {a : Addr} {x y : V} {o p : Option Int} (h : SqT K H a [x, y]) (hx : NumJ K H x o) (hy : NumJ K H y p) : ShJ K H (.ref a) (pairB o p)
theorem ShJ.et {K : PySem.W.Frag} {H H' : Hp} (e : Et K H H') {v : V} {b : Bool} (h : ShJ K H v b) : ShJ K H' v b := by
  cases h with
  | int i => exact .int i
  | oth h k => exact .oth (e.ty _ _ h) k
  | len h n => exact .len (e.tp _ _ h) n
  | two h hx hy => exact .two (e.tp _ _ h) (hx.et e) (hy.et e)
theorem ShJ.odd {K : PySem.W.Frag} {H : Hp} {a : Addr} {x y : V} {o p : Option Int} (h : SqT K H a [x, y]) (hx : NumJ K H x o) (hy : NumJ K H y p) (e : pairB o p = false) : ShJ K H (.ref a) false := e ▸ .two h hx hy
theorem ShJ.eqj {K : PySem.W.Frag} {H : Hp} {v : V} {b : Bool} (h : ShJ K H v b) : EqJ K H v v true := by
  cases h with
  | int i => exact .inr ⟨.int i, .int i, .int i, .int i, rfl, rfl, by simp [PyData.eqv]⟩
  | oth h k => exact .inl ⟨_, rfl, rfl, rfl⟩
  | len h n => exact .inl ⟨_, rfl, rfl, rfl⟩
  | two h hx hy => exact .inl ⟨_, rfl, rfl, rfl⟩
/-- keys -/
def keyB : Key → Bool
  | .inl _ => false
  | .inr z => nameB z
def keySz : Key → Prop
  | .inl _ => True
  | .inr z => z.length ≤ 100000
/-- a row: the tuple (k, v) -/
def RowAt (K : PySem.W.Frag) (H : Hp) (x : V) (p : Key × V) : Prop := ∃ r, x = .ref r ∧ SqT K H r [kV p.1, p.2]
theorem RowAt.et {K : PySem.W.Frag} {H H' : Hp} (e : Et K H H') {x : V} {p : Key × V} (h : RowAt K H x p) : RowAt K H' x p := by
  obtain ⟨r, h1, h2⟩ := h
  exact ⟨r, h1, e.tp _ _ h2⟩
def RowsAt (K : PySem.W.Frag) (H : Hp) (xs : List V) (ps : List (Key × V)) : Prop := xs.length = ps.length ∧ ∀ (i : Nat) (x : V) (p : Key × V), xs[i]? = some x → ps[i]? = some p → RowAt K H x p
theorem RowsAt.et {K : PySem.W.Frag} {H H' : Hp} (e : Et K H H') {xs : List V} {ps : List (Key × V)} (h : RowsAt K H xs ps) : RowsAt K H' xs ps := ⟨h.1, fun i x p h1 h2 => (h.2 i x p h1 h2).et e⟩
theorem RowsAt.nil {K : PySem.W.Frag} {H : Hp} : RowsAt K H [] [] := ⟨rfl, fun i x p h => by simp at h⟩
theorem RowsAt.snoc {K : PySem.W.Frag} {H : Hp} {xs : List V} {ps : List (Key × V)} {x : V} {p : Key × V} (h : RowsAt K H xs ps) (r : RowAt K H x p) : RowsAt K H (xs ++ [x]) (ps ++ [p]) := by
  refine ⟨by rw [List.length_append, List.length_append, h.1]; rfl, fun i y q h1 h2 => ?_⟩
  by_cases c : i < xs.length
  · rw [List.getElem?_append_left c] at h1
    rw [List.getElem?_append_left (by rw [← h.1]; exact c)] at h2
    exact h.2 i y q h1 h2
  · rw [List.getElem?_append_right (by omega)] at h1
    rw [List.getElem?_append_right (by rw [← h.1]; omega)] at h2
    rw [← h.1] at h2
    have e0 : i - xs.length = 0 := by
      cases z : i - xs.length with
      | zero => rfl
      | succ n => rw [z] at h1; simp at h1
    rw [e0] at h1 h2
    cases h1
    cases h2
    exact r
theorem RowsAt.set {K : PySem.W.Frag} {H : Hp} {xs : List V} {ps : List (Key × V)} {x : V} {p : Key × V} (h : RowsAt K H xs ps) (r : RowAt K H x p) (j : Nat) : RowsAt K H (xs.set j x) (ps.set j p) := by
  refine ⟨by rw [List.length_set, List.length_set, h.1], fun i y q h1 h2 => ?_⟩
  by_cases c : j = i
  · subst c
    rw [List.getElem?_set_self' ] at h1 h2
    cases z1 : xs[j]? with
    | none => rw [z1] at h1; cases h1
    | some a =>
      cases z2 : ps[j]? with
      | none => rw [z2] at h2; cases h2
      | some b =>
        rw [z1] at h1
        rw [z2] at h2
        cases h1
        cases h2
        exact r
  · rw [List.getElem?_set_ne c] at h1 h2
    exact h.2 i y q h1 h2
/-- good rows -/
def AllOk (K : PySem.W.Frag) (H : Hp) (ps : List (Key × V)) : Prop := ∀ p ∈ ps, keyB p.1 = true ∧ ShJ K H p.2 true
/-- one row is odd: its key or its share -/
def OneOdd (K : PySem.W.Frag) (H : Hp) (ps : List (Key × V)) : Prop := ∃ p0 ∈ ps, ∃ b : Bool, ShJ K H p0.2 b ∧ (keyB p0.1 && b) = false ∧ ∀ p ∈ ps, p = p0 ∨ ShJ K H p.2 true
theorem AllOk.et {K : PySem.W.Frag} {H H' : Hp} (e : Et K H H') {ps : List (Key × V)} (h : AllOk K H ps) : AllOk K H' ps := fun p hp => ⟨(h p hp).1, (h p hp).2.et e⟩
theorem OneOdd.et {K : PySem.W.Frag} {H H' : Hp} (e : Et K H H') {ps : List (Key × V)} (h : OneOdd K H ps) : OneOdd K H' ps := by
  obtain ⟨p0, h0, b, h1, h2, h3⟩ := h
  exact ⟨p0, h0, b, h1.et e, h2, fun p hp => (h3 p hp).imp_right fun q => q.et e⟩
/-- what is_page is told of a dict -/
def PageJ (K : PySem.W.Frag) (H : Hp) (kvs : List (Key × V)) (g : Bool) : Prop :=
  (∀ p ∈ kvs, keySz p.1) ∧ kvs.length ≤ 1000 ∧ ∃ f : Key → Bool, (∀ k v, valV kvs k = some v → ShJ K H v (f k)) ∧ g = (decide (((kvs.length : Nat) : Int) ≤ 200) && kvs.all fun p => keyB p.1 && f p.1)
theorem PageJ.et {K : PySem.W.Frag} {H H' : Hp} (e : Et K H H') {kvs : List (Key × V)} {g : Bool} (h : PageJ K H kvs g) : PageJ K H' kvs g := by
  obtain ⟨h1, h2, f, h3, h4⟩ := h
  exact ⟨h1, h2, f, fun k v q => (h3 k v q).et e, h4⟩
theorem pageJ_ok {K : PySem.W.Frag} {H : Hp} {ps : List (Key × V)} (hs : ∀ p ∈ ps, keySz p.1) (hl : ps.length ≤ 1000) (h : AllOk K H ps) : PageJ K H ps (decide (((ps.length : Nat) : Int) ≤ 200)) := by
  refine ⟨hs, hl, fun _ => true, fun k v q => (h _ (valV_mem q)).2, ?_⟩
  have : (ps.all fun p => keyB p.1 && true) = true := List.all_eq_true.mpr fun p hp => by rw [(h p hp).1]; rfl
  rw [this, Bool.and_true]
theorem pageJ_odd {K : PySem.W.Frag} {H : Hp} {ps : List (Key × V)} (hs : ∀ p ∈ ps, keySz p.1) (hl : ps.length ≤ 1000) (nd : (ps.map (·.1)).Nodup) (h : OneOdd K H ps) : PageJ K H ps false := by
  obtain ⟨p0, h0, b, h1, h2, h3⟩ := h
  refine ⟨hs, hl, fun k => if k = p0.1 then b else true, fun k v q => ?_, ?_⟩
  · show ShJ K H v (if k = p0.1 then b else true)
    by_cases c : k = p0.1
    · rw [if_pos c]
      rw [c, val_nodup nd p0 h0] at q
      cases q
      exact h1
    · rw [if_neg c]
      rcases h3 _ (valV_mem q) with z | z
      · exact absurd (congrArg Prod.fst z) c
      · exact z
  · have : (ps.all fun p => keyB p.1 && (if p.1 = p0.1 then b else true)) = false := by
      refine List.all_eq_false.mpr ⟨p0, h0, ?_⟩
      show ¬ (keyB p0.1 && (if p0.1 = p0.1 then b else true)) = true
      rw [if_pos rfl, h2]
      exact Bool.false_ne_true
    rw [this, Bool.and_false]
theorem dictEq_self {ps : List (Key × V)} : dictEqB ps ps (fun _ => true) = true := by
  unfold dictEqB
  have : (ps.all fun p => (valV ps p.1).isSome && true) = true := List.all_eq_true.mpr fun p hp => by
    obtain ⟨v, hv⟩ := valV_some hp
    rw [hv]; rfl
  rw [this, decide_eq_true rfl]
  rfl
def mixedI (c k : Int) : Int := (c % 1000000007 + 7919 * k + 11) * 48271 % 2147483647
theorem mixed_0 (c k : Int) : 0 ≤ mixedI c k := Int.emod_nonneg _ (by decide)
theorem numberBy_in {c : Int} (h : 0 ≤ c) : 0 ≤ numberBy c ∧ numberBy c < LIM := by
  unfold numberBy
  have e : LIM = 10 ^ 60 := rfl
  split
  · rename_i h1
    have a1 := Int.emod_nonneg (c / 5) (show (3 : Int) ≠ 0 by decide)
    have a2 := Int.emod_lt_of_pos (c / 5) (show (0 : Int) < 3 by decide)
    have b1 := Int.emod_nonneg c (show (5 : Int) ≠ 0 by decide)
    have hc : c % 5 = 0 ∨ c % 5 = 1 := by omega
    rcases hc with z | z <;> rw [z, e] <;> omega
  · split
    · rw [e]; omega
    · split
      · rw [e]
        exact ⟨Int.emod_nonneg _ (by decide), Int.emod_lt_of_pos _ (by decide)⟩
      · rw [e]; omega
theorem nameB_iff (z : Str) : nameB z = true ↔ (1 ≤ z.length ∧ z.length ≤ 8 ∧ ∀ c ∈ z.cps.toList, c ∈ LET.cps.toList) := by
  unfold nameB
  rw [Bool.and_eq_true, Bool.and_eq_true, decide_eq_true_eq, decide_eq_true_eq, List.all_eq_true]
  constructor
  · rintro ⟨h1, h2, h3⟩
    exact ⟨by omega, by omega, fun c hc => of_decide_eq_true (h3 c hc)⟩
  · rintro ⟨h1, h2, h3⟩
    exact ⟨by omega, by omega, fun c hc => decide_eq_true (h3 c hc)⟩
theorem app_tl (a b : Str) : (a ++ b).cps.toList = a.cps.toList ++ b.cps.toList := Array.toList_append
theorem app_len (a b : Str) : (a ++ b).length = a.length + b.length := Array.size_append
theorem cut_tl (z : Str) (n : Nat) : (cutS z none (some (n : Int))).cps.toList = z.cps.toList.take n := by
  show List.take (HT.sIx z.length z.length (some (n : Int)) - HT.sIx z.length 0 none) (List.drop (HT.sIx z.length 0 none) z.cps.toList) = _
  rw [HT.sIx_none, HT.sIx_nat, List.drop_zero, Nat.sub_zero]
  by_cases c : n ≤ z.length
  · rw [Nat.min_eq_left c]
  · rw [Nat.min_eq_right (by omega), List.take_of_length_le (by rw [tl_len]; omega), List.take_of_length_le (by rw [tl_len]; omega)]
theorem cut_len (z : Str) (n : Nat) : (cutS z none (some (n : Int))).length = min n z.length := by
  rw [← tl_len, cut_tl, List.length_take, tl_len]
theorem nameB_sg (cs : List Nat) (h1 : 1 ≤ cs.length) (h8 : cs.length ≤ 8) (h : ∀ c ∈ cs, c ∈ LET.cps.toList) : nameB ⟨cs.toArray⟩ = true :=
  (nameB_iff _).mpr ⟨h1, h8, h⟩
theorem nameB_mix {c1 c2 : Nat} {z : Str} (h1 : c1 ∈ LET.cps.toList) (h2 : c2 ∈ LET.cps.toList) (hz : nameB z = true) : nameB ((⟨#[c1]⟩ ++ ⟨#[c2]⟩ : Str) ++ cutS z none (some 6)) = true := by
  obtain ⟨a1, a2, a3⟩ := (nameB_iff _).mp hz
  have e6 := cut_len z 6
  refine (nameB_iff _).mpr ⟨?_, ?_, fun c hc => ?_⟩
  · rw [app_len, app_len]; show 1 ≤ 1 + 1 + _; omega
  · rw [app_len, app_len]
    show 1 + 1 + (cutS z none (some ((6 : Nat) : Int))).length ≤ 8
    omega
  · rw [app_tl, app_tl] at hc
    rcases List.mem_append.mp hc with hc | hc
    · rcases List.mem_append.mp hc with hc | hc
      · rw [List.mem_singleton.mp hc]; exact h1
      · rw [List.mem_singleton.mp hc]; exact h2
    · have hc' : c ∈ (cutS z none (some ((6 : Nat) : Int))).cps.toList := hc
      rw [cut_tl] at hc'
      exact a3 c (List.mem_of_mem_take hc')
theorem nameB_ab {c : Nat} (h : c ∈ (" A1-" : Str).cps.toList) : nameB (("ab" : Str) ++ ⟨#[c]⟩) = false := by
  cases q : nameB (("ab" : Str) ++ ⟨#[c]⟩) with
  | false => rfl
  | true =>
    obtain ⟨_, _, a3⟩ := (nameB_iff _).mp q
    have h3 := a3 c (by rw [app_tl]; exact List.mem_append_right _ (List.mem_singleton.mpr rfl))
    have : ∀ x ∈ (" A1-" : Str).cps.toList, ¬ x ∈ LET.cps.toList := by decide +kernel
    exact absurd h3 (this c h)
theorem nameB_cut {n : Nat} (h : 1 ≤ n) : nameB (cutS "abcdefgh" none (some (n : Int))) = true := by
  have e : ("abcdefgh" : Str).length = 8 := by decide +kernel
  refine (nameB_iff _).mpr ⟨?_, ?_, fun c hc => ?_⟩
  · rw [cut_len, e]; omega
  · rw [cut_len, e]; omega
  · rw [cut_tl] at hc
    have : ∀ x ∈ ("abcdefgh" : Str).cps.toList, x ∈ LET.cps.toList := by decide +kernel
    exact this c (List.mem_of_mem_take hc)
theorem pair_at {K : PySem.W.Frag} {H : Hp} {x y z : V} {o p : Option Int} {i : Nat} (hx : NumJ K H x o) (hy : NumJ K H y p) (h : [x, y][i]? = some z) :
    ∃ oz, NumJ K H z oz ∧ [goodN o, goodN p][i]? = some (goodN oz) ∧ (goodN oz = false → pairB o p = false) := by
  match i, h with
  | 0, h =>
    cases h
    refine ⟨o, hx, rfl, fun q => ?_⟩
    cases o with
    | none => rfl
    | some a =>
      cases p with
      | none => rfl
      | some b => show (goodN (some a) && (goodN (some b) && decide (0 < a + b))) = false; rw [q, Bool.false_and]
  | 1, h =>
    cases h
    refine ⟨p, hy, rfl, fun q => ?_⟩
    cases o with
    | none => rfl
    | some a =>
      cases p with
      | none => rfl
      | some b => show (goodN (some a) && (goodN (some b) && decide (0 < a + b))) = false; rw [q, Bool.false_and, Bool.and_false]
theorem pair_end {o p : Option Int} (h0 : goodN o = true) (h1 : goodN p = true) : ∃ i j, o = some i ∧ p = some j ∧ pairB o p = decide (0 < i + j) := by
  cases o with
  | none => cases h0
  | some i =>
    cases p with
    | none => cases h1
    | some j =>
      refine ⟨i, j, rfl, rfl, ?_⟩
      show (goodN (some i) && (goodN (some j) && decide (0 < i + j))) = _
      rw [h0, h1, Bool.true_and, Bool.true_and]
theorem pairL {i : Int} {p : Option Int} (h : i < 0 ∨ LIM ≤ i) : pairB (some i) p = false := by
  have e : goodN (some i) = false := by
    show (decide (0 ≤ i) && decide (i < LIM)) = false
    rcases h with h | h
    · rw [decide_eq_false (by omega), Bool.false_and]
    · rw [decide_eq_false (p := i < LIM) (by omega), Bool.and_false]
  cases p with
  | none => rfl
  | some b => show (goodN (some i) && _) = false; rw [e, Bool.false_and]
theorem pairR {i : Int} {p : Option Int} (h : i < 0 ∨ LIM ≤ i) : pairB p (some i) = false := by
  have e : goodN (some i) = false := by
    show (decide (0 ≤ i) && decide (i < LIM)) = false
    rcases h with h | h
    · rw [decide_eq_false (by omega), Bool.false_and]
    · rw [decide_eq_false (p := i < LIM) (by omega), Bool.and_false]
  cases p with
  | none => rfl
  | some b => show (goodN (some b) && (goodN (some i) && _)) = false; rw [e, Bool.false_and, Bool.and_false]
theorem allOk_set {K : PySem.W.Frag} {H : Hp} {ps : List (Key × V)} {p : Key × V} (h : AllOk K H ps) (hk : keyB p.1 = true) (hs : ShJ K H p.2 true) (j : Nat) : AllOk K H (ps.set j p) := fun q hq => by
  rcases List.mem_or_eq_of_mem_set hq with c | c
  · exact h q c
  · rw [c]; exact ⟨hk, hs⟩
theorem oneOdd_set {K : PySem.W.Frag} {H : Hp} {ps : List (Key × V)} {p : Key × V} (h : AllOk K H ps) {j : Nat} (hj : j < ps.length) (b : Bool) (hs : ShJ K H p.2 b) (e : (keyB p.1 && b) = false) : OneOdd K H (ps.set j p) :=
  ⟨p, List.mem_set hj p, b, hs, e, fun q hq => (List.mem_or_eq_of_mem_set hq).elim (fun c => .inr (h q c).2) .inl⟩
theorem keySz_set {ps : List (Key × V)} {p : Key × V} (h : ∀ p ∈ ps, keySz p.1) (hk : keySz p.1) (j : Nat) : ∀ q ∈ ps.set j p, keySz q.1 := fun q hq => by
  rcases List.mem_or_eq_of_mem_set hq with c | c
  · exact h q c
  · rw [c]; exact hk
theorem pageJ_nil {K : PySem.W.Frag} {H : Hp} : PageJ K H [] true := ⟨fun p hp => (by cases hp), Nat.zero_le _, fun _ => true, fun k v q => (by cases q), rfl⟩
theorem AllOk.eqj {K : PySem.W.Frag} {H : Hp} {ps : List (Key × V)} (nd : (ps.map (·.1)).Nodup) (h : ∀ p ∈ ps, ∃ b, ShJ K H p.2 b) : ∀ p ∈ ps, ∀ v', valV ps p.1 = some v' → EqJ K H p.2 v' true := fun p hp v' hv => by
  rw [val_nodup nd p hp] at hv
  cases hv
  obtain ⟨b, hb⟩ := h p hp
  exact hb.eqj
end Gc

namespace Gc
open PySem L2 Evl
/-! ### sorted texts: one order only -/
def leS (a b : Str) : Prop := a.cps.toList ≤ b.cps.toList
theorem leS_of {a b : Str} (h : PySem.Spec.ltCps b.cps.toList a.cps.toList = false) : leS a b := by
  rw [PyProof.Rows.ltCps_eq, decide_eq_false_iff_not] at h
  exact List.not_lt.mp h
theorem leS_trans {a b c : Str} (h1 : leS a b) (h2 : leS b c) : leS a c := List.le_trans h1 h2
theorem leS_anti {a b : Str} (h1 : leS a b) (h2 : leS b a) : a = b := by
  have e := List.le_antisymm h1 h2
  cases a with
  | mk x =>
    cases b with
    | mk y => exact congrArg Str.mk (Array.toList_inj.mp e)
theorem rising_le : ∀ (r : List Str) (x : Str), PyProof.Rows.risingS x r = true → (∀ y ∈ r, leS x y) ∧ r.Pairwise leS
  | [], x, _ => ⟨fun y h => (by cases h), .nil⟩
  | z :: r, x, h => by
    have h' : (!PySem.Spec.ltCps z.cps.toList x.cps.toList && PyProof.Rows.risingS z r) = true := h
    rw [Bool.and_eq_true, Bool.not_eq_true'] at h'
    obtain ⟨i1, i2⟩ := rising_le r z h'.2
    have hz := leS_of h'.1
    refine ⟨fun y hy => ?_, List.pairwise_cons.mpr ⟨i1, i2⟩⟩
    rcases List.mem_cons.mp hy with c | c
    · rw [c]; exact hz
    · exact leS_trans hz (i1 y c)
theorem sorted_pw : ∀ {l : List Str}, PyProof.Rows.sortedS l = true → l.Pairwise leS
  | [], _ => .nil
  | x :: r, h => by
    obtain ⟨i1, i2⟩ := rising_le r x h
    exact List.pairwise_cons.mpr ⟨i1, i2⟩
theorem pw_unique : ∀ {l1 l2 : List Str}, l1.Pairwise leS → l2.Pairwise leS → l1.Nodup → l2.Nodup → (∀ z, z ∈ l1 ↔ z ∈ l2) → l1 = l2
  | [], [], _, _, _, _, _ => rfl
  | [], y :: r, _, _, _, _, h => absurd ((h y).mpr List.mem_cons_self) (by simp)
  | x :: r, [], _, _, _, _, h => absurd ((h x).mp List.mem_cons_self) (by simp)
  | x :: r1, y :: r2, p1, p2, n1, n2, h => by
    obtain ⟨a1, a2⟩ := List.pairwise_cons.mp p1
    obtain ⟨b1, b2⟩ := List.pairwise_cons.mp p2
    obtain ⟨c1, c2⟩ := List.nodup_cons.mp n1
    obtain ⟨d1, d2⟩ := List.nodup_cons.mp n2
    have e : x = y := by
      rcases List.mem_cons.mp ((h x).mp List.mem_cons_self) with q | q
      · exact q
      · rcases List.mem_cons.mp ((h y).mpr List.mem_cons_self) with q' | q'
        · exact q'.symm
        · exact leS_anti (a1 y q') (b1 x q)
    subst e
    refine congrArg (x :: ·) (pw_unique a2 b2 c2 d2 fun z => ⟨fun hz => ?_, fun hz => ?_⟩)
    · rcases List.mem_cons.mp ((h z).mp (List.mem_cons_of_mem _ hz)) with q | q
      · subst q; exact absurd hz c1
      · exact q
    · rcases List.mem_cons.mp ((h z).mpr (List.mem_cons_of_mem _ hz)) with q | q
      · subst q; exact absurd hz d1
      · exact q
theorem sorted_unique {l1 l2 : List Str} (h1 : PyProof.Rows.sortedS l1 = true) (h2 : PyProof.Rows.sortedS l2 = true) (n1 : l1.Nodup) (n2 : l2.Nodup) (h : ∀ z, z ∈ l1 ↔ z ∈ l2) : l1 = l2 := pw_unique (sorted_pw h1) (sorted_pw h2) n1 n2 h
/-! ### lists of texts as data -/
theorem dpS {K : PySem.W.Frag} {H : Hp} : ∀ ss : List Str, DpAll K H (ss.map V.str) (ss.map PyData.str)
  | [] => .nil
  | x :: r => .cons (.str x) (dpS r)
/-- names are names -/
def NmOk (ks : List Str) : Prop := ∀ z ∈ ks, nameB z = true
theorem name_ok {z : Str} (h : nameB z = true) : PyData.strOk z = true := by
  have h3 := ((nameB_iff z).mp h).2.2
  have hl : ∀ c ∈ LET.cps.toList, c < 0x110000 := by decide +kernel
  show z.cps.all (· < 0x110000) = true
  rw [← Array.all_toList]
  exact List.all_eq_true.mpr fun c hc => decide_eq_true (hl c (h3 c hc))
theorem laysS : ∀ ss : List Str, NmOk ss → PyData.canLayAll0 (ss.map PyData.str) = true
  | [], _ => rfl
  | x :: r, h => by
    show (PyData.strOk x && PyData.canLayAll0 (r.map PyData.str)) = true
    rw [laysS r (fun z hz => h z (List.mem_cons_of_mem _ hz)), name_ok (h x List.mem_cons_self)]; rfl
theorem depthS : ∀ ss : List Str, PyData.depthAll (ss.map PyData.str) ≤ 1
  | [] => Nat.zero_le _
  | x :: r => Nat.max_le.mpr ⟨Nat.zero_le _, depthS r⟩
theorem shapedS (ss : List Str) (h : NmOk ss) : SeqAt.shaped (.list (ss.map PyData.str)) = true := by
  show (PyData.canLay0 (.list (ss.map PyData.str)) && decide (PyData.depth (.list (ss.map PyData.str)) ≤ 64)) = true
  have h1 : PyData.canLay0 (.list (ss.map PyData.str)) = true := laysS ss h
  have h2 : PyData.depth (.list (ss.map PyData.str)) ≤ 64 := by
    show PyData.depthAll (ss.map PyData.str) + 1 ≤ 64
    have := depthS ss
    omega
  rw [h1, decide_eq_true h2]
  rfl
theorem eqvS (ss : List Str) (h : NmOk ss) : PyData.eqv (.list (ss.map PyData.str)) (.list (ss.map PyData.str)) = true := PySem.SeqAt.eqv_refl _ (laysS ss h)
/-- list(..) != sorted(..) where both are the same texts -/
theorem neS_go {K : PySem.W.Frag} {H : Hp} {Q : VK} {a b : Addr} {ss : List Str} (h : NmOk ss) (ha : SqL K H a (ss.map V.str)) (hb : SqL K H b (ss.map V.str)) (q : Q (.bl false) H) : rNeD K (.ref a) (.ref b) H Q :=
  ⟨_, _, .lst ha (dpS ss), .lst hb (dpS ss), shapedS ss h, shapedS ss h, by rw [eqvS ss h]; exact q⟩
theorem eqS_go {K : PySem.W.Frag} {H : Hp} {Q : VK} {a b : Addr} {ss : List Str} (h : NmOk ss) (ha : SqL K H a (ss.map V.str)) (hb : SqL K H b (ss.map V.str)) (q : Q (.bl true) H) : rEqD K (.ref a) (.ref b) H Q :=
  ⟨_, _, .lst ha (dpS ss), .lst hb (dpS ss), shapedS ss h, shapedS ss h, by rw [eqvS ss h]; exact q⟩
/-- == and != of two shares -/
theorem shp2 (a b : Int) : SeqAt.shaped (.tuple [.int a, .int b]) = true := by simp [SeqAt.shaped, PyData.canLay0, PyData.canLayAll0, PyData.depth, PyData.depthAll]
theorem eqv2 (a b c d : Int) : PyData.eqv (.tuple [.int a, .int b]) (.tuple [.int c, .int d]) = (decide (a = c) && decide (b = d)) := by
  show (a == c && (b == d && true)) = _
  rw [Bool.and_true]
  rfl
theorem sheq_go {K : PySem.W.Frag} {H : Hp} {Q : VK} {t u : Addr} {a b c d : Int} (h1 : ShAt K H t a b) (h2 : ShAt K H u c d) (q : Q (.bl (decide (a = c) && decide (b = d))) H) : rEqD K (.ref t) (.ref u) H Q :=
  ⟨_, _, .tup h1 (.cons (.int a) (.cons (.int b) .nil)), .tup h2 (.cons (.int c) (.cons (.int d) .nil)), shp2 a b, shp2 c d, by rw [eqv2]; exact q⟩
theorem shne_go {K : PySem.W.Frag} {H : Hp} {Q : VK} {t u : Addr} {a b c d : Int} (h1 : ShAt K H t a b) (h2 : ShAt K H u c d) (q : Q (.bl (!(decide (a = c) && decide (b = d)))) H) : rNeD K (.ref t) (.ref u) H Q :=
  ⟨_, _, .tup h1 (.cons (.int a) (.cons (.int b) .nil)), .tup h2 (.cons (.int c) (.cons (.int d) .nil)), shp2 a b, shp2 c d, by rw [eqv2]; exact q⟩
/-! ### pages: names in their order, a share for every text ((0, 0) where there is none) -/
abbrev Sh := Str → Int × Int
structure PgK (K : PySem.W.Frag) (H : Hp) (kvs : List (Key × V)) (ks : List Str) (f : Sh) : Prop where
  keys : kvs.map (·.1) = ks.map Sum.inr
  nd : ks.Nodup
  at_ : ∀ z v, valV kvs (.inr z) = some v → ∃ t, v = .ref t ∧ ShAt K H t (f z).1 (f z).2
  out : ∀ z, ¬ z ∈ ks → f z = (0, 0)
section
variable {K : PySem.W.Frag} {H H' : Hp} {kvs : List (Key × V)} {ks : List Str} {f : Sh}
theorem PgK.et (e : Et K H H') (h : PgK K H kvs ks f) : PgK K H' kvs ks f :=
  ⟨h.keys, h.nd, fun z v q => let ⟨t, h1, h2⟩ := h.at_ z v q; ⟨t, h1, e.tp _ _ h2⟩, h.out⟩
theorem PgK.len (h : PgK K H kvs ks f) : kvs.length = ks.length := by
  have e := congrArg List.length h.keys
  rw [List.length_map, List.length_map] at e
  exact e
theorem PgK.mem (h : PgK K H kvs ks f) {z : Str} : z ∈ ks ↔ ∃ v, valV kvs (.inr z) = some v := by
  constructor
  · intro hz
    have : (Sum.inr z : Key) ∈ kvs.map (·.1) := by rw [h.keys]; exact List.mem_map.mpr ⟨z, hz, rfl⟩
    obtain ⟨p, hp, e⟩ := List.mem_map.mp this
    obtain ⟨v, hv⟩ := valV_some hp
    exact ⟨v, by rw [← e]; exact hv⟩
  · rintro ⟨v, hv⟩
    have := valV_in hv
    rw [h.keys] at this
    obtain ⟨y, hy, e⟩ := List.mem_map.mp this
    cases e
    exact hy
theorem PgK.there (h : PgK K H kvs ks f) {z : Str} (hz : z ∈ ks) : ∃ t, valV kvs (.inr z) = some (.ref t) ∧ ShAt K H t (f z).1 (f z).2 := by
  obtain ⟨v, hv⟩ := h.mem.mp hz
  obtain ⟨t, rfl, q⟩ := h.at_ z v hv
  exact ⟨t, hv, q⟩
theorem PgK.miss (h : PgK K H kvs ks f) {z : Str} (hz : ¬ z ∈ ks) : valV kvs (.inr z) = none := by
  cases q : valV kvs (.inr z) with
  | none => rfl
  | some v => exact absurd (h.mem.mpr ⟨v, q⟩) hz
theorem PgK.nil : PgK K H [] [] (fun _ => (0, 0)) := ⟨rfl, List.nodup_nil, fun z v q => (by cases q), fun _ _ => rfl⟩
def addK (ks : List Str) (z : Str) : List Str := if z ∈ ks then ks else ks ++ [z]
theorem mem_addK {ks : List Str} {z w : Str} : w ∈ addK ks z ↔ w ∈ ks ∨ w = z := by
  unfold addK
  split
  · rename_i h
    exact ⟨.inl, fun q => q.elim id fun e => e ▸ h⟩
  · rw [List.mem_append, List.mem_singleton]
theorem len_addK {ks : List Str} {z : Str} : (addK ks z).length ≤ ks.length + 1 := by
  unfold addK
  split
  · omega
  · rw [List.length_append]; exact Nat.le_refl _
def setF (f : Sh) (z : Str) (s : Int × Int) : Sh := fun w => if w = z then s else f w
theorem setF_same {f : Sh} {z : Str} {s : Int × Int} : setF f z s z = s := if_pos rfl
theorem setF_ne {f : Sh} {z w : Str} {s : Int × Int} (h : ¬ w = z) : setF f z s w = f w := if_neg h
theorem PgK.put (h : PgK K H kvs ks f) {z : Str} {t : Addr} {a b : Int} (ht : ShAt K H t a b) : PgK K H (putK kvs (.inr z) (.ref t)) (addK ks z) (setF f z (a, b)) := by
  refine ⟨?_, ?_, fun w v q => ?_, fun w hw => ?_⟩
  · by_cases c : z ∈ ks
    · unfold addK
      rw [if_pos c]
      obtain ⟨v, hv⟩ := h.mem.mp c
      have ha : (kvs.any fun kv => decide (kv.1 = (.inr z : Key))) = true := by rw [valV_any, hv]; rfl
      unfold putK
      rw [if_pos ha, List.map_map]
      have e : ((fun x : Key × V => x.1) ∘ fun kv : Key × V => if kv.1 = (.inr z : Key) then (kv.1, V.ref t) else kv) = fun x => x.1 := by
        funext x
        show (if x.1 = (.inr z : Key) then (x.1, V.ref t) else x).1 = x.1
        split <;> rfl
      rw [e]
      exact h.keys
    · unfold addK
      rw [if_neg c, putK_new _ (h.miss c), List.map_append, List.map_append, h.keys]
      rfl
  · unfold addK
    split
    · exact h.nd
    · rename_i c; exact nd_snoc h.nd c
  · rw [valV_put] at q
    by_cases c : w = z
    · subst c
      rw [if_pos rfl] at q
      cases q
      rw [setF_same]
      exact ⟨t, rfl, ht⟩
    · rw [if_neg (fun e => c (Sum.inr.inj e))] at q
      rw [setF_ne c]
      exact h.at_ w v q
  · have h1 : ¬ w ∈ ks := fun q => hw (mem_addK.mpr (.inl q))
    have h2 : ¬ w = z := fun q => hw (mem_addK.mpr (.inr q))
    rw [setF_ne h2]
    exact h.out w h1
theorem PgK.key_at (h : PgK K H kvs ks f) {i : Nat} {k : Key} {v : V} (q : kvs[i]? = some (k, v)) : ∃ z, k = .inr z ∧ ks[i]? = some z ∧ z ∈ ks := by
  have e := congrArg (fun l : List Key => l[i]?) h.keys
  simp only [List.getElem?_map] at e
  rw [q] at e
  cases c : ks[i]? with
  | none => rw [c] at e; cases e
  | some z =>
    rw [c] at e
    exact ⟨z, Option.some.inj e, rfl, List.mem_of_getElem? c⟩
theorem PgK.kst (h : PgK K H kvs ks f) : (kvs.map fun kv => kV kv.1) = ks.map V.str := by
  have e := congrArg (List.map kV) h.keys
  rw [List.map_map, List.map_map] at e
  exact e
/-- the same dict's values are the same objects -/
theorem PgK.eqj (h : PgK K H kvs ks f) (H' : Hp) : ∀ p ∈ kvs, ∀ v', valV kvs p.1 = some v' → EqJ K H' p.2 v' ((fun _ => true) p.1) := fun p hp v' hv => by
  have nd : (kvs.map (·.1)).Nodup := by
    rw [h.keys]
    exact List.Pairwise.map _ (fun a b n e => n (Sum.inr.inj e)) h.nd
  rw [val_nodup nd p hp] at hv
  cases hv
  have hk : p.1 ∈ ks.map (Sum.inr (α := Int)) := by rw [← h.keys]; exact List.mem_map.mpr ⟨p, hp, rfl⟩
  obtain ⟨z, hz, e⟩ := List.mem_map.mp hk
  obtain ⟨t, ht, _⟩ := h.there hz
  rw [e, val_nodup nd p hp] at ht
  have e2 : p.2 = .ref t := Option.some.inj ht
  rw [e2]
  exact .inl ⟨t, rfl, rfl, rfl⟩
end
theorem dictEq_self' {ps : List (Key × V)} : dictEqB ps ps (fun _ => true) = true := by
  unfold dictEqB
  have : (ps.all fun p => (valV ps p.1).isSome && true) = true := List.all_eq_true.mpr fun p hp => by
    obtain ⟨v, hv⟩ := valV_some hp
    rw [hv]; rfl
  rw [this, decide_eq_true rfl]
  rfl
/-- no number below 0 -/
def NN (f : Sh) : Prop := ∀ z, 0 ≤ (f z).1 ∧ 0 ≤ (f z).2
theorem NN.zero : NN (fun _ => (0, 0)) := fun _ => ⟨Int.le_refl _, Int.le_refl _⟩
theorem NN.set {f : Sh} (h : NN f) {z : Str} {a b : Int} (ha : 0 ≤ a) (hb : 0 ≤ b) : NN (setF f z (a, b)) := fun w => by
  unfold setF
  split
  · exact ⟨ha, hb⟩
  · exact h w
theorem NmOk.nil : NmOk [] := fun z h => (by cases h)
theorem NmOk.add {ks : List Str} (h : NmOk ks) {z : Str} (h1 : nameB z = true) : NmOk (addK ks z) := fun w hw => by
  rcases mem_addK.mp hw with c | c
  · exact h w c
  · rw [c]; exact h1
/-- two pages joined -/
def mxF (f g : Sh) : Sh := fun z => (gmax (f z).1 (g z).1, gmax (f z).2 (g z).2)
theorem mxF_comm (f g : Sh) : mxF f g = mxF g f := by
  funext z
  show (_, _) = (_, _)
  rw [gmax_comm (f z).1, gmax_comm (f z).2]
/-- all but what stands at d stays -/
def Exc (d : Addr) (H H' : Hp) : Prop := ∀ a o, a ≠ d → H a = some o → H' a = some o
theorem Exc.refl (d : Addr) (H : Hp) : Exc d H H := fun _ _ _ h => h
theorem Exc.of {d : Addr} {H H' : Hp} (e : Ex H H') : Exc d H H' := fun a o _ h => e a o h
theorem Exc.trans {d : Addr} {H H1 H2 : Hp} (e : Exc d H H1) (f : Exc d H1 H2) : Exc d H H2 := fun a o n h => f a o n (e a o n h)
theorem Exc.upd {d : Addr} {H : Hp} {o : HO} : Exc d H (upd H d o) := fun a _ n h => by rw [upd_ne n]; exact h
theorem Exc.new {d : Addr} {H H1 H2 : Hp} (hd : H d = none) (e : Ex H H1) (f : Exc d H1 H2) : Ex H H2 := fun a o h => f a o (fun z => by rw [z, hd] at h; cases h) (e a o h)
end Gc

namespace Gc
open PySem L2 Evl
/-- all but what stands where S holds stays -/
def Exs (S : Addr → Prop) (H H' : Hp) : Prop := ∀ a o, ¬ S a → H a = some o → H' a = some o
section
variable {S : Addr → Prop} {H H1 H2 H' : Hp}
theorem Exs.refl (S : Addr → Prop) (H : Hp) : Exs S H H := fun _ _ _ h => h
theorem Exs.of (e : Ex H H') : Exs S H H' := fun a o _ h => e a o h
theorem Exs.trans (e : Exs S H H1) (f : Exs S H1 H2) : Exs S H H2 := fun a o n h => f a o n (e a o n h)
theorem Exs.upd {d : Addr} {o : HO} (hd : S d) : Exs S H (upd H d o) := fun a _ n h => by rw [upd_ne (fun z => n (by rw [z]; exact hd))]; exact h
theorem Exs.mut {d : Addr} {o : HO} (e : Exs S H H') (hd : S d ∨ H d = none) : Exs S H (L2.upd H' d o) := fun a q n h => by
  have c : a ≠ d := fun z => by
    subst z
    rcases hd with hd | hd
    · exact n hd
    · rw [hd] at h; cases h
  rw [upd_ne c]
  exact e a q n h
/-- what was not there does not count -/
theorem Exs.new {T : Addr → Prop} (e : Exs T H H') (h : ∀ a, T a → S a ∨ H a = none) : Exs S H H' := fun a o n q => e a o (fun t => by
  rcases h a t with c | c
  · exact n c
  · rw [c] at q; cases q) q
theorem Exs.ex (e : Exs S H H') (h : ∀ a, S a → H a = none) : Ex H H' := fun a o q => e a o (fun t => by rw [h a t] at q; cases q) q
/-- behind the lock of d -/
theorem Exs.unlock {d : Addr} {kvs : List (Key × V)} (e : Exs S H H') (hd : H d = some (.dK kvs)) (hS : ∀ a, S a → a = d ∨ H a = none) : Ex H (L2.upd H' d (.dK kvs)) := fun a o q => by
  by_cases c : a = d
  · subst c
    rw [hd] at q
    cases q
    exact upd_same
  · rw [upd_ne c]
    refine e a o (fun t => ?_) q
    rcases hS a t with z | z
    · exact c z
    · rw [z] at q; cases q
end
/-- a comprehension over a dict -/
theorem lockE_go {t : TE} {Q : VK} {σ : L2.St} {H : Hp} {d : Addr} {kvs : List (Key × V)} (hd : H d = some (.dK kvs))
    (h : ∀ od H1, H1 d = some (.frz od (.dK kvs)) → Er H H1 → (∀ H', Ex H1 H' → Ex H (upd H' d (.dK kvs))) → t σ H1 fun v H' => H' d = some (.frz od (.dK kvs)) ∧ Q v (upd H' d (.dK kvs))) :
    tLockE t σ H Q := ⟨d, _, hd, trivial, fun od => h od _ upd_same (Er.lock hd) (fun H' e => lock_ex e hd)⟩
def capF (ks : List Str) (f : Sh) : Sh := fun z => if z ∈ ks then f z else (0, 0)
theorem nd_len {α : Type} [DecidableEq α] : ∀ {l m : List α}, l.Nodup → (∀ z ∈ l, z ∈ m) → l.length ≤ m.length
  | [], _, _, _ => Nat.zero_le _
  | x :: r, m, nd, h => by
    obtain ⟨n1, n2⟩ := List.nodup_cons.mp nd
    have hx := h x List.mem_cons_self
    have q := nd_len (m := m.erase x) n2 fun z hz => (List.mem_erase_of_ne (fun e => n1 (by rw [← e]; exact hz))).mpr (h z (List.mem_cons_of_mem _ hz))
    rw [List.length_erase_of_mem hx] at q
    have := List.length_pos_of_mem hx
    show r.length + 1 ≤ m.length
    omega
theorem capF_nil {f : Sh} : capF [] f = fun _ => (0, 0) := by
  funext z
  unfold capF
  rw [if_neg (by simp)]
theorem capF_all {ks : List Str} {f : Sh} (h : ∀ z, ¬ z ∈ ks → f z = (0, 0)) : capF ks f = f := by
  funext z
  unfold capF
  split
  · rfl
  · rename_i c; exact (h z c).symm
theorem not_take {ys : List Str} (nd : ys.Nodup) {i : Nat} {z : Str} (h : ys[i]? = some z) : ¬ z ∈ ys.take i := by
  intro hz
  obtain ⟨hi, e⟩ := List.getElem?_eq_some_iff.mp h
  obtain ⟨j, hj, e2⟩ := List.getElem_of_mem hz
  have hj2 : j < i := by rw [List.length_take] at hj; omega
  rw [List.getElem_take] at e2
  have := (List.nodup_iff_pairwise_ne.mp nd)
  have q := List.pairwise_iff_getElem.mp this j i (by omega) hi hj2
  exact q (e2.trans e.symm)
theorem take_snoc {α : Type} {ys : List α} {i : Nat} {z : α} (h : ys[i]? = some z) : ys.take (i + 1) = ys.take i ++ [z] := by
  rw [List.take_add_one, h]
  rfl
theorem addK_take {ys : List Str} (nd : ys.Nodup) {i : Nat} {z : Str} (h : ys[i]? = some z) : addK (ys.take i) z = ys.take (i + 1) := by
  unfold addK
  rw [if_neg (not_take nd h), take_snoc h]
theorem capF_take {ys : List Str} {i : Nat} {z : Str} {m : Sh} (h : ys[i]? = some z) : setF (capF (ys.take i) m) z (m z) = capF (ys.take (i + 1)) m := by
  rw [take_snoc h]
  funext w
  unfold setF capF
  by_cases c : w = z
  · rw [if_pos c, if_pos (by rw [c]; simp), c]
  · rw [if_neg c]
    by_cases d : w ∈ ys.take i
    · rw [if_pos d, if_pos (List.mem_append_left _ d)]
    · rw [if_neg d, if_neg (by simp [d, c])]
theorem mxF_out {f g : Sh} {z : Str} (hf : f z = (0, 0)) (hg : g z = (0, 0)) : mxF f g z = (0, 0) := by
  show (gmax (f z).1 (g z).1, gmax (f z).2 (g z).2) = _
  rw [hf, hg]
  rfl
/-- the first ones of the other joined to one -/
def partF (ls : List Str) (f g : Sh) : Sh := fun z => if z ∈ ls then mxF f g z else f z
theorem partF_nil {f g : Sh} : partF [] f g = f := by
  funext z
  unfold partF
  rw [if_neg (by simp)]
theorem gmax_0 {i : Int} (h : 0 ≤ i) : gmax i 0 = i := by unfold gmax; split <;> omega
theorem partF_all {ls : List Str} {f g : Sh} (hf : NN f) (hg : ∀ z, ¬ z ∈ ls → g z = (0, 0)) : partF ls f g = mxF f g := by
  funext z
  unfold partF
  split
  · rfl
  · rename_i c
    show f z = (gmax (f z).1 (g z).1, gmax (f z).2 (g z).2)
    rw [hg z c, gmax_0 (hf z).1, gmax_0 (hf z).2]
theorem partF_take {ys : List Str} {i : Nat} {z : Str} {f g : Sh} (h : ys[i]? = some z) : setF (partF (ys.take i) f g) z (mxF f g z) = partF (ys.take (i + 1)) f g := by
  rw [take_snoc h]
  funext w
  unfold setF partF
  by_cases c : w = z
  · rw [if_pos c, if_pos (by rw [c]; simp), c]
  · rw [if_neg c]
    by_cases d : w ∈ ys.take i
    · rw [if_pos d, if_pos (List.mem_append_left _ d)]
    · rw [if_neg d, if_neg (by simp [d, c])]
theorem partF_at {ys : List Str} (nd : ys.Nodup) {i : Nat} {z : Str} {f g : Sh} (h : ys[i]? = some z) : partF (ys.take i) f g z = f z := if_neg (not_take nd h)
/-- the sum of a page -/
def totF (ks : List Str) (f : Sh) : Int := (ks.map fun z => (f z).1 - (f z).2).sum
theorem totF_take {ks : List Str} {i : Nat} {z : Str} {f : Sh} (h : ks[i]? = some z) : totF (ks.take (i + 1)) f = totF (ks.take i) f + (f z).1 - (f z).2 := by
  unfold totF
  rw [take_snoc h, List.map_append, List.sum_append]
  simp only [List.map_cons, List.map_nil, List.sum_cons, List.sum_nil]
  omega
/-- one sign of a name changed -/
theorem nameB_twin {z : Str} {c : Nat} (hz : nameB z = true) (hc : c ∈ LET.cps.toList) {n : Nat} (hn : n < z.length) : nameB ((cutS z none (some (n : Int)) ++ ⟨#[c]⟩ : Str) ++ cutS z (some ((n + 1 : Nat) : Int)) none) = true := by
  obtain ⟨a1, a2, a3⟩ := (nameB_iff z).mp hz
  have e2 : (cutS z (some ((n + 1 : Nat) : Int)) none).cps.toList = z.cps.toList.drop (n + 1) := by
    show List.take (HT.sIx z.length z.length none - HT.sIx z.length 0 (some ((n + 1 : Nat) : Int))) (List.drop (HT.sIx z.length 0 (some ((n + 1 : Nat) : Int))) z.cps.toList) = _
    rw [HT.sIx_none, HT.sIx_nat, Nat.min_eq_left (by omega), List.take_of_length_le (by rw [List.length_drop, tl_len]; exact Nat.le_refl _)]
  have l2 : (cutS z (some ((n + 1 : Nat) : Int)) none).length = z.length - (n + 1) := by rw [← tl_len, e2, List.length_drop, tl_len]
  have l1 := cut_len z n
  refine (nameB_iff _).mpr ⟨?_, ?_, fun x hx => ?_⟩
  · rw [app_len, app_len]; show 1 ≤ _ + 1 + _; omega
  · rw [app_len, app_len, l1, l2]; show min n z.length + 1 + (z.length - (n + 1)) ≤ 8; omega
  · rw [app_tl, app_tl] at hx
    rcases List.mem_append.mp hx with hx | hx
    · rcases List.mem_append.mp hx with hx | hx
      · rw [cut_tl] at hx
        exact a3 x (List.mem_of_mem_take hx)
      · rw [List.mem_singleton.mp hx]; exact hc
    · rw [e2] at hx
      exact a3 x (List.mem_of_mem_drop hx)
theorem two_dp {K : PySem.W.Frag} {H : Hp} {t : Addr} {a b : Int} (h : ShAt K H t a b) : Dp K H (.ref t) (.tuple [.int a, .int b]) := .tup h (.cons (.int a) (.cons (.int b) .nil))
theorem min_0 {i j : Int} (hi : 0 ≤ i) (hj : 0 ≤ j) : 0 ≤ (if j < i then j else i) := by split <;> omega
/-- what stands at a heap of law k05 -/
structure C5 (K : PySem.W.Frag) (H0 H : Hp) (o1 o2 o4 c1 c2 D : Addr) (k1 k2 k4 : List (Key × V)) (n1 n2 n4 : List Str) (f1 f2 : Sh) : Prop where
  r1 : H o1 = some (.dK k1)
  r2 : H o2 = some (.dK k2)
  r4 : H o4 = some (.dK k4)
  x1 : H c1 = some (.dK k1)
  x2 : H c2 = some (.dK k2)
  xd : H D = some (.lst [.ref c1, .ref c2])
  p1 : PgK K H k1 n1 f1
  p2 : PgK K H k2 n2 f2
  p4 : PgK K H k4 n4 (mxF f1 f2)
  e : Ex H0 H
theorem C5.ex {K : PySem.W.Frag} {H0 H H' : Hp} {o1 o2 o4 c1 c2 D : Addr} {k1 k2 k4 : List (Key × V)} {n1 n2 n4 : List Str} {f1 f2 : Sh} (c : C5 K H0 H o1 o2 o4 c1 c2 D k1 k2 k4 n1 n2 n4 f1 f2) (e : Ex H H') : C5 K H0 H' o1 o2 o4 c1 c2 D k1 k2 k4 n1 n2 n4 f1 f2 :=
  ⟨e _ _ c.r1, e _ _ c.r2, e _ _ c.r4, e _ _ c.x1, e _ _ c.x2, e _ _ c.xd, c.p1.et (Et.of e), c.p2.et (Et.of e), c.p4.et (Et.of e), c.e.trans e⟩
/-- total(page) -/
def sp_total (K : PySem.W.Frag) : Sp := fun vs H Q _ => ∃ (d : Addr) (kvs : List (Key × V)) (ks : List Str) (f : Sh), vs = [.ref d] ∧ H d = some (.dK kvs) ∧ PgK K H kvs ks f ∧ ks.length ≤ 1000 ∧ ∀ H', Ex H H' → Q (.int (totF ks f)) H'
end Gc
local macro_rules | `(tactic| walk_at "gc_pg") => `(tactic| first
  | assumption
  | (refine' Gc.PgK.et ?e ?h; (case h => assumption); (case e => walk_at "gc_et")))
local macro_rules | `(tactic| walk_at "gc_y") => `(tactic| first
  | walk_at "gc_pg"
  | exact Exists.intro _ (Evl.sq_of (by assumption))
  | exact Exists.intro _ (Evl.st_of (by assumption))
  | (refine' Gc.isD_of ?h; (case h => walk_at "gc_at")))
local macro_rules | `(tactic| walk_at "gc_x") => `(tactic| walk_at "gc_ra")

namespace Gc
open PySem L2 Evl
/-! ### what a page lacks -/
def rchB (f g : Sh) (z : Str) : Bool := reachB (f z).1 (f z).2 (g z).1 (g z).2
/-- the shares of g that f does not reach -/
def lackF (f g : Sh) : Sh := fun z => if rchB f g z = true then (0, 0) else g z
def lackK (ls : List Str) (f g : Sh) : List Str := ls.filter fun z => !rchB f g z
theorem mem_lackK {ls : List Str} {f g : Sh} {z : Str} : z ∈ lackK ls f g ↔ z ∈ ls ∧ rchB f g z = false := by
  unfold lackK
  rw [List.mem_filter]
  cases rchB f g z <;> simp
theorem lackK_nd {ls : List Str} {f g : Sh} (h : ls.Nodup) : (lackK ls f g).Nodup := List.Pairwise.filter _ h
theorem lackK_len {ls : List Str} {f g : Sh} : (lackK ls f g).length ≤ ls.length := List.length_filter_le _ _
theorem lackK_snoc {ls : List Str} {f g : Sh} {z : Str} : lackK (ls ++ [z]) f g = if rchB f g z = true then lackK ls f g else lackK ls f g ++ [z] := by
  unfold lackK
  rw [List.filter_append]
  cases h : rchB f g z <;> simp [List.filter, h]
theorem lackF_at {f g : Sh} {z : Str} (h : rchB f g z = false) : lackF f g z = g z := by
  unfold lackF
  rw [h]
  rfl
theorem rch_self (f : Sh) (z : Str) : rchB f f z = true := reachB_self _ _
theorem lackK_self {ls : List Str} {f : Sh} : lackK ls f f = [] := by
  unfold lackK
  exact List.filter_eq_nil_iff.mpr fun z _ => by rw [rch_self]; simp
theorem lackF_self {f : Sh} : lackF f f = fun _ => (0, 0) := by
  funext z
  unfold lackF
  rw [if_pos (rch_self f z)]
/-- all are reached iff nothing is lacking -/
theorem all_rch {ls : List Str} {f g : Sh} : (ls.all fun z => rchB f g z) = decide ((lackK ls f g).length = 0) := by
  cases h : ls.all fun z => rchB f g z with
  | true =>
    have : lackK ls f g = [] := List.filter_eq_nil_iff.mpr fun z hz => by rw [List.all_eq_true.mp h z hz]; simp
    rw [this]
    rfl
  | false =>
    obtain ⟨z, hz, hb⟩ := List.all_eq_false.mp h
    have hm : z ∈ lackK ls f g := mem_lackK.mpr ⟨hz, by cases q : rchB f g z with | true => exact absurd q hb | false => rfl⟩
    rw [decide_eq_false (fun e => by rw [List.eq_nil_of_length_eq_zero e] at hm; cases hm)]
theorem dictEq_nil {ks : List (Key × V)} {e : Key → Bool} : dictEqB ks [] e = decide (ks.length = 0) := by
  unfold dictEqB
  cases ks with
  | nil => rfl
  | cons p r =>
    rw [show decide ((p :: r).length = ([] : List (Key × V)).length) = false from decide_eq_false (by simp), Bool.false_and]
    exact (decide_eq_false (by simp)).symm
/-- the part of lackF on the first ones -/
def lackP (ls : List Str) (f g : Sh) : Sh := fun z => if z ∈ lackK ls f g then g z else (0, 0)
theorem lackP_nil {f g : Sh} : lackP [] f g = fun _ => (0, 0) := by
  funext z
  unfold lackP lackK
  rw [if_neg (by simp)]
theorem lackP_all {ls : List Str} {f g : Sh} (hg : ∀ z, ¬ z ∈ ls → g z = (0, 0)) : lackP ls f g = lackF f g := by
  funext z
  unfold lackP lackF
  by_cases c : z ∈ ls
  · cases h : rchB f g z with
    | true => rw [if_neg (fun q => by have := (mem_lackK.mp q).2; rw [h] at this; cases this), if_pos rfl]
    | false => rw [if_pos (mem_lackK.mpr ⟨c, h⟩), if_neg Bool.false_ne_true]
  · rw [if_neg (fun q => c (mem_lackK.mp q).1), hg z c]
    split <;> rfl
theorem lackP_yes {ls : List Str} {f g : Sh} {z : Str} (h : rchB f g z = true) : lackP (ls ++ [z]) f g = lackP ls f g := by
  have e : lackK (ls ++ [z]) f g = lackK ls f g := by rw [lackK_snoc, h]; rfl
  unfold lackP
  rw [e]
theorem lackP_no {ls : List Str} {f g : Sh} {z : Str} (h : rchB f g z = false) : lackP (ls ++ [z]) f g = setF (lackP ls f g) z (g z) := by
  have e : lackK (ls ++ [z]) f g = lackK ls f g ++ [z] := by rw [lackK_snoc, h]; rfl
  funext w
  show (if w ∈ lackK (ls ++ [z]) f g then g w else (0, 0)) = if w = z then g z else if w ∈ lackK ls f g then g w else (0, 0)
  rw [e]
  by_cases c : w = z
  · rw [if_pos c, if_pos (by rw [c]; simp), c]
  · rw [if_neg c]
    by_cases d : w ∈ lackK ls f g
    · rw [if_pos d, if_pos (List.mem_append_left _ d)]
    · rw [if_neg d, if_neg (by simp [d, c])]
/-- names are names, and no share is (0, 0) -/
structure NmP (ks : List Str) (f : Sh) : Prop where
  nm : NmOk ks
  pos : ∀ z ∈ ks, 0 < (f z).1 ∨ 0 < (f z).2
  lim : ∀ z, (f z).1 < LIM ∧ (f z).2 < LIM
theorem lim_pos : (0 : Int) < LIM := by decide
theorem NmP.nil : NmP [] (fun _ => (0, 0)) := ⟨NmOk.nil, fun z h => (by cases h), fun _ => ⟨lim_pos, lim_pos⟩⟩
theorem NmP.add {ks : List Str} {f : Sh} (h : NmP ks f) {z : Str} {a b : Int} (hz : nameB z = true) (hp : 0 < a ∨ 0 < b) (hl : a < LIM ∧ b < LIM) : NmP (addK ks z) (setF f z (a, b)) := by
  refine ⟨h.nm.add hz, fun w hw => ?_, fun w => ?_⟩
  · unfold setF
    split
    · exact hp
    · rename_i c
      exact h.pos w ((mem_addK.mp hw).resolve_right c)
  · unfold setF
    split
    · exact hl
    · exact h.lim w
theorem lim_min (i : Int) : (if (10 ^ (60 : Int).toNat - 1 : Int) < i then (10 ^ (60 : Int).toNat - 1 : Int) else i) < LIM := by
  have e : LIM = 10 ^ (60 : Int).toNat := rfl
  split <;> omega
theorem pos_of {a b : Int} (ha : 0 ≤ a) (hb : 0 ≤ b) (h : (decide (a = 0) && decide (b = 0)) = false) : 0 < a ∨ 0 < b := by
  by_cases c : a = 0
  · by_cases d : b = 0
    · rw [decide_eq_true c, decide_eq_true d] at h; cases h
    · right; omega
  · left; omega
end Gc
namespace Gc
open PySem L2 Evl
theorem sorted_filter {l : List Str} (p : Str → Bool) (h : PyProof.Rows.sortedS l = true) : PyProof.Rows.sortedS (l.filter p) = true := by
  refine PyProof.Rows.sortedS_of_pairwise _ (List.Pairwise.filter _ ?_)
  refine List.Pairwise.imp (fun {a b} q => ?_) (sorted_pw h)
  rw [PyProof.Rows.ltCps_eq, decide_eq_false_iff_not]
  exact List.not_lt.mpr q
theorem lackK_take {ys : List Str} {f g : Sh} {i : Nat} {z : Str} (h : ys[i]? = some z) : lackK (ys.take (i + 1)) f g = if rchB f g z = true then lackK (ys.take i) f g else lackK (ys.take i) f g ++ [z] := by
  rw [take_snoc h, lackK_snoc]
theorem addK_lack {ys : List Str} (nd : ys.Nodup) {f g : Sh} {i : Nat} {z : Str} (h : ys[i]? = some z) : addK (lackK (ys.take i) f g) z = lackK (ys.take i) f g ++ [z] := if_neg fun q => not_take nd h (mem_lackK.mp q).1
/-- where it is reached nothing is put, else its share -/
theorem lack_yes {ys : List Str} {f g : Sh} {i : Nat} {z : Str} (h : ys[i]? = some z) (b : rchB f g z = true) : lackK (ys.take (i + 1)) f g = lackK (ys.take i) f g ∧ lackP (ys.take (i + 1)) f g = lackP (ys.take i) f g := by
  refine ⟨by rw [lackK_take h, if_pos b], ?_⟩
  rw [take_snoc h, lackP_yes b]
theorem lack_no {ys : List Str} (nd : ys.Nodup) {f g : Sh} {i : Nat} {z : Str} (h : ys[i]? = some z) (b : rchB f g z = false) : lackK (ys.take (i + 1)) f g = addK (lackK (ys.take i) f g) z ∧ lackP (ys.take (i + 1)) f g = setF (lackP (ys.take i) f g) z ((g z).1, (g z).2) := by
  refine ⟨by rw [lackK_take h, if_neg (by rw [b]; exact Bool.false_ne_true), addK_lack nd h], ?_⟩
  rw [take_snoc h, lackP_no b]
/-- of the page without names all is lacking -/
theorem rch_zero {g : Sh} {z : Str} (h : 0 < (g z).1 ∨ 0 < (g z).2) : rchB (fun _ => (0, 0)) g z = false := by
  show (decide ((g z).1 ≤ 0) && decide ((g z).2 ≤ 0)) = false
  rcases h with h | h
  · rw [decide_eq_false (by omega), Bool.false_and]
  · rw [decide_eq_false (p := (g z).2 ≤ 0) (by omega), Bool.and_false]
theorem lackK_zero {ls : List Str} {g : Sh} (h : ∀ z ∈ ls, 0 < (g z).1 ∨ 0 < (g z).2) : lackK ls (fun _ => (0, 0)) g = ls := by
  unfold lackK
  exact List.filter_eq_self.mpr fun z hz => by rw [rch_zero (h z hz)]; rfl
/-- not reached: one of both is greater -/
theorem rch_or {a b c d : Int} : (decide (a < c) || decide (b < d)) = !reachB a b c d := by
  show _ = !(decide (c ≤ a) && decide (d ≤ b))
  by_cases h : a < c
  · rw [decide_eq_true h, decide_eq_false (p := c ≤ a) (by omega)]; rfl
  · rw [decide_eq_false h, decide_eq_true (p := c ≤ a) (by omega)]
    by_cases q : b < d
    · rw [decide_eq_true q, decide_eq_false (p := d ≤ b) (by omega)]; rfl
    · rw [decide_eq_false q, decide_eq_true (p := d ≤ b) (by omega)]; rfl
theorem reach_both {a b c d : Int} (h : reachB a b c d = true) : c ≤ a ∧ d ≤ b := by
  unfold reachB at h
  rw [Bool.and_eq_true] at h
  exact ⟨of_decide_eq_true h.1, of_decide_eq_true h.2⟩
theorem reach_not {a b c d : Int} (h : reachB a b c d = false) (h1 : ¬ a < c) : b < d := by
  unfold reachB at h
  rw [decide_eq_true (p := c ≤ a) (by omega), Bool.true_and] at h
  have := of_decide_eq_false h
  omega
/-- what stands at a heap of law k06 -/
structure C6 (K : PySem.W.Frag) (H0 H : Hp) (o1 o2 c1 c2 D : Addr) (k1 k2 : List (Key × V)) (n1 n2 : List Str) (f1 f2 : Sh) : Prop where
  r1 : H o1 = some (.dK k1)
  r2 : H o2 = some (.dK k2)
  x1 : H c1 = some (.dK k1)
  x2 : H c2 = some (.dK k2)
  xd : H D = some (.lst [.ref c1, .ref c2])
  p1 : PgK K H k1 n1 f1
  p2 : PgK K H k2 n2 f2
  e : Ex H0 H
theorem C6.ex {K : PySem.W.Frag} {H0 H H' : Hp} {o1 o2 c1 c2 D : Addr} {k1 k2 : List (Key × V)} {n1 n2 : List Str} {f1 f2 : Sh} (c : C6 K H0 H o1 o2 c1 c2 D k1 k2 n1 n2 f1 f2) (e : Ex H H') : C6 K H0 H' o1 o2 c1 c2 D k1 k2 n1 n2 f1 f2 :=
  ⟨e _ _ c.r1, e _ _ c.r2, e _ _ c.x1, e _ _ c.x2, e _ _ c.xd, c.p1.et (Et.of e), c.p2.et (Et.of e), c.e.trans e⟩
/-- all but the old ones stays -/
theorem ex_of_none {H H' : Hp} {r : Addr} (e : Ex H H') (h : H' r = none) : H r = none := by
  cases z : H r with
  | none => rfl
  | some o => have := e _ _ z; rw [h] at this; cases this
end Gc

local macro_rules | `(tactic| walk_at "gc_pg") => `(tactic| exact Gc.PgK.nil)

namespace Gc
open PySem L2 Evl
theorem len0 {α : Type} : ([] : List α).length < 1000 := by show 0 < 1000; decide
theorem len1 {α : Type} {a : α} : [a].length < 1000 := by show 1 < 1000; decide
theorem len2 {α : Type} {a b : α} : [a, b].length < 1000 := by show 2 < 1000; decide
/-- a hand: its name z, its page at d -/
abbrev insH (C dx : Addr) (z : Str) (d : Addr) : HO := .ins C dx [("name", .str z), ("known", .ref d)]
def addAt (p : Int) (s : Int × Int) (m : Int) : Int × Int := if p = 0 then (s.1 + m, s.2) else (s.1, s.2 + m)
theorem all_getD {P : V → Prop} {xs : List V} {i : Int} (h0 : 0 ≤ i) (h1 : i < xs.length) (h : ∀ v ∈ xs, P v) : P (xs.getD i.toNat .non) := h _ (getD_mem h0 h1)
theorem amount_bad {m : Int} (h : m < 1 ∨ 1000000000 < m) : amountB m = false := by
  unfold amountB
  rcases h with h | h
  · rw [decide_eq_false (by omega), Bool.false_and]
  · rw [decide_eq_false (p := m ≤ 1000000000) (by omega), Bool.and_false]
theorem totF_one {z : Str} {f : Sh} : totF [z] f = (f z).1 - (f z).2 := by unfold totF; simp
/-- the page of one name -/
def oneF (z : Str) (s : Int × Int) : Sh := fun w => if w = z then s else (0, 0)
theorem oneF_at {z : Str} {s : Int × Int} : oneF z s z = s := if_pos rfl
theorem oneF_ne {z w : Str} {s : Int × Int} (h : ¬ w = z) : oneF z s w = (0, 0) := if_neg h
theorem PgK.one {K : PySem.W.Frag} {H : Hp} {z : Str} {t : Addr} {s : Int × Int} (h : ShAt K H t s.1 s.2) : PgK K H [(.inr z, .ref t)] [z] (oneF z s) := by
  refine ⟨rfl, List.nodup_cons.mpr ⟨by simp, List.nodup_nil⟩, fun w v q => ?_, fun w hw => oneF_ne (fun c => hw (by rw [c]; simp))⟩
  have hm := valV_mem q
  have e : ((.inr w : Key), v) = (.inr z, V.ref t) := by simpa using hm
  cases e
  exact ⟨t, rfl, by rw [oneF_at]; exact h⟩
theorem mxF_one {f : Sh} {z : Str} {s : Int × Int} (hf : NN f) (h1 : (f z).1 ≤ s.1) (h2 : (f z).2 ≤ s.2) : mxF f (oneF z s) = setF f z s := by
  funext w
  show (gmax (f w).1 (oneF z s w).1, gmax (f w).2 (oneF z s w).2) = if w = z then s else f w
  by_cases c : w = z
  · rw [if_pos c, c, oneF_at]
    have g : ∀ i j : Int, i ≤ j → gmax i j = j := fun i j h => by unfold gmax; split <;> omega
    rw [g _ _ h1, g _ _ h2]
  · rw [if_neg c, oneF_ne c, gmax_0 (hf w).1, gmax_0 (hf w).2]
theorem addAt_ge {p : Int} {s : Int × Int} {m : Int} (hm : 0 ≤ m) : s.1 ≤ (addAt p s m).1 ∧ s.2 ≤ (addAt p s m).2 := by
  unfold addAt
  split
  · exact ⟨by show s.1 ≤ s.1 + m; omega, Int.le_refl _⟩
  · exact ⟨Int.le_refl _, by show s.2 ≤ s.2 + m; omega⟩
theorem amount_pos {m : Int} (h : amountB m = true) : 1 ≤ m := by
  unfold amountB at h
  simp only [Bool.and_eq_true, decide_eq_true_eq] at h
  exact h.1
theorem sqT_ins {K : PySem.W.Frag} {H : Hp} {p C dx : Addr} {fs : List (Str × V)} {o : HO} (h : H p = some (.ins C dx fs)) {a : Addr} {xs : List V} (q : SqT K H a xs) : SqT K (upd H p o) a xs := by
  rcases q with (q | ⟨od, q⟩) | q
  · exact .inl (.inl (by rw [upd_ne (fun z => by rw [z, h] at q; cases q)]; exact q))
  · exact .inl (.inr ⟨od, by rw [upd_ne (fun z => by rw [z, h] at q; cases q)]; exact q⟩)
  · exact .inr q
theorem PgK.ins {K : PySem.W.Frag} {H : Hp} {p C dx : Addr} {fs : List (Str × V)} {o : HO} (h : H p = some (.ins C dx fs)) {kvs : List (Key × V)} {ks : List Str} {f : Sh} (g : PgK K H kvs ks f) : PgK K (upd H p o) kvs ks f :=
  ⟨g.keys, g.nd, fun z v q => let ⟨t, h1, h2⟩ := g.at_ z v q; ⟨t, h1, sqT_ins h h2⟩, g.out⟩
theorem sqT_exs {K : PySem.W.Frag} {S : Addr → Prop} {H H' : Hp} (e : Exs S H H') (hS : ∀ p, S p → (∃ C dx fs, H p = some (.ins C dx fs)) ∨ ∃ xs, H p = some (.lst xs)) {a : Addr} {xs : List V} (q : SqT K H a xs) : SqT K H' a xs := by
  rcases q with (q | ⟨od, q⟩) | q
  · exact .inl (.inl (e _ _ (fun z => by rcases hS _ z with ⟨_, _, _, h⟩ | ⟨_, h⟩ <;> (rw [q] at h; cases h)) q))
  · exact .inl (.inr ⟨od, e _ _ (fun z => by rcases hS _ z with ⟨_, _, _, h⟩ | ⟨_, h⟩ <;> (rw [q] at h; cases h)) q⟩)
  · exact .inr q
/-- the hand at x, of the name z, that has raised a and lowered b -/
structure HandAt (K : PySem.W.Frag) (C : Addr) (H : Hp) (x : Addr) (z : Str) (a b : Int) : Prop where
  it : ∃ dx d kvs ks f, H x = some (insH C dx z d) ∧ H d = some (.dK kvs) ∧ PgK K H kvs ks f ∧ NN f ∧ 0 ≤ a ∧ 0 ≤ b ∧ ((a = 0 ∧ b = 0 ∧ ks = []) ∨ (¬ (a = 0 ∧ b = 0) ∧ ks = [z] ∧ f z = (a, b)))
theorem HandAt.exs {K : PySem.W.Frag} {C : Addr} {H H' : Hp} {x : Addr} {z : Str} {a b : Int} {S : Addr → Prop} (h : HandAt K C H x z a b) (e : Exs S H H') (hS : ∀ p, S p → (∃ C dx fs, H p = some (.ins C dx fs)) ∨ ∃ xs, H p = some (.lst xs)) (hx : ¬ S x) : HandAt K C H' x z a b := by
  obtain ⟨dx, d, kvs, ks, f, h1, h2, h3, h4, h5, h6, h7⟩ := h.it
  refine ⟨dx, d, kvs, ks, f, e _ _ hx h1, e _ _ (fun z => ?_) h2, ⟨h3.keys, h3.nd, fun z v q => let ⟨t, g1, g2⟩ := h3.at_ z v q; ⟨t, g1, sqT_exs e hS g2⟩, h3.out⟩, h4, h5, h6, h7⟩
  rcases hS _ z with ⟨_, _, _, h⟩ | ⟨_, h⟩ <;> (rw [h2] at h; cases h)
theorem HandAt.ex {K : PySem.W.Frag} {C : Addr} {H H' : Hp} {x : Addr} {z : Str} {a b : Int} (h : HandAt K C H x z a b) (e : Ex H H') : HandAt K C H' x z a b := h.exs (S := fun _ => False) (Exs.of e) (fun _ q => q.elim) id
theorem only_one {z : Str} : ∀ {ys : List Str}, ys.Nodup → (∀ w, w ∈ ys ↔ w = z) → ys = [z]
  | [], _, h => absurd ((h z).mpr rfl) (by simp)
  | [y], _, h => by rw [(h y).mp (by simp)]
  | y1 :: y2 :: r, nd, h => by
    have e1 := (h y1).mp (by simp)
    have e2 := (h y2).mp (by simp)
    have := (List.nodup_cons.mp nd).1
    rw [e1, e2] at this
    exact absurd (by simp) this
theorem HandAt.grown {K : PySem.W.Frag} {C : Addr} {H' : Hp} {x dx d' : Addr} {z : Str} {a b p m : Int} {ks ys : List Str} {f : Sh} {kvs' : List (Key × V)} (hout : ∀ w, ¬ w ∈ ks → f w = (0, 0)) (hnn : NN f) (ha : 0 ≤ a) (hb : 0 ≤ b) (hm : amountB m = true)
    (hc : (a = 0 ∧ b = 0 ∧ ks = []) ∨ (¬ (a = 0 ∧ b = 0) ∧ ks = [z] ∧ f z = (a, b))) (h1 : H' x = some (insH C dx z d')) (h2 : H' d' = some (.dK kvs')) (h3 : PgK K H' kvs' ys (setF f z (addAt p (f z) m))) (h4 : ∀ w, w ∈ ys ↔ w ∈ ks ∨ w = z) :
    HandAt K C H' x z (addAt p (a, b) m).1 (addAt p (a, b) m).2 ∧ totF ys (setF f z (addAt p (f z) m)) = (addAt p (a, b) m).1 - (addAt p (a, b) m).2 := by
  have hm1 := amount_pos hm
  have hfz : f z = (a, b) := by
    rcases hc with ⟨rfl, rfl, rfl⟩ | ⟨_, _, e⟩
    · exact hout z (by simp)
    · exact e
  have hys : ys = [z] := by
    refine only_one h3.nd (fun w => (h4 w).trans ?_)
    rcases hc with ⟨_, _, rfl⟩ | ⟨_, rfl, _⟩ <;> simp
  rw [hfz] at h3
  have hge := addAt_ge (p := p) (s := (a, b)) (m := m) (by omega)
  have hne : ¬ ((addAt p (a, b) m).1 = 0 ∧ (addAt p (a, b) m).2 = 0) := by
    unfold addAt
    split
    · show ¬ (a + m = 0 ∧ b = 0); omega
    · show ¬ (a = 0 ∧ b + m = 0); omega
  have g1 : a ≤ (addAt p (a, b) m).1 := hge.1
  have g2 : b ≤ (addAt p (a, b) m).2 := hge.2
  refine ⟨⟨dx, d', kvs', ys, _, h1, h2, h3, hnn.set (a := (addAt p (a, b) m).1) (b := (addAt p (a, b) m).2) (by omega) (by omega), by omega, by omega, .inr ⟨hne, hys, setF_same⟩⟩, ?_⟩
  rw [hys, totF_one, hfz, setF_same]
theorem make_ex {H H' : Hp} {x dx C : Addr} (hx : H x = none) (hdx : H dx = none) (e : Exs (fun a => a = x) (upd (upd H dx (.own x)) x (.ins C dx [])) H') : Ex H H' :=
  Exs.ex (Exs.trans (Exs.of (Ex.mut (Ex.new hdx) hx)) e) (fun a q => by rw [q]; exact hx)
theorem HandAt.new {K : PySem.W.Frag} {C : Addr} {H : Hp} {x dx d : Addr} {z : Str} (h1 : H x = some (insH C dx z d)) (h2 : H d = some (.dK [])) : HandAt K C H x z 0 0 :=
  ⟨dx, d, [], [], fun _ => (0, 0), h1, h2, PgK.nil, NN.zero, Int.le_refl _, Int.le_refl _, .inl ⟨rfl, rfl, rfl⟩⟩
theorem name_len {z : Str} (h : nameB z = true) : z.length ≤ 100000 := by have := ((nameB_iff z).mp h).2.1; omega
/-- what stands at a heap of law k07 -/
structure C7 (K : PySem.W.Frag) (C : Addr) (H0 H : Hp) (L1 L2 L3 s0 s1 x0 x1 : Addr) (z0 z1 : Str) : Prop where
  e : Ex H0 H
  l1 : H L1 = some (.lst [.str z0, .str z1])
  l2 : H L2 = some (.lst [.ref x0, .ref x1])
  l3 : H L3 = some (.lst [.ref s0, .ref s1])
  w0 : ∃ a b, H s0 = some (.lst [.int a, .int b]) ∧ HandAt K C H x0 z0 a b
  w1 : ∃ a b, H s1 = some (.lst [.int a, .int b]) ∧ HandAt K C H x1 z1 a b
section
variable {K : PySem.W.Frag} {C : Addr} {H0 H H' : Hp} {L1 L2 L3 s0 s1 x0 x1 : Addr} {z0 z1 : Str}
theorem C7.ex (c : C7 K C H0 H L1 L2 L3 s0 s1 x0 x1 z0 z1) (e : Ex H H') : C7 K C H0 H' L1 L2 L3 s0 s1 x0 x1 z0 z1 := by
  obtain ⟨a0, b0, g0, k0⟩ := c.w0
  obtain ⟨a1, b1, g1, k1⟩ := c.w1
  exact ⟨c.e.trans e, e _ _ c.l1, e _ _ c.l2, e _ _ c.l3, ⟨a0, b0, e _ _ g0, k0.ex e⟩, ⟨a1, b1, e _ _ g1, k1.ex e⟩⟩
/-- one of both hands: what it is, and what is left to tell where it changed -/
theorem C7.pick (c : C7 K C H0 H L1 L2 L3 s0 s1 x0 x1 z0 z1) (hx : x0 ≠ x1) (hs : s0 ≠ s1) (n0 : H0 s0 = none) (n1 : H0 s1 = none) (m0 : H0 x0 = none) (m1 : H0 x1 = none) (g0 : nameB z0 = true) (g1 : nameB z1 = true) {i : Int} (hi : i = 0 ∨ i = 1) :
    ∃ s x z a b, atI [V.ref s0, .ref s1] i = some (.ref s) ∧ atI [V.ref x0, .ref x1] i = some (.ref x) ∧ atI [V.str z0, .str z1] i = some (.str z) ∧ nameB z = true ∧ H s = some (.lst [.int a, .int b]) ∧ HandAt K C H x z a b ∧ H0 s = none ∧ H0 x = none ∧
      ∀ H' a' b', Exs (fun b => b = x ∨ b = s) H H' → H' s = some (.lst [.int a', .int b']) → HandAt K C H' x z a' b' → C7 K C H0 H' L1 L2 L3 s0 s1 x0 x1 z0 z1 := by
  obtain ⟨a0, b0, t0, k0⟩ := c.w0
  obtain ⟨a1, b1, t1, k1⟩ := c.w1
  have key : ∀ {s x s' x' : Addr} {z z' : Str} {a b a' b' : Int}, x' ≠ x → s' ≠ s → H0 s = none → H0 x = none → H s = some (.lst [.int a, .int b]) → HandAt K C H x z a b → H s' = some (.lst [.int a', .int b']) → HandAt K C H x' z' a' b' →
      ∀ H', Exs (fun b => b = x ∨ b = s) H H' → Ex H0 H' ∧ H' L1 = some (.lst [.str z0, .str z1]) ∧ H' L2 = some (.lst [.ref x0, .ref x1]) ∧ H' L3 = some (.lst [.ref s0, .ref s1]) ∧ H' s' = some (.lst [.int a', .int b']) ∧ HandAt K C H' x' z' a' b' := by
    intro s x s' x' z z' a b a' b' hx hs ns nx hs1 hx1 hs2 hx2 H' e
    obtain ⟨dx, d, kvs, ks, f, q1, _⟩ := hx1.it
    have nl : ∀ L y r, H L = some (.lst (y :: r)) → (∀ i, y ≠ .int i) → ¬ (L = x ∨ L = s) := fun L y r q hy z => by
      rcases z with rfl | rfl
      · rw [q1] at q; cases q
      · rw [hs1] at q; cases q; exact hy _ rfl
    refine ⟨fun b o q => e b o (fun z => by rcases z with rfl | rfl <;> simp_all) (c.e b o q), e _ _ (nl _ _ _ c.l1 (by intro i z; cases z)) c.l1, e _ _ (nl _ _ _ c.l2 (by intro i z; cases z)) c.l2, e _ _ (nl _ _ _ c.l3 (by intro i z; cases z)) c.l3, e _ _ (fun z => ?_) hs2, hx2.exs e (fun p hp => ?_) (fun z => ?_)⟩
    · rcases z with rfl | z
      · rw [q1] at hs2; cases hs2
      · exact hs z
    · rcases hp with rfl | rfl
      · exact .inl ⟨_, _, _, q1⟩
      · exact .inr ⟨_, hs1⟩
    · rcases z with z | rfl
      · exact hx z
      · obtain ⟨_, _, _, _, _, q2, _⟩ := hx2.it
        rw [hs1] at q2; cases q2
  rcases hi with rfl | rfl
  · refine ⟨s0, x0, z0, a0, b0, rfl, rfl, rfl, g0, t0, k0, n0, m0, fun H' a' b' e h1 h2 => ?_⟩
    obtain ⟨q0, q1, q2, q3, q4, q5⟩ := key (Ne.symm hx) (Ne.symm hs) n0 m0 t0 k0 t1 k1 H' e
    exact ⟨q0, q1, q2, q3, ⟨_, _, h1, h2⟩, ⟨_, _, q4, q5⟩⟩
  · refine ⟨s1, x1, z1, a1, b1, rfl, rfl, rfl, g1, t1, k1, n1, m1, fun H' a' b' e h1 h2 => ?_⟩
    obtain ⟨q0, q1, q2, q3, q4, q5⟩ := key hx hs n1 m1 t1 k1 t0 k0 H' e
    exact ⟨q0, q1, q2, q3, ⟨_, _, q4, q5⟩, ⟨_, _, h1, h2⟩⟩
end
/-- how the five classes of errors answer isinstance, and what kind tells -/
inductive KindOf : Bool → Bool → Bool → Bool → Bool → Str → Prop
  | name : KindOf true false false false false "name"
  | amount : KindOf false true false false false "amount"
  | page : KindOf false false true false false "page"
  | forged : KindOf false false false true false "forged"
  | note : KindOf false false false false true "note"
end Gc
local macro_rules | `(tactic| walk_at "gc_pg") => `(tactic| first
  | exact fun _ h => h
  | with_reducible exact Gc.len0
  | with_reducible exact Gc.len1
  | with_reducible exact Gc.len2
  | exact L2.upd_same
  | exact Or.inl (Evl.sq_of L2.upd_same)
  | exact Exists.intro _ (Evl.sq_of L2.upd_same)
  | exact Evl.sq_of L2.upd_same)

namespace Gc
open PySem L2 Evl
/-- a page as is_page wants it -/
theorem PgK.pageJ {K : PySem.W.Frag} {H : Hp} {kvs : List (Key × V)} {ks : List Str} {f : Sh} (h : PgK K H kvs ks f) (hn : NN f) (hp : NmP ks f) (hl : ks.length ≤ 200) : PageJ K H kvs true := by
  have hk : ∀ p ∈ kvs, ∃ z ∈ ks, p.1 = .inr z := fun p hp => by
    have q : p.1 ∈ kvs.map (·.1) := List.mem_map.mpr ⟨p, hp, rfl⟩
    rw [h.keys] at q
    obtain ⟨z, hz, e⟩ := List.mem_map.mp q
    exact ⟨z, hz, e.symm⟩
  have hlen := h.len
  refine ⟨fun p hp' => ?_, by omega, fun k => match k with | .inr z => pairB (some (f z).1) (some (f z).2) | .inl _ => false, fun k v q => ?_, ?_⟩
  · obtain ⟨z, hz, e⟩ := hk p hp'
    rw [e]
    show z.length ≤ 100000
    have := ((nameB_iff z).mp (hp.nm z hz)).2.1
    omega
  · have hm := valV_mem q
    obtain ⟨z, hz, e⟩ := hk _ hm
    have e' : k = .inr z := e
    subst e'
    obtain ⟨t, ht, hs⟩ := h.at_ z v q
    subst ht
    exact .two hs (.int _) (.int _)
  · rw [decide_eq_true (by omega), Bool.true_and]
    refine (List.all_eq_true.mpr fun p hp' => ?_).symm
    obtain ⟨z, hz, e⟩ := hk p hp'
    rw [e]
    show (nameB z && pairB (some (f z).1) (some (f z).2)) = true
    have h1 := hn z
    have h2 := hp.lim z
    have h3 := hp.pos z hz
    rw [hp.nm z hz]
    unfold pairB goodN
    simp only [Bool.true_and, Bool.and_eq_true, decide_eq_true_eq]
    exact ⟨⟨h1.1, h2.1⟩, ⟨h1.2, h2.2⟩, by omega⟩
/-- no page: a dict that is none, or no dict -/
def NoPg (K : PySem.W.Frag) (H : Hp) (v : V) : Prop := (∃ (e : Addr) (kvs : List (Key × V)), v = .ref e ∧ H e = some (.dK kvs) ∧ PageJ K H kvs false) ∨ ∃ t : String, TyX K H v (.type t) ∧ PySem.W.kitOne K (.type t) (.type "dict") = some false
end Gc
namespace Gc
open PySem L2 Evl
theorem let_inj8 {i j : Int} {s : Nat} (h1 : atI LET.cps.toList i = some s) (h2 : atI LET.cps.toList j = some s) (i0 : 0 ≤ i) (i1 : i < 26) (j0 : 0 ≤ j) (j1 : j < 26) : i = j := by
  have nd : LET.cps.toList.Nodup := by decide +kernel
  have hl : LET.cps.toList.length = 26 := by decide +kernel
  have key : ∀ k : Int, 0 ≤ k → k < 26 → ∀ s, atI LET.cps.toList k = some s → LET.cps.toList[k.toNat]? = some s := fun k k0 k1 s h => by
    have hk : k.toNat < LET.cps.toList.length := by omega
    have q : atI LET.cps.toList ((k.toNat : Nat) : Int) = some LET.cps.toList[k.toNat] := atI_nat (List.getElem?_eq_getElem hk)
    rw [show ((k.toNat : Nat) : Int) = k by omega, h] at q
    rw [List.getElem?_eq_getElem hk, Option.some.inj q]
  obtain ⟨hi, e1⟩ := List.getElem?_eq_some_iff.mp (key i i0 i1 s h1)
  obtain ⟨hj, e2⟩ := List.getElem?_eq_some_iff.mp (key j j0 j1 s h2)
  have pw := List.pairwise_iff_getElem.mp (List.nodup_iff_pairwise_ne.mp nd)
  rcases Nat.lt_trichotomy i.toNat j.toNat with c | c | c
  · exact absurd (e1.trans e2.symm) (pw _ _ hi hj c)
  · omega
  · exact absurd (e2.trans e1.symm) (pw _ _ hj hi c)
/-- the many names -/
def NmQ (j : Nat) (z : Str) : Prop := ∃ s1 s2, atI LET.cps.toList ((j : Int) % 26) = some s1 ∧ atI LET.cps.toList ((j : Int) / 26) = some s2 ∧ z = (⟨#[s1]⟩ ++ ⟨#[s2]⟩ : Str) ++ ("q" : Str)
theorem nmQ_inj {i j : Nat} {z : Str} (h1 : NmQ i z) (h2 : NmQ j z) (hi : i < 201) (hj : j < 201) : i = j := by
  obtain ⟨a1, a2, x1, x2, x3⟩ := h1
  obtain ⟨b1, b2, y1, y2, y3⟩ := h2
  rw [x3] at y3
  have e := congrArg (fun z : Str => z.cps.toList) y3
  simp only [app_tl] at e
  have e1 : a1 = b1 := (List.cons.inj e).1
  have e2 : a2 = b2 := (List.cons.inj (List.cons.inj e).2).1
  subst e1 e2
  have q1 := let_inj8 x1 y1 (by omega) (by omega) (by omega) (by omega)
  have q2 := let_inj8 x2 y2 (by omega) (by omega) (by omega) (by omega)
  omega
theorem nmQ_nd {zs : List Str} (h : ∀ j z, zs[j]? = some z → NmQ j z) (hl : zs.length ≤ 201) : zs.Nodup := by
  refine List.nodup_iff_pairwise_ne.mpr (List.pairwise_iff_getElem.mpr fun i j hi hj hij e => ?_)
  have := nmQ_inj (h i _ (List.getElem?_eq_getElem hi)) (by rw [e]; exact h j _ (List.getElem?_eq_getElem hj)) (by omega) (by omega)
  omega
theorem nameB_q {s1 s2 : Nat} (h1 : s1 ∈ LET.cps.toList) (h2 : s2 ∈ LET.cps.toList) : nameB ((⟨#[s1]⟩ ++ ⟨#[s2]⟩ : Str) ++ ("q" : Str)) = true := by
  refine (nameB_iff _).mpr ⟨?_, ?_, fun x hx => ?_⟩
  · rw [app_len, app_len]; show 1 ≤ 1 + 1 + 1; decide
  · rw [app_len, app_len]; show 1 + 1 + 1 ≤ 8; decide
  · rw [app_tl, app_tl] at hx
    have hx' : x ∈ [s1] ++ [s2] ++ [113] := hx
    simp only [List.mem_append, List.mem_cons, List.not_mem_nil, or_false] at hx'
    rcases hx' with (rfl | rfl) | rfl
    · exact h1
    · exact h2
    · decide +kernel
theorem PgK.allOk {K : PySem.W.Frag} {H : Hp} {kvs : List (Key × V)} {ks : List Str} {f : Sh} (h : PgK K H kvs ks f) (hn : NN f) (hp : NmP ks f) : AllOk K H kvs := fun p hp' => by
  have q : p.1 ∈ kvs.map (·.1) := List.mem_map.mpr ⟨p, hp', rfl⟩
  rw [h.keys] at q
  obtain ⟨z, hz, e⟩ := List.mem_map.mp q
  have nd : (kvs.map (·.1)).Nodup := by rw [h.keys]; exact List.Pairwise.map _ (fun a b n e => n (Sum.inr.inj e)) h.nd
  obtain ⟨t, ht, hs⟩ := h.there hz
  rw [e, val_nodup nd p hp'] at ht
  have e2 : p.2 = .ref t := Option.some.inj ht
  rw [← e, e2]
  refine ⟨hp.nm z hz, ?_⟩
  have h1 := hn z
  have h2 := hp.lim z
  have h3 := hp.pos z hz
  have hb : pairB (some (f z).1) (some (f z).2) = true := by
    unfold pairB goodN
    simp only [Bool.and_eq_true, decide_eq_true_eq]
    exact ⟨⟨h1.1, h2.1⟩, ⟨h1.2, h2.2⟩, by omega⟩
  rw [← hb]
  exact .two hs (.int _) (.int _)
theorem mem_put {kvs : List (Key × V)} {k : Key} {v : V} {p : Key × V} (h : p ∈ putK kvs k v) : p = (k, v) ∨ p ∈ kvs := by
  unfold putK at h
  split at h
  · obtain ⟨q, hq, e⟩ := List.mem_map.mp h
    by_cases c : q.1 = k
    · rw [if_pos c] at e
      left
      rw [← e, c]
    · rw [if_neg c] at e
      right
      rw [← e]
      exact hq
  · rcases List.mem_append.mp h with c | c
    · exact .inr c
    · exact .inl (List.mem_singleton.mp c)
theorem put_mem {kvs : List (Key × V)} {k : Key} {v : V} : (k, v) ∈ putK kvs k v := valV_mem (by rw [valV_put, if_pos rfl])
theorem AllOk.put {K : PySem.W.Frag} {H : Hp} {kvs : List (Key × V)} {k : Key} {v : V} (h : AllOk K H kvs) (hk : keyB k = true) (hv : ShJ K H v true) : AllOk K H (putK kvs k v) := fun p hp => by
  rcases mem_put hp with rfl | q
  · exact ⟨hk, hv⟩
  · exact h p q
theorem AllOk.odd {K : PySem.W.Frag} {H : Hp} {kvs : List (Key × V)} {k : Key} {v : V} {b : Bool} (h : AllOk K H kvs) (hv : ShJ K H v b) (e : (keyB k && b) = false) : OneOdd K H (putK kvs k v) :=
  ⟨(k, v), put_mem, b, hv, e, fun p hp => (mem_put hp).imp id fun q => (h p q).2⟩
theorem AllOk.sz {K : PySem.W.Frag} {H : Hp} {kvs : List (Key × V)} (h : AllOk K H kvs) : ∀ p ∈ kvs, keySz p.1 := fun p hp => by
  have q := (h p hp).1
  cases e : p.1 with
  | inl n => trivial
  | inr z =>
    rw [e] at q
    have := ((nameB_iff z).mp q).2.1
    show z.length ≤ 100000
    omega
theorem sz_put {kvs : List (Key × V)} {k : Key} {v : V} (h : ∀ p ∈ kvs, keySz p.1) (hk : keySz k) : ∀ p ∈ putK kvs k v, keySz p.1 := fun p hp => by
  rcases mem_put hp with rfl | q
  · exact hk
  · exact h p q
theorem PgK.ndk {K : PySem.W.Frag} {H : Hp} {kvs : List (Key × V)} {ks : List Str} {f : Sh} (h : PgK K H kvs ks f) : (kvs.map (·.1)).Nodup := by
  rw [h.keys]; exact List.Pairwise.map _ (fun a b n e => n (Sum.inr.inj e)) h.nd
theorem keyPut {kvs : List (Key × V)} {k k0 : Key} {v : V} : k ∈ (putK kvs k0 v).map (·.1) ↔ k ∈ kvs.map (·.1) ∨ k = k0 := by
  have iff : ∀ {kvs : List (Key × V)} {k : Key}, k ∈ kvs.map (·.1) ↔ (valV kvs k).isSome = true := by
    intro kvs k
    constructor
    · intro h
      obtain ⟨p, hp, e⟩ := List.mem_map.mp h
      obtain ⟨v, hv⟩ := valV_some hp
      rw [← e, hv]
      rfl
    · intro h
      cases q : valV kvs k with
      | none => rw [q] at h; cases h
      | some v => exact valV_in q
  rw [iff, iff, valV_put]
  by_cases c : k = k0
  · rw [if_pos c]; simp [c]
  · rw [if_neg c]; simp [c]
end Gc
namespace Gc
open PySem L2 Evl
/-- two pages of the same names and shares are alike -/
theorem PgK.alike {K : PySem.W.Frag} {H : Hp} {kvs kvs2 : List (Key × V)} {ks ls : List Str} {f g : Sh} (h : PgK K H kvs ks f) (q : PgK K H kvs2 ls g) (hm : ∀ w, w ∈ ks ↔ w ∈ ls) (hf : ∀ w ∈ ks, f w = g w) :
    (∀ p ∈ kvs, ∀ v', valV kvs2 p.1 = some v' → EqJ K H p.2 v' ((fun _ => true) p.1)) ∧ dictEqB kvs kvs2 (fun _ => true) = true := by
  have hk : ∀ p ∈ kvs, ∃ z ∈ ks, p.1 = .inr z := fun p hp => by
    have c : p.1 ∈ kvs.map (·.1) := List.mem_map.mpr ⟨p, hp, rfl⟩
    rw [h.keys] at c
    obtain ⟨z, hz, e⟩ := List.mem_map.mp c
    exact ⟨z, hz, e.symm⟩
  refine ⟨fun p hp v' hv => ?_, ?_⟩
  · obtain ⟨z, hz, e⟩ := hk p hp
    obtain ⟨t, ht, hs⟩ := h.there hz
    rw [e] at hv
    obtain ⟨t2, rfl, hs2⟩ := q.at_ z v' hv
    have e2 : p.2 = .ref t := by
      have c := val_nodup h.ndk p hp
      rw [e, ht] at c
      exact (Option.some.inj c).symm
    rw [e2]
    rw [← hf z hz] at hs2
    refine .inr ⟨_, _, two_dp hs, two_dp hs2, shp2 _ _, shp2 _ _, ?_⟩
    rw [eqv2, decide_eq_true rfl, decide_eq_true rfl]
    rfl
  · have hl : ks.length = ls.length := Nat.le_antisymm (nd_len h.nd fun w hw => (hm w).mp hw) (nd_len q.nd fun w hw => (hm w).mpr hw)
    unfold dictEqB
    rw [h.len, q.len, decide_eq_true hl, Bool.true_and]
    refine List.all_eq_true.mpr fun p hp => ?_
    obtain ⟨z, hz, e⟩ := hk p hp
    obtain ⟨t, ht, _⟩ := q.there ((hm z).mp hz)
    rw [e, ht]
    rfl
theorem NmP.of {ks ls : List Str} {f : Sh} (h : NmP ks f) (hm : ∀ w, w ∈ ls ↔ w ∈ ks) : NmP ls f := ⟨fun z hz => h.nm z ((hm z).mp hz), fun z hz => h.pos z ((hm z).mp hz), h.lim⟩
theorem mem_lack_of {ks ls : List Str} {f g : Sh} (hm : ∀ w, w ∈ ks ↔ w ∈ ls) (w : Str) : w ∈ lackK ks f g ↔ w ∈ lackK ls f g := by rw [mem_lackK, mem_lackK, hm w]
theorem gmax_lt {i j k : Int} (h1 : i < k) (h2 : j < k) : gmax i j < k := by unfold gmax; split <;> omega
theorem NmP.mx {ks ls ms : List Str} {f g : Sh} (h : NmP ks f) (q : NmP ls g) (hf : NN f) (hg : NN g) (hm : ∀ w, w ∈ ms ↔ w ∈ ks ∨ w ∈ ls) : NmP ms (mxF f g) := by
  refine ⟨fun z hz => ((hm z).mp hz).elim (h.nm z) (q.nm z), fun z hz => ?_, fun z => ⟨gmax_lt (h.lim z).1 (q.lim z).1, gmax_lt (h.lim z).2 (q.lim z).2⟩⟩
  show 0 < gmax (f z).1 (g z).1 ∨ 0 < gmax (f z).2 (g z).2
  have h1 := hf z
  have h2 := hg z
  unfold gmax
  rcases (hm z).mp hz with c | c
  · have := h.pos z c
    split <;> split <;> omega
  · have := q.pos z c
    split <;> split <;> omega
theorem NNmx {f g : Sh} (hf : NN f) (hg : NN g) : NN (mxF f g) := fun z => by
  have h1 := hf z
  have h2 := hg z
  show 0 ≤ gmax (f z).1 (g z).1 ∧ 0 ≤ gmax (f z).2 (g z).2
  unfold gmax
  constructor
  · split <;> omega
  · split <;> omega
theorem mx_trust {f g : Sh} {z : Str} (h : rchB f g z = true) : mxF f g z = f z := by
  have q : reachB (f z).1 (f z).2 (g z).1 (g z).2 = true := h
  unfold reachB at q
  rw [Bool.and_eq_true, decide_eq_true_eq, decide_eq_true_eq] at q
  show (gmax (f z).1 (g z).1, gmax (f z).2 (g z).2) = f z
  unfold gmax
  rw [if_neg (by omega), if_neg (by omega)]
theorem tyV_dct {K : PySem.W.Frag} {H : Hp} {a : Addr} {kvs : List (Key × V)} (h : H a = some (.dK kvs)) : tyV K "dict" (.ref a) H := .inr (.inr (.inl ⟨rfl, .inl ⟨_, h⟩⟩))
theorem PgK.tps {K : PySem.W.Frag} {H H' : Hp} {kvs : List (Key × V)} {ks : List Str} {f : Sh} (h : PgK K H kvs ks f) (e : ∀ a xs, SqT K H a xs → SqT K H' a xs) : PgK K H' kvs ks f :=
  ⟨h.keys, h.nd, fun z v q => let ⟨t, h1, h2⟩ := h.at_ z v q; ⟨t, h1, e _ _ h2⟩, h.out⟩
theorem NoPg.ex {K : PySem.W.Frag} {H H' : Hp} {v : V} (e : Ex H H') (h : NoPg K H v) : NoPg K H' v := by
  rcases h with ⟨p, kvs, h1, h2, h3⟩ | ⟨t, h1, h2⟩
  · exact .inl ⟨p, kvs, h1, e _ _ h2, h3.et (Et.of e)⟩
  · exact .inr ⟨t, tyx_mono e h1, h2⟩
/-- the hand at the start: what it raised and lowered -/
structure HS (K : PySem.W.Frag) (C : Addr) (H : Hp) (x dx : Addr) (z : Str) (a b : Int) : Prop where
  it : ∃ d kvs ks, H x = some (insH C dx z d) ∧ H d = some (.dK kvs) ∧ PgK K H kvs ks (oneF z (a, b)) ∧ PyProof.Rows.sortedS ks = true ∧ ∀ w, w ∈ ks ↔ w = z ∧ (0 < a ∨ 0 < b)
theorem oneF_zero {z : Str} : oneF z (0, 0) = fun _ => (0, 0) := by
  funext w
  unfold oneF
  split <;> rfl
theorem setF_one {z : Str} {s s' : Int × Int} : setF (oneF z s) z s' = oneF z s' := by
  funext w
  unfold setF oneF
  by_cases c : w = z
  · rw [if_pos c, if_pos c]
  · rw [if_neg c, if_neg c, if_neg c]
theorem oneF_nn {z : Str} {a b : Int} (ha : 0 ≤ a) (hb : 0 ≤ b) : NN (oneF z (a, b)) := fun w => by
  unfold oneF
  split
  · exact ⟨ha, hb⟩
  · exact ⟨Int.le_refl _, Int.le_refl _⟩
theorem oneF_nm {z : Str} {a b : Int} {kl : List Str} (hz : nameB z = true) (ha : a ≤ 14) (hb : b ≤ 2) (h : ∀ w, w ∈ kl ↔ w = z ∧ (0 < a ∨ 0 < b)) : NmP kl (oneF z (a, b)) := by
  refine ⟨fun w hw => by rw [((h w).mp hw).1]; exact hz, fun w hw => by rw [((h w).mp hw).1, oneF_at]; exact ((h w).mp hw).2, fun w => ?_⟩
  unfold oneF
  split
  · exact ⟨by show a < 10 ^ 60; omega, by show b < 10 ^ 60; omega⟩
  · exact ⟨lim_pos, lim_pos⟩
theorem HS.new {K : PySem.W.Frag} {C : Addr} {H : Hp} {x dx d : Addr} {z : Str} (h1 : H x = some (insH C dx z d)) (h2 : H d = some (.dK [])) : HS K C H x dx z 0 0 :=
  ⟨d, [], [], h1, h2, by rw [oneF_zero]; exact PgK.nil, rfl, fun w => ⟨fun q => (by cases q), fun q => absurd q.2 (by omega)⟩⟩
end Gc

namespace Gc
open PySem L2 Evl TL
/-! ### the text of a page -/
abbrev numT (i : Int) : Str := Str.ofString (toString i)
abbrev rowT (z : Str) (s : Int × Int) : Str := (((z ++ (" +" : Str)) ++ numT s.1) ++ (" -" : Str)) ++ numT s.2
def textT (ys : List Str) (f : Sh) : Str := if ys = [] then "nobody" else Txt.join ", " (ys.map fun z => rowT z (f z))
theorem log_ok {i : Int} (h0 : 0 ≤ i) (h : i < LIM) : i.natAbs.log2 < 1920 := by
  have e : LIM = 10 ^ 60 := rfl
  have h2 : i.natAbs < 2 ^ 1920 := by
    have : i.natAbs < 10 ^ 60 := by rw [e] at h; omega
    exact Nat.lt_of_lt_of_le this (by decide)
  by_cases c : i.natAbs = 0
  · rw [c]; decide
  · exact (Nat.log2_lt c).mpr h2
theorem numT_tl {i : Int} (h0 : 0 ≤ i) : (numT i).cps.toList = numL i.toNat := by
  have e : i = ((i.toNat : Nat) : Int) := by omega
  rw [e]
  exact tl_num _
theorem numT_len {i : Int} (h0 : 0 ≤ i) (h : i < LIM) : (numT i).length ≤ 60 := by
  have e : LIM = 10 ^ 60 := rfl
  rw [← tl_len, numT_tl h0]
  exact numL_len (by decide) (by rw [e] at h; omega)
theorem rowT_len {z : Str} {s : Int × Int} (hz : nameB z = true) (h : 0 ≤ s.1 ∧ 0 ≤ s.2) (hl : s.1 < LIM ∧ s.2 < LIM) : (rowT z s).length ≤ 140 := by
  have h1 := ((nameB_iff z).mp hz).2.1
  have h2 := numT_len h.1 hl.1
  have h3 := numT_len h.2 hl.2
  show ((((z ++ (" +" : Str)) ++ numT s.1) ++ (" -" : Str)) ++ numT s.2).length ≤ 140
  rw [app_len, app_len, app_len, app_len]
  show z.length + 2 + _ + 2 + _ ≤ 140
  omega
theorem sum_le {m : Nat} : ∀ {xs : List Str}, (∀ x ∈ xs, x.length ≤ m) → (xs.map (·.length)).sum ≤ xs.length * m
  | [], _ => by simp
  | x :: r, h => by
    rw [List.map_cons, List.sum_cons, List.length_cons, Nat.succ_mul]
    have := sum_le (xs := r) fun y hy => h y (List.mem_cons_of_mem _ hy)
    have := h x List.mem_cons_self
    omega
end Gc
namespace Gc
open PySem L2 Evl TL
theorem str_ext {a b : Str} (h : a.cps.toList = b.cps.toList) : a = b := by
  cases a with
  | mk x => cases b with
    | mk y => exact congrArg Str.mk (Array.toList_inj.mp h)
theorem cut_tail (z : Str) (n : Nat) (h : n ≤ z.length) : (cutS z (some (n : Int)) none).cps.toList = z.cps.toList.drop n := by
  show List.take (HT.sIx z.length z.length none - HT.sIx z.length 0 (some (n : Int))) (List.drop (HT.sIx z.length 0 (some (n : Int))) z.cps.toList) = _
  rw [HT.sIx_none, HT.sIx_nat, Nat.min_eq_left h, List.take_of_length_le (by rw [List.length_drop, tl_len]; exact Nat.le_refl _)]
theorem word_tail {c : Nat} {x : Str} : cutS ((⟨#[c]⟩ : Str) ++ x) (some 1) none = x := str_ext (by
  rw [show (1 : Int) = ((1 : Nat) : Int) from rfl, cut_tail _ 1 (by rw [app_len]; show 1 ≤ 1 + _; omega), app_tl]
  rfl)
theorem word_head {c : Nat} {x : Str} : cutS ((⟨#[c]⟩ : Str) ++ x) none (some 1) = ⟨#[c]⟩ := str_ext (by
  rw [show (1 : Int) = ((1 : Nat) : Int) from rfl, cut_tl, app_tl]
  rfl)
theorem numT_pos {i : Int} (h0 : 0 ≤ i) : 1 ≤ (numT i).length := by
  rw [← tl_len, numT_tl h0]
  cases h : numL i.toNat with
  | nil => exact absurd h (numL_ne _)
  | cons a r => simp
theorem numT_digit {i : Int} (h0 : 0 ≤ i) {c : Nat} (h : c ∈ (numT i).cps.toList) : c ∈ ("0123456789" : Str).cps.toList := by
  rw [numT_tl h0] at h
  have q := numL_digits i.toNat c h
  have hl : ("0123456789" : Str).cps.toList = [48, 49, 50, 51, 52, 53, 54, 55, 56, 57] := by decide +kernel
  rw [hl]
  have : 48 ≤ c ∧ c ≤ 57 := q
  simp only [List.mem_cons, List.not_mem_nil, or_false]
  omega
theorem numT_int {i : Int} (h0 : 0 ≤ i) (h : i < LIM) : PySem.intText? (numT i) = some i := by
  have e : i = ((i.toNat : Nat) : Int) := by omega
  have hl := numT_len h0 h
  rw [← tl_len, numT_tl h0] at hl
  rw [e]
  have q := int_num (n := i.toNat) (by omega)
  exact q
end Gc
namespace Gc
open PySem L2 Evl TL
theorem name_free {z : Str} (h : nameB z = true) {c : Nat} (hc : c < 97) : ¬ c ∈ z.cps.toList := fun q => by
  have := ((nameB_iff z).mp h).2.2 c q
  have hl : LET.cps.toList.all (fun x => decide (97 ≤ x)) = true := by decide +kernel
  have := of_decide_eq_true (List.all_eq_true.mp hl c this)
  omega
theorem numT_free {i : Int} (h : 0 ≤ i) {c : Nat} (hc : c < 48) : ¬ c ∈ (numT i).cps.toList := fun q => by
  rw [numT_tl h] at q
  exact absurd q (numL_free (.inl hc))
theorem rowT_tl {z : Str} {s : Int × Int} : (rowT z s).cps.toList = z.cps.toList ++ ([32, 43] ++ ((numT s.1).cps.toList ++ ([32, 45] ++ (numT s.2).cps.toList))) := by
  show ((((z ++ (" +" : Str)) ++ numT s.1) ++ (" -" : Str)) ++ numT s.2).cps.toList = _
  rw [app_tl, app_tl, app_tl, app_tl]
  have e1 : (" +" : Str).cps.toList = [32, 43] := by decide +kernel
  have e2 : (" -" : Str).cps.toList = [32, 45] := by decide +kernel
  rw [e1, e2]
  simp only [List.append_assoc]
theorem row_free {z : Str} {s : Int × Int} (hz : nameB z = true) (h : 0 ≤ s.1 ∧ 0 ≤ s.2) : ¬ (44 : Nat) ∈ (rowT z s).cps.toList := by
  rw [rowT_tl]
  simp only [List.mem_append, List.mem_cons, List.not_mem_nil, or_false, not_or]
  exact ⟨name_free hz (by decide), ⟨by decide, by decide⟩, numT_free h.1 (by decide), ⟨by decide, by decide⟩, numT_free h.2 (by decide)⟩
theorem join_tl (y : Str) : ∀ ps : List Str, (Txt.join y ps).cps.toList = joinL y.cps.toList (ps.map fun p => p.cps.toList) := fun ps => by
  rw [join_eq]
  exact tl_join y ps
/-- a row is its words -/
theorem row_words {z : Str} {s : Int × Int} : rowT z s = Txt.join " " [z, (⟨#[43]⟩ : Str) ++ numT s.1, (⟨#[45]⟩ : Str) ++ numT s.2] := str_ext (by
  rw [rowT_tl, join_tl]
  show _ = z.cps.toList ++ ((" " : Str).cps.toList ++ (((⟨#[43]⟩ : Str) ++ numT s.1).cps.toList ++ ((" " : Str).cps.toList ++ ((⟨#[45]⟩ : Str) ++ numT s.2).cps.toList)))
  rw [app_tl, app_tl]
  have e1 : (" " : Str).cps.toList = [32] := by decide +kernel
  rw [e1]
  simp)
theorem split_row {z : Str} {s : Int × Int} (hz : nameB z = true) (h : 0 ≤ s.1 ∧ 0 ≤ s.2) : Txt.split (rowT z s) " " = [z, (⟨#[43]⟩ : Str) ++ numT s.1, (⟨#[45]⟩ : Str) ++ numT s.2] := by
  rw [row_words]
  refine split_join (y := " ") (s := 32) (S := []) (by decide +kernel) (by decide +kernel) (by simp) fun p hp => ?_
  simp only [List.mem_cons, List.not_mem_nil, or_false] at hp
  rcases hp with rfl | rfl | rfl
  · exact name_free hz (by decide)
  · show ¬ (32 : Nat) ∈ ((⟨#[43]⟩ : Str) ++ numT s.1).cps.toList
    rw [app_tl]
    intro q
    rcases List.mem_append.mp q with q | q
    · have : (32 : Nat) ∈ [43] := q
      simp at this
    · exact numT_free h.1 (by decide) q
  · show ¬ (32 : Nat) ∈ ((⟨#[45]⟩ : Str) ++ numT s.2).cps.toList
    rw [app_tl]
    intro q
    rcases List.mem_append.mp q with q | q
    · have : (32 : Nat) ∈ [45] := q
      simp at this
    · exact numT_free h.2 (by decide) q
theorem split_text {ys : List Str} {f : Sh} (h0 : ¬ ys = []) (hn : NmOk ys) (hf : NN f) : Txt.split (textT ys f) ", " = ys.map fun z => rowT z (f z) := by
  unfold textT
  rw [if_neg h0]
  refine split_join (y := ", ") (s := 44) (S := [32]) (by decide +kernel) (by decide +kernel) (fun e => h0 (List.map_eq_nil_iff.mp e)) fun p hp => ?_
  obtain ⟨z, hz, rfl⟩ := List.mem_map.mp hp
  exact row_free (hn z hz) (hf z)
theorem text_not {ys : List Str} {f : Sh} (h0 : ¬ ys = []) (hn : NmOk ys) (hf : NN f) : ¬ textT ys f = "nobody" := fun e => by
  have q := split_text h0 hn hf
  rw [e] at q
  have e2 : Txt.split "nobody" ", " = [("nobody" : Str)] := by decide +kernel
  rw [e2] at q
  cases ys with
  | nil => exact h0 rfl
  | cons z r =>
    have e3 : ("nobody" : Str) = rowT z (f z) := (List.cons.inj q).1
    have e4 := congrArg (fun x : Str => x.cps.toList) e3
    have h32 : (32 : Nat) ∈ (rowT z (f z)).cps.toList := by rw [rowT_tl]; simp
    have e5 : ("nobody" : Str).cps.toList = [110, 111, 98, 111, 100, 121] := by decide +kernel
    have e6 : [110, 111, 98, 111, 100, 121] = (rowT z (f z)).cps.toList := e5.symm.trans e4
    rw [← e6] at h32
    simp at h32
end Gc
namespace Gc
open PySem L2 Evl TL
theorem joinL_snoc (y : List Nat) : ∀ (xs : List (List Nat)) (x : List Nat), xs ≠ [] → joinL y (xs ++ [x]) = joinL y xs ++ (y ++ x)
  | [], _, h => absurd rfl h
  | [a], x, _ => by
    show a ++ (y ++ x) = a ++ (y ++ x)
    rfl
  | a :: b :: r, x, _ => by
    have ih := joinL_snoc y (b :: r) x (by simp)
    show a ++ (y ++ joinL y ((b :: r) ++ [x])) = (a ++ (y ++ joinL y (b :: r))) ++ (y ++ x)
    rw [ih]
    simp only [List.append_assoc]
/-- the first rows, as the law joins them -/
def partT (ys : List Str) (f : Sh) : Str := if ys = [] then "" else Txt.join ", " (ys.map fun z => rowT z (f z))
theorem partT_first {z : Str} {f : Sh} : partT [z] f = (((((("" : Str) ++ z) ++ (" +" : Str)) ++ numT (f z).1) ++ (" -" : Str)) ++ numT (f z).2) := str_ext (by
  unfold partT
  rw [if_neg (by simp), join_tl]
  show (rowT z (f z)).cps.toList = _
  rw [rowT_tl]
  rw [app_tl, app_tl, app_tl, app_tl, app_tl]
  have e1 : (" +" : Str).cps.toList = [32, 43] := by decide +kernel
  have e2 : (" -" : Str).cps.toList = [32, 45] := by decide +kernel
  have e3 : ("" : Str).cps.toList = [] := by decide +kernel
  rw [e1, e2, e3]
  simp only [List.append_assoc, List.nil_append])
theorem partT_more {ys : List Str} {z : Str} {f : Sh} (h : ¬ ys = []) : partT (ys ++ [z]) f = ((((((partT ys f ++ (", " : Str)) ++ z) ++ (" +" : Str)) ++ numT (f z).1) ++ (" -" : Str)) ++ numT (f z).2) := str_ext (by
  unfold partT
  rw [if_neg (by simp), if_neg h, join_tl, List.map_append, List.map_append]
  rw [show ([z].map fun z => rowT z (f z)).map (fun p : Str => p.cps.toList) = [(rowT z (f z)).cps.toList] from rfl, joinL_snoc _ _ _ (by simp [h]), rowT_tl]
  rw [app_tl, app_tl, app_tl, app_tl, app_tl, app_tl, join_tl]
  have e1 : (" +" : Str).cps.toList = [32, 43] := by decide +kernel
  have e2 : (" -" : Str).cps.toList = [32, 45] := by decide +kernel
  rw [e1, e2]
  simp only [List.append_assoc])
/-- the text of 201 names: their numbers, rising by name -/
def nmAt (k : Nat) : Str := (⟨#[97 + k % 26]⟩ ++ ⟨#[97 + k / 26]⟩ : Str)
def manyI : List Nat := (List.range 26).flatMap fun i => (List.range 8).filterMap fun j => if 26 * j + i < 201 then some (26 * j + i) else none
theorem manyI_perm : manyI.Perm (List.range 201) := List.isPerm_iff.mp (by decide +kernel)
def rowM (k : Nat) : Str := nmAt k ++ (" +1 -0" : Str)
def manyK : List Str := manyI.map nmAt
def manyF : Sh := fun z => if z ∈ manyK then (1, 0) else (0, 0)
theorem manyK_sorted : PyProof.Rows.sortedS manyK = true := by decide +kernel
theorem manyR_sorted : PyProof.Rows.sortedS (manyI.map rowM) = true := by decide +kernel
theorem manyK_nm : ∀ z ∈ manyK, nameB z = true := by decide +kernel
theorem nmAt_tl {k : Nat} : (nmAt k).cps.toList = [97 + k % 26, 97 + k / 26] := rfl
theorem nmAt_inj {i j : Nat} (h : nmAt i = nmAt j) : i = j := by
  have e := congrArg (fun z : Str => z.cps.toList) h
  simp only [nmAt_tl, List.cons.injEq, and_true] at e
  omega
theorem rowM_inj {i j : Nat} (h : rowM i = rowM j) : i = j := by
  have e := congrArg (fun z : Str => z.cps.toList) h
  unfold rowM at e
  simp only [app_tl, nmAt_tl, List.cons_append, List.nil_append, List.cons.injEq] at e
  omega
theorem manyI_nd : manyI.Nodup := manyI_perm.nodup_iff.mpr List.nodup_range
theorem manyK_nd : manyK.Nodup := List.Pairwise.map _ (fun a b n e => n (nmAt_inj e)) manyI_nd
theorem manyR_nd {l : List Nat} (h : l.Nodup) : (l.map rowM).Nodup := List.Pairwise.map _ (fun a b n e => n (rowM_inj e)) h
theorem many_row {z : Str} : rowT z (1, 0) = z ++ (" +1 -0" : Str) := str_ext (by
  rw [rowT_tl, app_tl]
  have e1 : (numT (1, (0 : Int)).1).cps.toList = [49] := by decide +kernel
  have e2 : (numT ((1 : Int), 0).2).cps.toList = [48] := by decide +kernel
  have e3 : (" +1 -0" : Str).cps.toList = [32, 43, 49, 32, 45, 48] := by decide +kernel
  rw [e1, e2, e3]
  simp only [List.cons_append, List.nil_append])
theorem many_text : Txt.join ", " (manyI.map rowM) = textT manyK manyF := by
  unfold textT
  rw [if_neg (by decide +kernel)]
  refine congrArg (Txt.join ", ") ?_
  unfold manyK
  rw [List.map_map]
  refine List.map_congr_left fun k hk => ?_
  have e : manyF (nmAt k) = (1, 0) := if_pos (List.mem_map.mpr ⟨k, hk, rfl⟩)
  show rowM k = rowT (nmAt k) (manyF (nmAt k))
  rw [e, many_row]
  rfl
theorem let_at : ∀ j, j < 26 → LET.cps.toList[j]? = some (97 + j) := by decide +kernel
theorem joinL_len (y : List Nat) {m : Nat} : ∀ xs : List (List Nat), (∀ x ∈ xs, x.length ≤ m) → (joinL y xs).length ≤ xs.length * (m + y.length)
  | [], _ => Nat.zero_le _
  | [a], h => by
    have := h a List.mem_cons_self
    show a.length ≤ 1 * (m + y.length)
    omega
  | a :: b :: r, h => by
    have ih := joinL_len y (b :: r) fun x hx => h x (List.mem_cons_of_mem _ hx)
    have := h a List.mem_cons_self
    show (a ++ (y ++ joinL y (b :: r))).length ≤ ((b :: r).length + 1) * (m + y.length)
    rw [List.length_append, List.length_append, Nat.succ_mul]
    omega
theorem joinS_len {m : Nat} {ps : List Str} (h : ∀ p ∈ ps, p.length ≤ m) : (Txt.join ", " ps).length ≤ ps.length * (m + 2) := by
  rw [← tl_len, join_tl]
  have e1 : (", " : Str).cps.toList = [44, 32] := by decide +kernel
  rw [e1]
  have q := joinL_len [44, 32] (m := m) (ps.map fun p => p.cps.toList) fun x hx => by
    obtain ⟨p, hp, rfl⟩ := List.mem_map.mp hx
    have := h p hp
    rw [← tl_len] at this
    exact this
  rw [List.length_map] at q
  exact q
theorem partT_len {ys : List Str} {f : Sh} (h : ∀ z ∈ ys, (rowT z (f z)).length ≤ 140) : (partT ys f).length ≤ ys.length * 142 := by
  unfold partT
  by_cases c : ys = []
  · rw [if_pos c]
    exact Nat.zero_le _
  · rw [if_neg c]
    have q := joinS_len (m := 140) (ps := ys.map fun z => rowT z (f z)) fun p hp => by
      obtain ⟨z, hz, rfl⟩ := List.mem_map.mp hp
      exact h z hz
    rw [List.length_map] at q
    exact q
theorem textT_len {ys : List Str} {f : Sh} (h : ∀ z ∈ ys, (rowT z (f z)).length ≤ 140) (h0 : ¬ ys = []) : (textT ys f).length ≤ ys.length * 142 := by
  have := partT_len h
  unfold partT at this
  unfold textT
  rw [if_neg h0] at this ⊢
  exact this
theorem partT_ne {ys : List Str} {f : Sh} (h : ¬ ys = []) : ¬ partT ys f = "" := fun e => by
  unfold partT at e
  rw [if_neg h] at e
  have q := congrArg (fun x : Str => x.cps.toList.length) e
  have e0 : ("" : Str).cps.toList.length = 0 := by decide +kernel
  simp only [join_tl, e0] at q
  cases ys with
  | nil => exact h rfl
  | cons z r =>
    cases r with
    | nil =>
      have : (rowT z (f z)).cps.toList.length = 0 := q
      rw [rowT_tl] at this
      simp at this
    | cons w r =>
      have : ((rowT z (f z)).cps.toList ++ (_ ++ _)).length = 0 := q
      rw [rowT_tl] at this
      simp at this
theorem manyK_ne : ¬ manyK = [] := by decide +kernel
theorem manyK_length : manyK.length = 201 := by decide +kernel
theorem manyK_np : NmP manyK manyF := ⟨manyK_nm, fun z hz => by unfold manyF; rw [if_pos hz]; exact .inl (by decide), fun z => by
  unfold manyF
  by_cases c : z ∈ manyK
  · rw [if_pos c]; exact ⟨by decide, by decide⟩
  · rw [if_neg c]; exact ⟨by decide, by decide⟩⟩
theorem manyF_nn : NN manyF := fun z => by
  unfold manyF
  by_cases c : z ∈ manyK
  · rw [if_pos c]; exact ⟨by decide, by decide⟩
  · rw [if_neg c]; exact ⟨by decide, by decide⟩
theorem manyF_out : ∀ z, ¬ z ∈ manyK → manyF z = (0, 0) := fun z hz => by unfold manyF; rw [if_neg hz]
theorem manyT_len : (textT manyK manyF).length + 2 ≤ sizeLine := Evl.sz_of (by
  have := textT_len (ys := manyK) (f := manyF) (fun z hz => rowT_len (manyK_nm z hz) (manyF_nn z) (manyK_np.lim z)) manyK_ne
  rw [manyK_length] at this
  omega)
end Gc

namespace Gc
open PySem L2 Evl TL
/-! ### any text, as read -/
theorem digit_back (c : Nat) (h : 48 ≤ c ∧ c ≤ 57) : (Char.ofNat c).toNat = c := by
  have q : ∀ d < 10, (Char.ofNat (48 + d)).toNat = 48 + d := by decide
  have := q (c - 48) (by omega)
  rwa [show 48 + (c - 48) = c by omega] at this
theorem numL_of {cs : List Nat} (h : NumText.AllDigits cs) (h0 : cs ≠ []) (h1 : cs.length = 1 ∨ ∃ c r, cs = c :: r ∧ 49 ≤ c) : numL (NumText.digitsVal cs) = cs := by
  have hl : 1 ≤ cs.length := by cases cs with | nil => exact absurd rfl h0 | cons a r => simp
  unfold numL
  rw [NumText.toDigits_digitsVal (cs.length - 1) cs (by omega) h (h1.imp (fun q => by omega) id), List.map_map]
  have : ∀ c ∈ cs, (Char.toNat ∘ Char.ofNat) c = c := fun c hc => digit_back c (h c hc)
  rw [List.map_congr_left this, List.map_id']
theorem val_lt (cs : List Nat) : NumText.AllDigits cs → NumText.digitsVal cs < 10 ^ cs.length := by
  induction cs using snoc_ind with
  | h0 => intro _; decide
  | h1 l a ih =>
    intro h
    have hc : 48 ≤ a ∧ a ≤ 57 := h a (List.mem_append_right _ (List.mem_singleton.mpr rfl))
    have := ih fun c hc => h c (List.mem_append_left _ hc)
    rw [NumText.digitsVal_snoc, List.length_append, List.length_singleton, Nat.pow_succ]
    omega
theorem fig_lt {cs : List Nat} (h : NumText.AllDigits cs) (hl : cs.length ≤ 60) : ((NumText.digitsVal cs : Nat) : Int) < LIM := by
  have e : LIM = ((10 ^ 60 : Nat) : Int) := rfl
  rw [e]
  exact Int.ofNat_lt.mpr (Nat.lt_of_lt_of_le (val_lt cs h) (Nat.pow_le_pow_right (by decide) hl))
abbrev sgW (c : Nat) (n : Int) : Str := (⟨#[c]⟩ : Str) ++ numT n
theorem sgW_tl {c : Nat} {n : Int} (h : 0 ≤ n) : (sgW c n).cps.toList = c :: numL n.toNat := by
  show ((⟨#[c]⟩ : Str) ++ numT n).cps.toList = _
  rw [app_tl, numT_tl h]
  rfl
theorem word_of {w : Str} {c : Nat} {r : List Nat} (h : w.cps.toList = c :: r) (hd : NumText.AllDigits r) (h0 : r ≠ []) (h1 : r.length = 1 ∨ ∃ d s, r = d :: s ∧ 49 ≤ d) : w = sgW c ((NumText.digitsVal r : Nat) : Int) := str_ext (by
  rw [h, sgW_tl (by omega), Int.toNat_natCast, numL_of hd h0 h1])
/-- a word begins with a sign -/
theorem head_split {w : Str} {c : Nat} (h : cutS w none (some 1) = ⟨#[c]⟩) : w.cps.toList = c :: (cutS w (some 1) none).cps.toList := by
  have e := congrArg (fun x : Str => x.cps.toList) h
  have e1 : (cutS w none (some ((1 : Nat) : Int))).cps.toList = [c] := e
  rw [cut_tl] at e1
  have hl : 1 ≤ w.length := by
    rw [← tl_len]
    cases q : w.cps.toList with
    | nil => rw [q] at e1; cases e1
    | cons a r => simp
  rw [show (some (1 : Int)) = some ((1 : Nat) : Int) from rfl, cut_tail _ 1 hl]
  have := List.take_append_drop 1 w.cps.toList
  rw [e1] at this
  exact this.symm
theorem head_not {w : Str} {c : Nat} {n : Int} (h : ¬ cutS w none (some 1) = ⟨#[c]⟩) : ¬ w = sgW c n := fun e => h (by rw [e]; exact word_head)
/-- what the law's own reading of a word tells -/
def NumR (w : Str) (c : Nat) (n : Int) : Prop := (n = -1 ∧ ∀ m, 0 ≤ m → m < LIM → ¬ w = sgW c m) ∨ (0 ≤ n ∧ n < LIM ∧ w = sgW c n)
theorem NumR.uniq {w : Str} {c : Nat} {n m : Int} (h : NumR w c n) (h0 : 0 ≤ m) (h1 : m < LIM) (e : w = sgW c m) : n = m := by
  rcases h with ⟨_, q⟩ | ⟨q0, _, q⟩
  · exact absurd e (q m h0 h1)
  · rw [e] at q
    have q2 := congrArg (fun x : Str => x.cps.toList) q
    simp only [sgW_tl h0, sgW_tl q0, List.cons.injEq, true_and] at q2
    have := numL_inj q2
    omega
theorem NumR.bad {w : Str} {c : Nat} (h : ∀ m, 0 ≤ m → m < LIM → ¬ w = sgW c m) : NumR w c (-1) := .inl ⟨rfl, h⟩
theorem sgW_len {c : Nat} {n : Int} (h : 0 ≤ n) (h1 : n < LIM) : 2 ≤ (sgW c n).length ∧ (sgW c n).length ≤ 61 := by
  have a := numT_len h h1
  have b := numT_pos h
  rw [app_len]
  exact ⟨by show 2 ≤ 1 + _; omega, by show 1 + _ ≤ 61; omega⟩
theorem dig_of {c : Nat} (h : c ∈ ("0123456789" : Str).cps.toList) : 48 ≤ c ∧ c ≤ 57 := by
  have hl : ("0123456789" : Str).cps.toList = [48, 49, 50, 51, 52, 53, 54, 55, 56, 57] := by decide +kernel
  rw [hl] at h
  simp only [List.mem_cons, List.not_mem_nil, or_false] at h
  omega
theorem dig_to {c : Nat} (h : 48 ≤ c ∧ c ≤ 57) : c ∈ ("0123456789" : Str).cps.toList := by
  have hl : ("0123456789" : Str).cps.toList = [48, 49, 50, 51, 52, 53, 54, 55, 56, 57] := by decide +kernel
  rw [hl]
  simp only [List.mem_cons, List.not_mem_nil, or_false]
  omega
theorem sgW_digits {w : Str} {c : Nat} {r : List Nat} {n : Int} (h : w.cps.toList = c :: r) (h0 : 0 ≤ n) (e : w = sgW c n) : NumText.AllDigits r ∧ r = numL n.toNat := by
  have q := congrArg (fun x : Str => x.cps.toList) e
  simp only [h, sgW_tl h0, List.cons.injEq, true_and] at q
  rw [q]
  exact ⟨numL_digits _, rfl⟩
/-- no noughts ahead -/
theorem numL_head {n : Nat} {r : List Nat} (h : numL n = 48 :: r) : r = [] := by
  by_cases c : n < 10
  · rw [numL_lt c] at h
    exact (List.cons.inj h).2.symm
  · exfalso
    have e : ∀ k, 10 ≤ k → ∃ d s, numL k = d :: s ∧ 49 ≤ d := by
      intro k
      induction k using Nat.strongRecOn with
      | _ k ih =>
        intro hk
        rw [numL_step hk]
        by_cases c2 : k / 10 < 10
        · rw [numL_lt c2]
          exact ⟨_, _, rfl, by omega⟩
        · obtain ⟨d, s, e, hd⟩ := ih (k / 10) (by omega) (by omega)
          rw [e]
          exact ⟨d, _, rfl, hd⟩
    obtain ⟨d, s, e1, hd⟩ := e n (by omega)
    rw [h] at e1
    have := (List.cons.inj e1).1
    omega
/-! ### texts that a page is written as -/
structure GoodT (x : Str) (ys : List Str) (f : Sh) : Prop where
  ne : ¬ ys = []
  srt : PyProof.Rows.sortedS ys = true
  nd : ys.Nodup
  nm : NmP ys f
  nn : NN f
  out : ∀ z, ¬ z ∈ ys → f z = (0, 0)
  len : ys.length ≤ 200
  eq : x = textT ys f
def NotT (x : Str) : Prop := ¬ x = "nobody" ∧ ∀ ys f, ¬ GoodT x ys f
theorem kind_text (x : Str) : x = "nobody" ∨ (∃ ys f, GoodT x ys f) ∨ NotT x := by
  by_cases c : x = "nobody"
  · exact .inl c
  by_cases q : ∃ ys f, GoodT x ys f
  · exact .inr (.inl q)
  · exact .inr (.inr ⟨c, fun ys f h => q ⟨ys, f, h⟩⟩)
theorem sp_join (x y : Str) : Txt.join y (Txt.split x y) = x := by
  rw [join_eq]
  exact StrLaws.join_split x y
theorem words3 {p a b c : Str} (h : Txt.split p " " = [a, b, c]) {m n : Int} (hb : b = sgW 43 m) (hc : c = sgW 45 n) : p = rowT a (m, n) := by
  have e := sp_join p " "
  rw [h, hb, hc] at e
  rw [row_words]
  exact e.symm
theorem row_ge {z : Str} {s : Int × Int} : 1 ≤ (rowT z s).length := by
  show 1 ≤ ((((z ++ (" +" : Str)) ++ numT s.1) ++ (" -" : Str)) ++ numT s.2).length
  rw [app_len, app_len, app_len, app_len]
  show 1 ≤ z.length + 2 + _ + 2 + _
  omega
theorem joinL_ge {y : List Nat} {m : Nat} : ∀ {xs : List (List Nat)}, (∀ x ∈ xs, m ≤ x.length) → xs.length * (m + y.length) ≤ (joinL y xs).length + y.length
  | [], _ => by simp [joinL]
  | [a], h => by
    have := h a List.mem_cons_self
    show 1 * (m + y.length) ≤ a.length + y.length
    omega
  | a :: b :: r, h => by
    have ih := joinL_ge (y := y) (m := m) (xs := b :: r) fun x hx => h x (List.mem_cons_of_mem _ hx)
    have := h a List.mem_cons_self
    show ((b :: r).length + 1) * (m + y.length) ≤ (a ++ (y ++ joinL y (b :: r))).length + y.length
    rw [List.length_append, List.length_append, Nat.succ_mul]
    omega
theorem joinL_mem {y : List Nat} : ∀ {xs : List (List Nat)} {x : List Nat}, x ∈ xs → x.length ≤ (joinL y xs).length
  | [], _, h => by cases h
  | [a], x, h => by
    rw [List.mem_singleton.mp h]
    exact Nat.le_refl _
  | a :: b :: r, x, h => by
    show x.length ≤ (a ++ (y ++ joinL y (b :: r))).length
    rw [List.length_append, List.length_append]
    rcases List.mem_cons.mp h with q | q
    · rw [q]; omega
    · have := joinL_mem (y := y) q
      omega
theorem part_len {x y p : Str} (h : p ∈ Txt.split x y) : p.length ≤ x.length := by
  have q := joinL_mem (y := y.cps.toList) (List.mem_map.mpr ⟨p, h, rfl⟩ : p.cps.toList ∈ (Txt.split x y).map fun p : Str => p.cps.toList)
  rw [← join_tl, sp_join, tl_len, tl_len] at q
  exact q
theorem parts_len {x : Str} (h : x.length ≤ 590) : (Txt.split x ", ").length ≤ 296 := by
  have q := joinL_ge (y := (", " : Str).cps.toList) (m := 0) (xs := (Txt.split x ", ").map fun p : Str => p.cps.toList) fun _ _ => Nat.zero_le _
  rw [← join_tl, sp_join, List.length_map] at q
  have e1 : (", " : Str).length = 2 := by decide +kernel
  rw [tl_len, tl_len, e1] at q
  omega
theorem text_rows {ys : List Str} {f : Sh} (h : ¬ ys = []) (hl : (textT ys f).length ≤ 590) : ys.length ≤ 200 := by
  have q := joinL_ge (y := [44, 32]) (m := 1) (xs := (ys.map fun z => rowT z (f z)).map fun p : Str => p.cps.toList) fun x hx => by
    obtain ⟨p, hp, rfl⟩ := List.mem_map.mp hx
    obtain ⟨z, _, rfl⟩ := List.mem_map.mp hp
    rw [tl_len]
    exact row_ge
  unfold textT at hl
  rw [if_neg h, ← tl_len, join_tl] at hl
  have e1 : (", " : Str).cps.toList = [44, 32] := by decide +kernel
  rw [e1] at hl
  rw [List.length_map, List.length_map] at q
  have e2 : [44, 32].length = 2 := rfl
  rw [e2] at q
  omega
/-! ### strictly rising -/
def StrictS (ys : List Str) : Prop := ys.Pairwise fun a b => ¬ leS b a
theorem leS_total {a b : Str} (h : ¬ leS a b) : leS b a := by
  rcases List.le_total a.cps.toList b.cps.toList with q | q
  · exact absurd q h
  · exact q
theorem leS_refl (a : Str) : leS a a := List.le_refl _
theorem ltF_of {a b : Str} (h : leS a b) : PySem.Spec.ltCps b.cps.toList a.cps.toList = false := by
  rw [PyProof.Rows.ltCps_eq, decide_eq_false_iff_not]
  exact List.not_lt.mpr h
theorem rising_of : ∀ (r : List Str) (x : Str), (x :: r).Pairwise leS → PyProof.Rows.risingS x r = true
  | [], _, _ => rfl
  | z :: r, x, h => by
    obtain ⟨h1, h2⟩ := List.pairwise_cons.mp h
    show (!PySem.Spec.ltCps z.cps.toList x.cps.toList && PyProof.Rows.risingS z r) = true
    rw [ltF_of (h1 z List.mem_cons_self), rising_of r z h2]
    rfl
theorem sorted_of {ys : List Str} (h : ys.Pairwise leS) : PyProof.Rows.sortedS ys = true := by
  cases ys with
  | nil => rfl
  | cons x r => exact rising_of r x h
theorem StrictS.sorted {ys : List Str} (h : StrictS ys) : PyProof.Rows.sortedS ys = true := sorted_of (List.Pairwise.imp (fun q => leS_total q) h)
theorem StrictS.nd {ys : List Str} (h : StrictS ys) : ys.Nodup := List.Pairwise.imp (fun q e => q (by rw [e]; exact leS_refl _)) h
theorem StrictS.of {ys : List Str} (h : PyProof.Rows.sortedS ys = true) (hn : ys.Nodup) : StrictS ys :=
  (List.Pairwise.and (sorted_pw h) hn).imp fun q e => q.2 (leS_anti q.1 e)
theorem StrictS.snoc {ys : List Str} {z l : Str} (h : StrictS ys) (hl : ∀ w ∈ ys, leS w l) (hz : ¬ leS z l) : StrictS (ys ++ [z]) :=
  List.pairwise_append.mpr ⟨h, List.pairwise_singleton _ _, fun a ha b hb e => by
    rw [List.mem_singleton.mp hb] at e
    exact hz (leS_trans e (hl a ha))⟩
theorem snoc_le {ys : List Str} {z l : Str} (hl : ∀ w ∈ ys, leS w l) (hz : ¬ leS z l) : ∀ w ∈ ys ++ [z], leS w z := fun w hw => by
  rcases List.mem_append.mp hw with q | q
  · exact leS_trans (hl w q) (leS_total hz)
  · rw [List.mem_singleton.mp q]; exact leS_refl _
theorem name_gt {z : Str} (h : nameB z = true) : ¬ leS z "" := fun e => by
  have h1 := ((nameB_iff z).mp h).1
  rw [← tl_len] at h1
  have e0 : ("" : Str).cps.toList = [] := by decide +kernel
  unfold leS at e
  rw [e0] at e
  cases q : z.cps.toList with
  | nil => rw [q] at h1; simp at h1
  | cons a r => rw [q] at e; exact absurd e (by simp)
theorem split_ne (x : Str) : ¬ Txt.split x ", " = [] := by
  have h : (Txt.split x ", ").length ≠ 0 := by
    unfold Txt.split
    split
    · simp
    · split
      · simp
      · rw [StrLaws.partsBetween_eq]
        obtain ⟨p, q, e⟩ := StrLaws.partsFrom_ne x (", " : Str).length 0 (Builtin.Str.occurrences x ", " 0 x.length (x.length + 1))
        rw [e]
        simp
  intro e
  rw [e] at h
  exact h rfl
/-- parts that are rows make a good text -/
theorem good_of {x : Str} {ys : List Str} {f : Sh} (hx : x.length ≤ 590) (hp : Txt.split x ", " = ys.map fun z => rowT z (f z)) (hs : StrictS ys) (hn : NmP ys f) (hf : NN f) (ho : ∀ z, ¬ z ∈ ys → f z = (0, 0)) : GoodT x ys f := by
  have h0 : ¬ ys = [] := fun e => split_ne x (by rw [hp, e]; rfl)
  have e : x = textT ys f := by
    have := sp_join x ", "
    rw [hp] at this
    unfold textT
    rw [if_neg h0]
    exact this.symm
  exact ⟨h0, hs.sorted, hs.nd, hn, hf, ho, text_rows h0 (by rw [← e]; exact hx), e⟩
theorem GoodT.parts {x : Str} {ys : List Str} {f : Sh} (h : GoodT x ys f) : Txt.split x ", " = ys.map fun z => rowT z (f z) := by
  rw [h.eq]
  exact split_text h.ne h.nm.nm h.nn
theorem GoodT.not {x : Str} {ys : List Str} {f : Sh} (h : GoodT x ys f) : ¬ x = "nobody" := by
  rw [h.eq]
  exact text_not h.ne h.nm.nm h.nn
/-- what is written is read as written -/
theorem NotT.text {x : Str} (h : NotT x) {ys : List Str} {f : Sh} (hs : PyProof.Rows.sortedS ys = true) (nd : ys.Nodup) (hn : NmP ys f) (hf : NN f) (ho : ∀ z, ¬ z ∈ ys → f z = (0, 0)) (hl : ys.length ≤ 200) : ¬ textT ys f = x := fun e => by
  by_cases c : ys = []
  · refine h.1 ?_
    rw [← e]
    unfold textT
    rw [if_pos c]
  · exact h.2 ys f ⟨c, hs, nd, hn, hf, ho, hl, e.symm⟩
theorem log_ok1 {i : Int} (h0 : 0 ≤ i) (h : i ≤ LIM) : i.natAbs.log2 < 1920 := by
  have e : LIM = 10 ^ 60 := rfl
  have h2 : i.natAbs < 2 ^ 1920 := by
    have : i.natAbs < 10 ^ 61 := by rw [e] at h; omega
    exact Nat.lt_of_lt_of_le this (by decide)
  by_cases c : i.natAbs = 0
  · rw [c]; decide
  · exact (Nat.log2_lt c).mpr h2
theorem numT_len1 {i : Int} (h0 : 0 ≤ i) (h : i ≤ LIM) : (numT i).length ≤ 61 := by
  have e : LIM = 10 ^ 60 := rfl
  rw [← tl_len, numT_tl h0]
  exact numL_len (by decide) (by rw [e] at h; omega)
def shF (f : Sh) : Key → Bool := fun k => match k with | .inr z => pairB (some (f z).1) (some (f z).2) | .inl _ => false
theorem PgK.pageG {K : PySem.W.Frag} {H : Hp} {kvs : List (Key × V)} {ks : List Str} {f : Sh} (h : PgK K H kvs ks f) (hz : ∀ z ∈ ks, z.length ≤ 100000) (hk : ks.length ≤ 1000) :
    PageJ K H kvs (decide (((kvs.length : Nat) : Int) ≤ 200) && kvs.all fun p => keyB p.1 && shF f p.1) := by
  have hk' : ∀ p ∈ kvs, ∃ z ∈ ks, p.1 = .inr z := fun p hp => by
    have q : p.1 ∈ kvs.map (·.1) := List.mem_map.mpr ⟨p, hp, rfl⟩
    rw [h.keys] at q
    obtain ⟨z, hz, e⟩ := List.mem_map.mp q
    exact ⟨z, hz, e.symm⟩
  have hlen := h.len
  refine ⟨fun p hp' => ?_, by omega, shF f, fun k v q => ?_, rfl⟩
  · obtain ⟨z, hzm, e⟩ := hk' p hp'
    rw [e]
    exact hz z hzm
  · have hm := valV_mem q
    obtain ⟨z, hz, e⟩ := hk' _ hm
    have e' : k = .inr z := e
    subst e'
    obtain ⟨t, ht, hs⟩ := h.at_ z v q
    subst ht
    exact .two hs (.int _) (.int _)
theorem PgK.pageT {K : PySem.W.Frag} {H : Hp} {kvs : List (Key × V)} {ks : List Str} {f : Sh} (h : PgK K H kvs ks f) (hl : ∀ z, (f z).1 < LIM ∧ (f z).2 < LIM) (hg : (decide (((kvs.length : Nat) : Int) ≤ 200) && kvs.all fun p => keyB p.1 && shF f p.1) = true) :
    NmP ks f ∧ ks.length ≤ 200 := by
  rw [Bool.and_eq_true, decide_eq_true_eq, List.all_eq_true] at hg
  obtain ⟨h1, h2⟩ := hg
  have hlen := h.len
  have hin : ∀ z ∈ ks, nameB z = true ∧ pairB (some (f z).1) (some (f z).2) = true := fun z hz => by
    obtain ⟨t, ht, _⟩ := h.there hz
    have := h2 _ (valV_mem ht)
    rw [Bool.and_eq_true] at this
    exact this
  refine ⟨⟨fun z hz => (hin z hz).1, fun z hz => ?_, hl⟩, by omega⟩
  have q := (hin z hz).2
  unfold pairB at q
  rw [Bool.and_eq_true, Bool.and_eq_true, decide_eq_true_eq] at q
  omega
theorem op_goE {t u : TS} {D : Ends} {σ : L2.St} {H : Hp} (h : ∀ (N : L2.St → Hp → Prop) (R : VK) (B E : L2.St → Hp → Prop), (∀ σ' H', u D σ' H' → N σ' H') → (∀ v H', D.rt v H' → R v H') → t ⟨N, R, B, E⟩ σ H) : Evl.tCut t u D σ H := ⟨u D, h _ D.rt D.bk D.ct (fun _ _ q => q) (fun _ _ q => q), fun _ _ q => q⟩
/-- a str times a truth -/
theorem op_mul_str {X : Cx} : OpR X (binaryOp .Mult) (fun x y H Q => ∃ i k, x = .str i ∧ y = .int k ∧ (k = 0 ∨ k = 1) ∧ Q (.str (if k = 0 then ("" : Str) else i)) H) := by
  intro pins s σ H x y v u Q I rx ry h
  obtain ⟨i, k, rfl, rfl, hk, q⟩ := h
  obtain ⟨t, rfl⟩ := rx
  obtain ⟨t', rfl⟩ := ry
  have e : Txt.mul i k = (if k = 0 then ("" : Str) else i) := by
    unfold Txt.mul
    rcases hk with rfl | rfl
    · rfl
    · rfl
  refine SB.mul ?_ fun t' tk => ⟨.str (if k = 0 then ("" : Str) else i), H, I.tok _, ⟨_, by rw [e]⟩, q⟩
  refine ⟨?_, fun h1 h2 => ?_, fun h1 h2 => ?_⟩
  · rcases hk with rfl | rfl <;> decide
  · rcases hk with rfl | rfl
    · exact absurd (by decide) h1
    · simp at h2
  · rcases hk with rfl | rfl
    · exact absurd (by decide) h1
    · simp at h2
theorem cutT_len (z : Str) (n : Nat) : (cutS z (some (n : Int)) none).length ≤ z.length := by
  rw [← tl_len]
  show (List.take (HT.sIx z.length z.length none - HT.sIx z.length 0 (some (n : Int))) (List.drop (HT.sIx z.length 0 (some (n : Int))) z.cps.toList)).length ≤ _
  rw [List.length_take, List.length_drop, tl_len]
  omega
theorem cut2_len (z : Str) {n m : Nat} (hn : n ≤ z.length) (hm : n ≤ m) : (cutS z none (some (n : Int))).length + (cutS z (some (m : Int)) none).length ≤ z.length := by
  have e2 : (cutS z (some (m : Int)) none).length ≤ z.length - m := by
    rw [← tl_len]
    show (List.take (HT.sIx z.length z.length none - HT.sIx z.length 0 (some (m : Int))) (List.drop (HT.sIx z.length 0 (some (m : Int))) z.cps.toList)).length ≤ _
    rw [HT.sIx_none, HT.sIx_nat, List.length_take, List.length_drop, tl_len]
    omega
  have e1 := cut_len z n
  omega
end Gc

namespace Gc
open PySem L2 Evl
def top (i : Nat) : Stmt := PySem.Challenge.pw_gossipcount_k10_read.main.body.getD i (.Pass ⟨0, 0, 0, 0⟩)
abbrev s_l_number_of : Stmt := top 33
abbrev s_l_named : Stmt := top 34
abbrev s_l_due : Stmt := top 35
abbrev s_l_sign_by : Stmt := top 30
abbrev s_l_bent : Stmt := top 32
abbrev s_number_of10 : Stmt := top 21
abbrev s_is_name : Stmt := top 11
abbrev s_is_whole : Stmt := top 10
abbrev s_is_share : Stmt := top 15
abbrev s_is_page : Stmt := top 16
abbrev s_written : Stmt := top 20
abbrev s_read10 : Stmt := top 22
abbrev s_l_whole : Stmt := top 25
abbrev s_l_share : Stmt := top 26
abbrev s_l_same : Stmt := top 28
abbrev s_l_cell_at : Stmt := top 24
abbrev s_l_name_by : Stmt := top 27
abbrev s_l_row_by : Stmt := top 31
abbrev s_l_kind : Stmt := top 29
abbrev s_law_k10 : Stmt := top 36
theorem sc_l_number_of : FnScope ["_law_word", "_law_sign", "_law_one"] ["_law_word", "_law_sign"] (defScope s_l_number_of) := ⟨rfl, rfl, rfl, by decide +kernel, rfl, by decide +kernel, by decide +kernel⟩
theorem sc_l_named : FnScope ["_law_word", "_law_one"] ["_law_word"] (defScope s_l_named) := ⟨rfl, rfl, rfl, by decide +kernel, rfl, by decide +kernel, by decide +kernel⟩
theorem sc_l_due : FnScope ["_law_text", "_law_page", "_law_last", "_law_part", "_law_words", "_law_share_here"] ["_law_text"] (defScope s_l_due) := ⟨rfl, rfl, rfl, by decide +kernel, rfl, by decide +kernel, by decide +kernel⟩
theorem sc_l_sign_by : FnScope ["_law_cell", "_law_some"] ["_law_cell"] (defScope s_l_sign_by) := ⟨rfl, rfl, rfl, by decide +kernel, rfl, by decide +kernel, by decide +kernel⟩
theorem sc_l_bent : FnScope ["_law_text", "_law_cell", "_law_size", "_law_at", "_law_sign", "_law_odd"] ["_law_text", "_law_cell"] (defScope s_l_bent) := ⟨rfl, rfl, rfl, by decide +kernel, rfl, by decide +kernel, by decide +kernel⟩
theorem sc_number_of10 : FnScope ["word", "sign", "figures", "one"] ["word", "sign"] (defScope s_number_of10) := ⟨rfl, rfl, rfl, by decide +kernel, rfl, by decide +kernel, by decide +kernel⟩
theorem sc_is_name : FnScope ["thing", "sign"] ["thing"] (defScope s_is_name) := ⟨rfl, rfl, rfl, by decide +kernel, rfl, by decide +kernel, by decide +kernel⟩
theorem sc_is_whole : FnScope ["thing"] ["thing"] (defScope s_is_whole) := ⟨rfl, rfl, rfl, by decide +kernel, rfl, by decide +kernel, by decide +kernel⟩
theorem sc_is_share : FnScope ["thing", "number"] ["thing"] (defScope s_is_share) := ⟨rfl, rfl, rfl, by decide +kernel, rfl, by decide +kernel, by decide +kernel⟩
theorem sc_is_page : FnScope ["thing", "name"] ["thing"] (defScope s_is_page) := ⟨rfl, rfl, rfl, by decide +kernel, rfl, by decide +kernel, by decide +kernel⟩
theorem sc_written : FnScope ["page", "parts", "name", "share"] ["page"] (defScope s_written) := ⟨rfl, rfl, rfl, by decide +kernel, rfl, by decide +kernel, by decide +kernel⟩
theorem sc_read10 : FnScope ["text", "page", "part", "words"] ["text"] (defScope s_read10) := ⟨rfl, rfl, rfl, by decide +kernel, rfl, by decide +kernel, by decide +kernel⟩
theorem sc_l_whole : FnScope ["_law_found"] ["_law_found"] (defScope s_l_whole) := ⟨rfl, rfl, rfl, by decide +kernel, rfl, by decide +kernel, by decide +kernel⟩
theorem sc_l_share : FnScope ["_law_found", "_law_due_here"] ["_law_found", "_law_due_here"] (defScope s_l_share) := ⟨rfl, rfl, rfl, by decide +kernel, rfl, by decide +kernel, by decide +kernel⟩
theorem sc_l_same : FnScope ["_law_found", "_law_due_here", "_law_name"] ["_law_found", "_law_due_here"] (defScope s_l_same) := ⟨rfl, rfl, rfl, by decide +kernel, rfl, by decide +kernel, by decide +kernel⟩
theorem sc_l_cell_at : FnScope ["_law_script", "_law_k"] ["_law_script", "_law_k"] (defScope s_l_cell_at) := ⟨rfl, rfl, rfl, by decide +kernel, rfl, by decide +kernel, by decide +kernel⟩
theorem sc_l_name_by : FnScope ["_law_cell", "_law_signs", "_law_step", "_law_word", "_law_k"] ["_law_cell"] (defScope s_l_name_by) := ⟨rfl, rfl, rfl, by decide +kernel, rfl, by decide +kernel, by decide +kernel⟩
theorem sc_l_row_by : FnScope ["_law_name", "_law_numbers", "_law_figures", "_law_k", "_law_cell", "_law_number", "_law_word"] ["_law_name", "_law_numbers"] (defScope s_l_row_by) := ⟨rfl, rfl, rfl, by decide +kernel, rfl, by decide +kernel, by decide +kernel⟩
theorem sc_l_kind : FnScope ["_law_error", "_law_words"] ["_law_error"] (defScope s_l_kind) := ⟨rfl, rfl, rfl, by decide +kernel, rfl, by decide +kernel, by decide +kernel⟩
theorem sc_law_k10 : FnScope ["_law_script", "_law_rows", "_law_k", "_law_text", "_law_due_here", "_law_found", "_law_error"] ["_law_script"] (defScope s_law_k10) := ⟨rfl, rfl, rfl, by decide +kernel, rfl, by decide +kernel, by decide +kernel⟩
structure Tx (K : PySem.W.Frag) (mg : Str → Option Value) where
  f_l_number_of : Addr
  fd_l_number_of : FuncData
  f_l_named : Addr
  fd_l_named : FuncData
  f_l_due : Addr
  fd_l_due : FuncData
  f_l_sign_by : Addr
  fd_l_sign_by : FuncData
  f_l_bent : Addr
  fd_l_bent : FuncData
  f_number_of10 : Addr
  fd_number_of10 : FuncData
  f_is_name : Addr
  fd_is_name : FuncData
  f_is_whole : Addr
  fd_is_whole : FuncData
  f_is_share : Addr
  fd_is_share : FuncData
  f_is_page : Addr
  fd_is_page : FuncData
  f_written : Addr
  fd_written : FuncData
  f_read10 : Addr
  fd_read10 : FuncData
  f_l_whole : Addr
  fd_l_whole : FuncData
  f_l_share : Addr
  fd_l_share : FuncData
  f_l_same : Addr
  fd_l_same : FuncData
  f_l_cell_at : Addr
  fd_l_cell_at : FuncData
  f_l_name_by : Addr
  fd_l_name_by : FuncData
  f_l_row_by : Addr
  fd_l_row_by : FuncData
  f_l_kind : Addr
  fd_l_kind : FuncData
  f_law_k10 : Addr
  fd_law_k10 : FuncData
  k_Forged : Addr
  k_GossipError : Addr
  k_NoAmount : Addr
  k_NoName : Addr
  k_NoNote : Addr
  k_NoPage : Addr
  F_l_number_of : Fun K "_law_number_of" "_law_number_of" s_l_number_of f_l_number_of fd_l_number_of
  b_l_number_of : Binds K fd_l_number_of ["_law_word", "_law_sign"] []
  m_l_number_of : mg "_law_number_of" = some (.ref f_l_number_of)
  F_l_named : Fun K "_law_named" "_law_named" s_l_named f_l_named fd_l_named
  b_l_named : Binds K fd_l_named ["_law_word"] []
  m_l_named : mg "_law_named" = some (.ref f_l_named)
  F_l_due : Fun K "_law_due" "_law_due" s_l_due f_l_due fd_l_due
  b_l_due : Binds K fd_l_due ["_law_text"] []
  m_l_due : mg "_law_due" = some (.ref f_l_due)
  F_l_sign_by : Fun K "_law_sign_by" "_law_sign_by" s_l_sign_by f_l_sign_by fd_l_sign_by
  b_l_sign_by : Binds K fd_l_sign_by ["_law_cell"] []
  m_l_sign_by : mg "_law_sign_by" = some (.ref f_l_sign_by)
  F_l_bent : Fun K "_law_bent" "_law_bent" s_l_bent f_l_bent fd_l_bent
  b_l_bent : Binds K fd_l_bent ["_law_text", "_law_cell"] []
  m_l_bent : mg "_law_bent" = some (.ref f_l_bent)
  F_number_of10 : Fun K "number_of" "number_of" s_number_of10 f_number_of10 fd_number_of10
  b_number_of10 : Binds K fd_number_of10 ["word", "sign"] []
  m_number_of10 : mg "number_of" = some (.ref f_number_of10)
  F_is_name : Fun K "is_name" "is_name" s_is_name f_is_name fd_is_name
  b_is_name : Binds K fd_is_name ["thing"] []
  m_is_name : mg "is_name" = some (.ref f_is_name)
  F_is_whole : Fun K "is_whole" "is_whole" s_is_whole f_is_whole fd_is_whole
  b_is_whole : Binds K fd_is_whole ["thing"] []
  m_is_whole : mg "is_whole" = some (.ref f_is_whole)
  F_is_share : Fun K "is_share" "is_share" s_is_share f_is_share fd_is_share
  b_is_share : Binds K fd_is_share ["thing"] []
  m_is_share : mg "is_share" = some (.ref f_is_share)
  F_is_page : Fun K "is_page" "is_page" s_is_page f_is_page fd_is_page
  b_is_page : Binds K fd_is_page ["thing"] []
  m_is_page : mg "is_page" = some (.ref f_is_page)
  F_written : Fun K "written" "written" s_written f_written fd_written
  b_written : Binds K fd_written ["page"] []
  m_written : mg "written" = some (.ref f_written)
  F_read10 : Fun K "read" "read" s_read10 f_read10 fd_read10
  b_read10 : Binds K fd_read10 ["text"] []
  m_read10 : mg "read" = some (.ref f_read10)
  F_l_whole : Fun K "_law_whole" "_law_whole" s_l_whole f_l_whole fd_l_whole
  b_l_whole : Binds K fd_l_whole ["_law_found"] []
  m_l_whole : mg "_law_whole" = some (.ref f_l_whole)
  F_l_share : Fun K "_law_share" "_law_share" s_l_share f_l_share fd_l_share
  b_l_share : Binds K fd_l_share ["_law_found", "_law_due_here"] []
  m_l_share : mg "_law_share" = some (.ref f_l_share)
  F_l_same : Fun K "_law_same" "_law_same" s_l_same f_l_same fd_l_same
  b_l_same : Binds K fd_l_same ["_law_found", "_law_due_here"] []
  m_l_same : mg "_law_same" = some (.ref f_l_same)
  F_l_cell_at : Fun K "_law_cell_at" "_law_cell_at" s_l_cell_at f_l_cell_at fd_l_cell_at
  b_l_cell_at : Binds K fd_l_cell_at ["_law_script", "_law_k"] []
  m_l_cell_at : mg "_law_cell_at" = some (.ref f_l_cell_at)
  F_l_name_by : Fun K "_law_name_by" "_law_name_by" s_l_name_by f_l_name_by fd_l_name_by
  b_l_name_by : Binds K fd_l_name_by ["_law_cell"] []
  m_l_name_by : mg "_law_name_by" = some (.ref f_l_name_by)
  F_l_row_by : Fun K "_law_row_by" "_law_row_by" s_l_row_by f_l_row_by fd_l_row_by
  b_l_row_by : Binds K fd_l_row_by ["_law_name", "_law_numbers"] []
  m_l_row_by : mg "_law_row_by" = some (.ref f_l_row_by)
  F_l_kind : Fun K "_law_kind" "_law_kind" s_l_kind f_l_kind fd_l_kind
  b_l_kind : Binds K fd_l_kind ["_law_error"] []
  m_l_kind : mg "_law_kind" = some (.ref f_l_kind)
  F_law_k10 : Fun K "law" "law" s_law_k10 f_law_k10 fd_law_k10
  b_law_k10 : Binds K fd_law_k10 ["_law_script"] []
  m_law_k10 : mg "law" = some (.ref f_law_k10)
  g_Forged : mg "Forged" = some (.ref k_Forged)
  g_GossipError : mg "GossipError" = some (.ref k_GossipError)
  be_GossipError : PySem.W.subIn K (.ref k_GossipError) (.type "BaseException") = some true
  ty_GossipError : PySem.W.typeIn K (.ref k_GossipError) = some (.type "type")
  hd_GossipError : PySem.W.hasDictIn K k_GossipError = true
  g_NoAmount : mg "NoAmount" = some (.ref k_NoAmount)
  g_NoName : mg "NoName" = some (.ref k_NoName)
  g_NoNote : mg "NoNote" = some (.ref k_NoNote)
  x_NoNote : PySem.W.excIn K k_NoNote [.type "ValueError", .type "Exception", .type "BaseException", .type "object"] "ValueError.__new__" = true
  kp_NoNote : PySem.W.keepIn K (.ref k_NoNote) = true
  be_NoNote : PySem.W.subIn K (.ref k_NoNote) (.type "BaseException") = some true
  ty_NoNote : PySem.W.typeIn K (.ref k_NoNote) = some (.type "type")
  hd_NoNote : PySem.W.hasDictIn K k_NoNote = true
  sg_NoNote : PySem.W.subIn K (.ref k_NoNote) (.ref k_GossipError) = some true
  ga_NoNote : PySem.W.findIn K (.ref k_NoNote) "__getattribute__" = some (some (.builtin "BaseException.__getattribute__"))
  gk_NoNote : PySem.W.findIn K (.ref k_NoNote) "__getattr__" = some none
  gc_NoNote : PySem.W.findIn K (.ref k_NoNote) "__class__" = some (some (.builtin "object.__class__"))
  gn_NoNote : PySem.W.specialIn K (.builtin "object.__class__") "__get__" = some (some (.builtin "getset_descriptor.__get__"))
  gt_NoNote : PySem.W.takesIn K (.builtin "object.__class__") = some true
  gm_NoNote : PySem.W.mroIn K k_NoNote (.type "object") = some true
  ki_NoNote_NoName : PySem.W.kitOne K (.ref k_NoNote) (.ref k_NoName) = some false
  ki_NoNote_NoAmount : PySem.W.kitOne K (.ref k_NoNote) (.ref k_NoAmount) = some false
  ki_NoNote_NoPage : PySem.W.kitOne K (.ref k_NoNote) (.ref k_NoPage) = some false
  ki_NoNote_Forged : PySem.W.kitOne K (.ref k_NoNote) (.ref k_Forged) = some false
  ki_NoNote_NoNote : PySem.W.kitOne K (.ref k_NoNote) (.ref k_NoNote) = some true
  kv_NoNote : PySem.W.kitOne K (.ref k_NoNote) (.type "ValueError") = some true
  ec_NoNote : ExcC K k_NoNote
  em_NoNote : PySem.W.exmOne K (.ref k_NoNote) (.ref k_GossipError) = some true
  g_NoPage : mg "NoPage" = some (.ref k_NoPage)
  t_FIGURES : Tok
  c_FIGURES : mg "FIGURES" = some (.str "0123456789" t_FIGURES)
  t_LETTERS : Tok
  c_LETTERS : mg "LETTERS" = some (.str "abcdefghijklmnopqrstuvwxyz" t_LETTERS)
  t_LIMIT : Tok
  c_LIMIT : mg "LIMIT" = some (.int 1000000000000000000000000000000000000000000000000000000000000 t_LIMIT)
  t_LONGEST : Tok
  c_LONGEST : mg "LONGEST" = some (.int 8 t_LONGEST)
  t_MOST_FIGURES : Tok
  c_MOST_FIGURES : mg "MOST_FIGURES" = some (.int 60 t_MOST_FIGURES)
  t_MOST_NAMES : Tok
  c_MOST_NAMES : mg "MOST_NAMES" = some (.int 200 t_MOST_NAMES)
  n_ValueError : mg "ValueError" = none
  n_all : mg "all" = none
  n_bool : mg "bool" = none
  n_dict : mg "dict" = none
  n_int : mg "int" = none
  n_isinstance : mg "isinstance" = none
  n_len : mg "len" = none
  n_list : mg "list" = none
  n_range : mg "range" = none
  n_sorted : mg "sorted" = none
  n_str : mg "str" = none
  n_tuple : mg "tuple" = none
section
variable {P : Program} {w : World} {K : PySem.W.Frag} {mg : Str → Option Value} {base : Heap}
/-- the law's number_of(word, sign) -/
def sp_l_number_of : Sp := fun vs H Q _ => ∃ (w : Str) (c : Nat), vs = [.str w, .str ⟨#[c]⟩] ∧ w.length ≤ 100000 ∧ ∀ n, NumR w c n → Q (.int n) H
theorem ok_l_number_of (T : Tx K mg) : FnOk P w K mg base CX0 1 T.f_l_number_of T.fd_l_number_of ["_law_word", "_law_sign"] (sp_l_number_of) := by
  refine T.F_l_number_of.ok sc_l_number_of (fun vs H Q E h => ?_) (fun cdv A outer s H vs Q E hr h => ?_)
  · first | (obtain ⟨rfl, _⟩ := h; rfl) | (obtain ⟨_, rfl, _⟩ := h; rfl) | (obtain ⟨_, _, rfl, _⟩ := h; rfl) | (obtain ⟨_, _, _, rfl, _⟩ := h; rfl) | (obtain ⟨_, _, _, _, rfl, _⟩ := h; rfl) | (obtain ⟨_, _, _, _, _, rfl, _⟩ := h; rfl) | (obtain ⟨_, _, _, _, _, _, rfl, _⟩ := h; rfl) | (obtain ⟨_, _, _, _, _, _, _, rfl, _⟩ := h; rfl) | (obtain ⟨_, _, _, _, _, _, _, _, rfl, _⟩ := h; rfl)
  · obtain ⟨w, c, rfl, hwl, k⟩ := h
    refine ⟨_, (pss_cut (ps_if (PW.pt (pw_or (pt_cmpR op_ne (pe_slice sl_str (pv 0) po_none (po_some pe_int)) (pv 1) (nomark _)) (pw_or1 (pt_not (pt_chain op_le op_le pe_int (pe_callB call_len_str (by rfl) T.n_len PySem.boot_len (pa_cons (pv 0) pa_nil)) pe_int))))) (pss_one (ps_ret (pe_un un_neg pe_int))) pss_nil) (pss_cut (ps_for PassesOwn.never rfl (pi_str (pe_slice sl_str (pv 0) (po_some pe_int) po_none)) (pg_name (i := 2) sc_l_number_of.nd rfl (Or.inl rfl)) (pss_one (ps_if (pt_cmpR op_notIn_sign (pv 2) pe_str (by with_unfolding_all rfl)) (pss_one (ps_ret (pe_un un_neg pe_int))) pss_nil))) (pss_cut (ps_if (PW.pt (pw_and (pt_cmpR op_eq (pe_ix ix_str (pv 0) pe_int (fun _ _ => rfl)) pe_str (nomark _)) (pw_and1 (pt_cmpR op_gt (pe_callB call_len_str (by rfl) T.n_len PySem.boot_len (pa_cons (pv 0) pa_nil)) pe_int (nomark _))))) (pss_one (ps_ret (pe_un un_neg pe_int))) pss_nil) (pss_one (ps_ret (pe_callTy call_int_str (by rfl) T.n_int PyProof.Rows.boot_int (pa_cons (pe_slice sl_str (pv 0) (po_some pe_int) po_none) pa_nil))))))), ?_⟩
    have g1 : w.length ≤ sizeLine := Evl.sz_of hwl
    have g2 : (cutS w (some 1) none).length ≤ sizeLine := Evl.sz_of (Nat.le_trans (cutT_len w 1) hwl)
    have nr : ¬ (2 ≤ w.length ∧ w.length ≤ 61) → ∀ m, 0 ≤ m → m < LIM → ¬ w = sgW c m := fun hn m h0 h1 e => by
      have q := sgW_len (c := c) h0 h1
      rw [← e] at q
      omega
    refine Gc.op_go fun N9 R9 B9 E9 hN9 hR9 => ?_
    walk_at "gc"
    by_cases c1 : cutS w none (some 1) = ⟨#[c]⟩
    · have hw := head_split c1
      refine Gc.iteN_f (decide_eq_true (congrArg V.str c1)) ?_
      walk_at "gc"
      refine Gc.le_2 (fun c2 => ?_) (fun c2 => ?_)
      · walk_at "gc"
        refine Gc.leN_2 (fun c3 => ?_) (fun c3 => ?_)
        · walk_at "gc"
          exact hR9 _ _ (k _ (NumR.bad (nr (by omega))))
        · refine hN9 _ _ ?_
          clear hN9 hR9
          have hfl : (cutS w (some 1) none).cps.toList.length + 1 = w.length := by rw [← tl_len w, hw, List.length_cons]
          refine Gc.op_go fun N9 R9 B9 E9 hN9 hR9 => ?_
          walk_at "gc"
          refine for_it (walk_str (z := cutS w (some 1) none)) (fun i σ' H9 => Hold (∃ v, σ' = [some (.str w), some (.str ⟨#[c]⟩), v] ∧ H9 = H ∧ ∀ j d, j < i → (cutS w (some 1) none).cps.toList[j]? = some d → 48 ≤ d ∧ d ≤ 57)) ⟨⟨_, rfl, rfl, fun j d q => absurd q (Nat.not_lt_zero _)⟩⟩ (fun _ _ _ _ _ => trivial) (fun i x σ' H5 H6 hi hp' hy => ?_) (fun σ' H5 hp' => ?_)
          · obtain ⟨⟨v, rfl, rfl, hd⟩⟩ := hp'
            obtain ⟨rfl, c', hc', rfl⟩ := hy
            rw [← Array.getElem?_toList] at hc'
            walk_at "gc"
            by_cases c4 : c' ∈ ("0123456789" : Str).cps.toList
            · refine Gc.iteN_f (decide_eq_true c4) ?_
              refine ⟨⟨_, rfl, rfl, fun j d hj hjd => ?_⟩⟩
              by_cases c5 : j = i
              · rw [c5, hc'] at hjd
                cases hjd
                exact dig_of c4
              · exact hd j d (by omega) hjd
            · refine Gc.iteN_t (decide_eq_false c4) ?_
              walk_at "gc"
              exact hR9 _ _ (k _ (NumR.bad fun m h0 h1 e => c4 (dig_to ((sgW_digits hw h0 e).1 c' (List.mem_of_getElem? hc')))))
          obtain ⟨⟨v, rfl, rfl, hd⟩⟩ := hp'
          refine hN9 _ _ ?_
          clear hN9 hR9
          have hall : NumText.AllDigits (cutS w (some 1) none).cps.toList := fun d hdm => by
            obtain ⟨j, hj⟩ := List.mem_iff_getElem?.mp hdm
            exact hd j d (by have := (List.getElem?_eq_some_iff.mp hj).1; rw [tl_len] at this; exact this) hj
          have hne : (cutS w (some 1) none).cps.toList ≠ [] := fun e => by rw [e] at hfl; simp at hfl; omega
          have hint := PySem.intText_digits hall hne (by rw [← tl_len]; omega)
          have h640 : (cutS w (some 1) none).length ≤ 640 := by rw [← tl_len]; omega
          obtain ⟨d0, r, hdr⟩ : ∃ d0 r, (cutS w (some 1) none).cps.toList = d0 :: r := by
            cases q : (cutS w (some 1) none).cps.toList with
            | nil => exact absurd q hne
            | cons d0 r => exact ⟨d0, r, rfl⟩
          have hix : atI w.cps.toList 1 = some d0 := atI_nat (j := 1) (by rw [hw, hdr]; rfl)
          have hrl : r.length + 2 = w.length := by rw [← hfl, hdr, List.length_cons]
          have hd0 := hall d0 (by rw [hdr]; exact List.mem_cons_self)
          refine Gc.op_go fun N9 R9 B9 E9 hN9 hR9 => ?_
          walk_at "gc"
          by_cases c4 : d0 = 48
          · refine Gc.ite_pos (decide_eq_true (by rw [c4]; rfl)) ?_
            walk_at "gc"
            refine Gc.lt_2 (fun c5 => ?_) (fun c5 => ?_)
            · walk_at "gc"
              refine hR9 _ _ (k _ (NumR.bad fun m h0 h1 e => ?_))
              have q := (sgW_digits hw h0 e).2
              rw [hdr, c4] at q
              have := numL_head q.symm
              rw [this] at hrl
              simp at hrl
              omega
            · refine hN9 _ _ ?_
              clear hN9 hR9
              refine Gc.end_go fun N9 R9 B9 E9 hN9 hR9 => ?_
              walk_at "gc"
              exact hR9 _ _ (k _ (.inr ⟨by omega, fig_lt hall (by omega), word_of hw hall hne (.inl (by omega))⟩))
          · refine Gc.ite_neg (decide_eq_false fun e => c4 (by have := congrArg (fun x : Str => x.cps.toList) (V.str.inj e); have e0 : ("0" : Str).cps.toList = [48] := by decide +kernel
                                                               rw [e0] at this; exact (List.cons.inj this).1)) ?_
            refine hN9 _ _ ?_
            clear hN9 hR9
            refine Gc.end_go fun N9 R9 B9 E9 hN9 hR9 => ?_
            walk_at "gc"
            exact hR9 _ _ (k _ (.inr ⟨by omega, fig_lt hall (by omega), word_of hw hall hne (.inr ⟨d0, r, hdr, by omega⟩)⟩))
      · walk_at "gc"
        exact hR9 _ _ (k _ (NumR.bad (nr (by omega))))
    · refine Gc.iteN_t (decide_eq_false fun e => c1 (V.str.inj e)) ?_
      walk_at "gc"
      exact hR9 _ _ (k _ (NumR.bad fun m h0 h1 => head_not c1))
/-- named(word) -/
def sp_named : Sp := fun vs H Q _ => ∃ w : Str, vs = [.str w] ∧ w.length ≤ 100000 ∧ Q (.bl (nameB w)) H
theorem ok_l_named (T : Tx K mg) : FnOk P w K mg base CX0 1 T.f_l_named T.fd_l_named ["_law_word"] (sp_named) := by
  refine T.F_l_named.ok sc_l_named (fun vs H Q E h => ?_) (fun cdv A outer s H vs Q E hr h => ?_)
  · first | (obtain ⟨rfl, _⟩ := h; rfl) | (obtain ⟨_, rfl, _⟩ := h; rfl) | (obtain ⟨_, _, rfl, _⟩ := h; rfl) | (obtain ⟨_, _, _, rfl, _⟩ := h; rfl) | (obtain ⟨_, _, _, _, rfl, _⟩ := h; rfl) | (obtain ⟨_, _, _, _, _, rfl, _⟩ := h; rfl) | (obtain ⟨_, _, _, _, _, _, rfl, _⟩ := h; rfl) | (obtain ⟨_, _, _, _, _, _, _, rfl, _⟩ := h; rfl) | (obtain ⟨_, _, _, _, _, _, _, _, rfl, _⟩ := h; rfl)
  · obtain ⟨w, rfl, hwl, k⟩ := h
    refine ⟨_, (pss_cons (ps_for PassesOwn.never rfl (pi_str (pv 0)) (pg_name (i := 1) sc_l_named.nd rfl (Or.inl rfl)) (pss_one (ps_if (pt_cmpR op_notIn_sign (pv 1) pe_str (by with_unfolding_all rfl)) (pss_one (ps_ret pe_bl)) pss_nil))) (pss_one (ps_ret (pe_chain op_le op_le pe_int (pe_callB call_len_str (by rfl) T.n_len PySem.boot_len (pa_cons (pv 0) pa_nil)) pe_int)))), ?_⟩
    have g1 : w.length ≤ sizeLine := Evl.sz_of hwl
    walk_at "gc"
    refine for_it (walk_str (z := w)) (fun i σ' H9 => Hold (∃ v, σ' = [some (.str w), v] ∧ H9 = H ∧ ∀ j d, j < i → w.cps.toList[j]? = some d → d ∈ LET.cps.toList)) ⟨⟨_, rfl, rfl, fun j d q => absurd q (Nat.not_lt_zero _)⟩⟩ (fun _ _ _ _ _ => trivial) (fun i x σ' H5 H6 hi hp' hy => ?_) (fun σ' H5 hp' => ?_)
    · obtain ⟨⟨v, rfl, rfl, hd⟩⟩ := hp'
      obtain ⟨rfl, c', hc', rfl⟩ := hy
      rw [← Array.getElem?_toList] at hc'
      walk_at "gc"
      by_cases c2 : c' ∈ LET.cps.toList
      · refine Gc.iteN_f (decide_eq_true c2) ?_
        refine ⟨⟨_, rfl, rfl, fun j d hj hjd => ?_⟩⟩
        by_cases c3 : j = i
        · rw [c3, hc'] at hjd
          cases hjd
          exact c2
        · exact hd j d (by omega) hjd
      · refine Gc.iteN_t (decide_eq_false c2) ?_
        have e : nameB w = false := by
          cases q : nameB w with
          | false => rfl
          | true => exact absurd (((nameB_iff w).mp q).2.2 c' (List.mem_of_getElem? hc')) c2
        rw [e] at k
        walk_at "gc"
        exact k
    obtain ⟨⟨v, rfl, rfl, hd⟩⟩ := hp'
    have hall : ∀ d ∈ w.cps.toList, d ∈ LET.cps.toList := fun d hdm => by
      obtain ⟨j, hj⟩ := List.mem_iff_getElem?.mp hdm
      exact hd j d (by have := (List.getElem?_eq_some_iff.mp hj).1; rw [tl_len] at this; exact this) hj
    walk_at "gc"
    refine Gc.le_2 (fun c2 => ?_) (fun c2 => ?_)
    · walk_at "gc"
      have e : decide (((w.length : Nat) : Int) ≤ 8) = nameB w := by
        by_cases c3 : w.length ≤ 8
        · rw [decide_eq_true (by omega), (nameB_iff w).mpr ⟨by omega, c3, hall⟩]
        · rw [decide_eq_false (by omega)]
          cases q : nameB w with
          | false => rfl
          | true => exact absurd ((nameB_iff w).mp q).2.1 c3
      rw [← e] at k
      exact k
    · have e : nameB w = false := by
        cases q : nameB w with
        | false => rfl
        | true => exact absurd ((nameB_iff w).mp q).1 (by omega)
      rw [e] at k
      walk_at "gc"
      exact k
/-- due(text) -/
def sp_due (K : PySem.W.Frag) : Sp := fun vs H Q _ => ∃ x : Str, vs = [.str x] ∧ x.length ≤ 590 ∧ ((x = "nobody" ∧ ∀ p H', H p = none → Ex H H' → H' p = some (.dK []) → Q (.ref p) H') ∨
  (∃ ys f, GoodT x ys f ∧ ∀ p kvs H', H p = none → Ex H H' → H' p = some (.dK kvs) → PgK K H' kvs ys f → Q (.ref p) H') ∨ (NotT x ∧ ∀ H', Ex H H' → Q .non H'))
theorem ok_l_due (T : Tx K mg) : FnOk P w K mg base CX0 2 T.f_l_due T.fd_l_due ["_law_text"] (sp_due K) := by
  refine T.F_l_due.ok sc_l_due (fun vs H Q E h => ?_) (fun cdv A outer s H vs Q E hr h => ?_)
  · first | (obtain ⟨rfl, _⟩ := h; rfl) | (obtain ⟨_, rfl, _⟩ := h; rfl) | (obtain ⟨_, _, rfl, _⟩ := h; rfl) | (obtain ⟨_, _, _, rfl, _⟩ := h; rfl) | (obtain ⟨_, _, _, _, rfl, _⟩ := h; rfl) | (obtain ⟨_, _, _, _, _, rfl, _⟩ := h; rfl) | (obtain ⟨_, _, _, _, _, _, rfl, _⟩ := h; rfl) | (obtain ⟨_, _, _, _, _, _, _, rfl, _⟩ := h; rfl) | (obtain ⟨_, _, _, _, _, _, _, _, rfl, _⟩ := h; rfl)
  · obtain ⟨x, rfl, hxl, kk⟩ := h
    refine ⟨_, (pss_cut (ps_set (i := 1) sc_l_due.nd rfl (Or.inl rfl) pe_dnewK) (pss_cut (ps_set (i := 2) sc_l_due.nd rfl (Or.inl rfl) pe_str) (pss_cut (ps_if (pt_cmpR op_eq (pv 0) pe_str (nomark _)) (pss_one (ps_ret (pv 1))) pss_nil) (pss_cut (ps_for PassesOwn.never rfl (pi_list (pe_split (pv 0) pe_str)) (pg_name (i := 3) sc_l_due.nd rfl (Or.inl rfl)) (pss_cut (ps_set (i := 4) sc_l_due.nd rfl (Or.inl rfl) (pe_split (pv 3) pe_str)) (pss_cut (ps_if (PW.pt (pw_or (pt_cmpR op_ne (pe_callB call_len_seq (by rfl) T.n_len PySem.boot_len (pa_cons (pv 4) pa_nil)) pe_int (nomark _)) (pw_or (pt_not (pt_val (pe_call (ok_l_named T) (hr.mono (by decide)) rfl T.m_l_named T.F_l_named.kp T.b_l_named .nil pass0 (pa_cons (pe_ix ix_list (pv 4) pe_int (fun _ _ => rfl)) pa_nil)))) (pw_or1 (pt_cmpR op_le_str (pe_ix ix_list (pv 4) pe_int (fun _ _ => rfl)) (pv 2) (nomark _)))))) (pss_one (ps_ret pe_non)) pss_nil) (pss_cut (ps_set (i := 5) sc_l_due.nd rfl (Or.inl rfl) (pe_tup (pa_cons (pe_call (ok_l_number_of T) (hr.mono (by decide)) rfl T.m_l_number_of T.F_l_number_of.kp T.b_l_number_of .nil pass0 (pa_cons (pe_ix ix_list (pv 4) pe_int (fun _ _ => rfl)) (pa_cons pe_str pa_nil))) (pa_cons (pe_call (ok_l_number_of T) (hr.mono (by decide)) rfl T.m_l_number_of T.F_l_number_of.kp T.b_l_number_of .nil pass0 (pa_cons (pe_ix ix_list (pv 4) pe_int (fun _ _ => rfl)) (pa_cons pe_str pa_nil))) pa_nil)))) (pss_cut (ps_if (PW.pt (pw_or (pt_cmpR op_lt (pe_ix ix_tup (pv 5) pe_int (fun _ _ => rfl)) pe_int (nomark _)) (pw_or (pt_cmpR op_lt (pe_ix ix_tup (pv 5) pe_int (fun _ _ => rfl)) pe_int (nomark _)) (pw_or1 (pt_cmpR (op_eqD hr.units) (pv 5) (pe_tup (pa_cons pe_int (pa_cons pe_int pa_nil))) (nomark _)))))) (pss_one (ps_ret pe_non)) pss_nil) (pss_cut (ps_set (i := 2) sc_l_due.nd rfl (Or.inl rfl) (pe_ix ix_list (pv 4) pe_int (fun _ _ => rfl))) (pss_one (ps_dput (hu_of hr) (pv 1) (pv 2) (pv 5) rfl)))))))) (pss_one (ps_ret (pv 1))))))), ?_⟩
    have g1 : x.length + 2 ≤ sizeLine := Evl.sz_of (by omega)
    refine Gc.op_go fun N9 R9 B9 E9 hN9 hR9 => ?_
    walk_at "gc"
    rename_i p hp0 H1 e1 f1
    refine hN9 _ _ ?_
    clear hN9 hR9
    refine Gc.op_go fun N9 R9 B9 E9 hN9 hR9 => ?_
    walk_at "gc"
    refine hN9 _ _ ?_
    clear hN9 hR9
    rcases kk with ⟨rfl, k0⟩ | ⟨ys, f, hg, k1⟩ | ⟨hn, k2⟩
    · refine Gc.op_go fun N9 R9 B9 E9 hN9 hR9 => ?_
      walk_at "gc"
      exact hR9 _ _ (k0 p H1 hp0 e1 f1)
    · obtain rfl := hg.eq
      refine Gc.op_go fun N9 R9 B9 E9 hN9 hR9 => ?_
      walk_at "gc"
      refine Gc.ite_neg (decide_eq_false fun e => hg.not (V.str.inj e)) ?_
      refine hN9 _ _ ?_
      clear hN9 hR9
      have hsp := hg.parts
      have hnm := hg.nm
      have hnn := hg.nn
      have hnd := hg.nd
      have hstr := StrictS.of hg.srt hg.nd
      have hl200 := hg.len
      refine Gc.op_go fun N9 R9 B9 E9 hN9 hR9 => ?_
      walk_at "gc"
      rename_i S hS H2 e2 f2
      rw [hsp] at f2
      have f12 := e2 _ _ f1
      have e02 := e1.trans e2
      have hSp : p ≠ S := fun q => by rw [← q, f1] at hS; cases hS
      clear f1 e1 e2 hsp
      refine Gc.for_go (walk_list (K := K) (xs := (ys.map fun z => rowT z (f z)).map V.str)) (fun i σ' H9 => Hold (∃ l v3 v4 v5 kv, σ' = [some (.str (textT ys f)), some (.ref p), some (.str l), v3, v4, v5] ∧ H9 p = some (.dK kv) ∧ PgK K H9 kv (ys.take i) (capF (ys.take i) f) ∧ (∀ z ∈ ys.drop i, ¬ leS z l) ∧ H9 S = some (.lst ((ys.map fun z => rowT z (f z)).map V.str)) ∧ Ex H H9)) ⟨⟨_, _, _, _, [], rfl, f12, by rw [List.take_zero, capF_nil]; exact PgK.nil, fun z hz => name_gt (hnm.nm z hz), f2, e02⟩⟩ (fun _ _ _ _ hp => by obtain ⟨⟨_, _, _, _, _, _, _, _, _, e, _⟩⟩ := hp; exact Evl.sq_of e) (fun R9 B9 i x9 σ' H5 H6 hi hp' hy => ?_) (fun σ' H5 hp' => ?_)
      · obtain ⟨⟨l, v3, v4, v5, kv, rfl, hpp, hpk, hll, hSS, he⟩⟩ := hp'
        obtain ⟨rfl, hxi⟩ := hy
        obtain ⟨z, hz, rfl⟩ : ∃ z, ys[i]? = some z ∧ x9 = .str (rowT z (f z)) := by
          rw [List.getElem?_map, List.getElem?_map] at hxi
          cases q : ys[i]? with
          | none => rw [q] at hxi; cases hxi
          | some z => rw [q] at hxi; cases hxi; exact ⟨z, rfl, rfl⟩
        have hzm : z ∈ ys := List.mem_of_getElem? hz
        have hiy : i < ys.length := (List.getElem?_eq_some_iff.mp hz).1
        have hzi : ys[i] = z := (List.getElem?_eq_some_iff.mp hz).2
        have hzl : ¬ leS z l := hll z (by rw [List.drop_eq_getElem_cons hiy, hzi]; exact List.mem_cons_self)
        have hnx : ∀ w ∈ ys.drop (i + 1), ¬ leS w z := by
          have := List.Pairwise.drop (i := i) hstr
          rw [List.drop_eq_getElem_cons hiy, hzi] at this
          exact (List.pairwise_cons.mp this).1
        have hn := hnm.nm z hzm
        have hzpos := hnm.pos z hzm
        have g1 : (rowT z (f z)).length + 2 ≤ sizeLine := Evl.sz_of (by have := rowT_len hn (hnn z) (hnm.lim z); omega)
        have hn1 := (hnn z).1
        have hn2 := (hnn z).2
        have hl1 := (hnm.lim z).1
        have hl2 := (hnm.lim z).2
        have w0 : z.length ≤ 100000 := name_len hn
        have w1 : (sgW 43 (f z).1).length ≤ 100000 := Nat.le_trans (sgW_len hn1 hl1).2 (by decide)
        have w2 : (sgW 45 (f z).2).length ≤ 100000 := Nat.le_trans (sgW_len hn2 hl2).2 (by decide)
        walk_at "gc"
        refine Gc.op_go fun N9 R9 B9 E9 hN9 hR9 => ?_
        walk_at "gc"
        rename_i W hW H7 e7 f7
        rw [split_row hn (hnn z)] at f7
        refine hN9 _ _ ?_
        clear hN9 hR9
        have a0 : atI ([z, sgW 43 (f z).1, sgW 45 (f z).2].map V.str) 0 = some (.str z) := atI_nat (j := 0) rfl
        have a1 : atI ([z, sgW 43 (f z).1, sgW 45 (f z).2].map V.str) 1 = some (.str (sgW 43 (f z).1)) := atI_nat (j := 1) rfl
        have a2 : atI ([z, sgW 43 (f z).1, sgW 45 (f z).2].map V.str) 2 = some (.str (sgW 45 (f z).2)) := atI_nat (j := 2) rfl
        refine Gc.op_go fun N9 R9 B9 E9 hN9 hR9 => ?_
        walk_at "gc"
        refine Gc.iteN_f hn ?_
        walk_at "gc"
        refine Gc.iteN_f (decide_eq_true (List.not_le.mp hzl)) ?_
        refine hN9 _ _ ?_
        clear hN9 hR9
        refine Gc.op_go fun N9 R9 B9 E9 hN9 hR9 => ?_
        walk_at "gc"
        rename_i n hr1 n' hr2 u hu H8 e8 f8
        obtain rfl := NumR.uniq hr1 hn1 hl1 rfl
        obtain rfl := NumR.uniq hr2 hn2 hl2 rfl
        have hu8 : ShAt K H8 u (f z).1 (f z).2 := Evl.st_of f8
        clear hr1 hr2 f8
        refine hN9 _ _ ?_
        clear hN9 hR9
        refine Gc.op_go fun N9 R9 B9 E9 hN9 hR9 => ?_
        walk_at "gc"
        refine Gc.lt_f (by omega) ?_
        walk_at "gc"
        refine Gc.lt_f (by omega) ?_
        walk_at "gc"
        rename_i v hv H10 e10 f10
        have hu10 := Er.sqT (Er.of e10) hu8
        have hv10 : ShAt K H10 v 0 0 := Evl.st_of f10
        refine Gc.sheq_go (a := (f z).1) (b := (f z).2) (c := 0) (d := 0) hu10 hv10 ?_
        have hpb : (decide ((f z).1 = 0) && decide ((f z).2 = 0)) = false := by
          rcases hzpos with q | q
          · rw [decide_eq_false (by omega), Bool.false_and]
          · rw [decide_eq_false (p := (f z).2 = 0) (by omega), Bool.and_false]
        rw [hpb]
        walk_at "gc"
        refine hN9 _ _ ?_
        clear hN9 hR9
        refine Gc.op_go fun N9 R9 B9 E9 hN9 hR9 => ?_
        walk_at "gc"
        refine hN9 _ _ ?_
        clear hN9 hR9
        have hW10 := e10 _ _ (e8 _ _ f7)
        have hpp10 := e10 _ _ (e8 _ _ (e7 _ _ hpp))
        walk_at "gc"
        refine And.intro (DPut.k (k := .inr z) hpp10 (Evl.sz_lt (by have := hpk.len; rw [List.length_take] at this; omega))) ?_
        have q := ((hpk.et (Et.of ((e7.trans e8).trans e10))).put (z := z) hu10).et (Et.dK (ys := putK kv (.inr z) (.ref u)) hpp10)
        rw [addK_take hnd hz, show ((f z).1, (f z).2) = f z from rfl, capF_take hz] at q
        exact ⟨⟨_, _, _, _, _, rfl, upd_same, q, hnx, (upd_ne (Ne.symm hSp)).trans (e10 _ _ (e8 _ _ (e7 _ _ hSS))), Ex.mut (he.trans ((e7.trans e8).trans e10)) hp0⟩⟩
      obtain ⟨⟨l, v3, v4, v5, kv, rfl, hpp, hpk, hll, hSS, he⟩⟩ := hp'
      rw [List.length_map, List.length_map, List.take_length, capF_all hg.out] at hpk
      refine hN9 _ _ ?_
      clear hN9 hR9
      refine Gc.end_go fun N9 R9 B9 E9 hN9 hR9 => ?_
      walk_at "gc"
      exact hR9 _ _ (k1 p kv H5 hp0 he hpp hpk)
    · refine Gc.op_go fun N9 R9 B9 E9 hN9 hR9 => ?_
      walk_at "gc"
      refine Gc.ite_neg (decide_eq_false fun e => hn.1 (V.str.inj e)) ?_
      refine hN9 _ _ ?_
      clear hN9 hR9
      refine Gc.op_go fun N9 R9 B9 E9 hN9 hR9 => ?_
      walk_at "gc"
      rename_i S hS H2 e2 f2
      have f12 := e2 _ _ f1
      have e02 := e1.trans e2
      have hSp : p ≠ S := fun q => by rw [← q, f1] at hS; cases hS
      have hpl := parts_len hxl
      have hpm : ∀ w ∈ Txt.split x ", ", w.length ≤ x.length := fun w hw => part_len hw
      have hgo := fun (ks : List Str) (f : Sh) => good_of (x := x) (ys := ks) (f := f) hxl
      have hRo := hR9
      clear f1 e1 e2
      generalize Txt.split x ", " = ps at *
      refine for_it (walk_list (K := K) (xs := ps.map V.str)) (fun i σ' H9 => Hold (∃ l v3 v4 v5 kv ks f, σ' = [some (.str x), some (.ref p), some (.str l), v3, v4, v5] ∧ H9 p = some (.dK kv) ∧ PgK K H9 kv ks f ∧ NN f ∧ NmP ks f ∧ ps.take i = ks.map (fun z => rowT z (f z)) ∧ StrictS ks ∧ (∀ w ∈ ks, leS w l) ∧ H9 S = some (.lst (ps.map V.str)) ∧ Ex H H9)) ⟨⟨_, _, _, _, [], [], _, rfl, f12, PgK.nil, NN.zero, NmP.nil, rfl, List.Pairwise.nil, fun _ q => (by cases q), f2, e02⟩⟩ (fun _ _ _ _ hp => by obtain ⟨⟨_, _, _, _, _, _, _, _, _, _, _, _, _, _, _, e, _⟩⟩ := hp; exact Evl.sq_of e) (fun i x9 σ' H5 H6 hi hp' hy => ?_) (fun σ' H5 hp' => ?_)
      · obtain ⟨⟨l, v3, v4, v5, kv, ks, f, rfl, hpp, hpk, hnn, hnm, hpt, hst, hlw, hSS, he⟩⟩ := hp'
        obtain ⟨rfl, hxi⟩ := hy
        obtain ⟨w, hw, rfl⟩ : ∃ z, ps[i]? = some z ∧ x9 = .str z := by
          rw [List.getElem?_map] at hxi
          cases q : ps[i]? with
          | none => rw [q] at hxi; cases hxi
          | some z => rw [q] at hxi; cases hxi; exact ⟨z, rfl, rfl⟩
        have hiy : i < ps.length := (List.getElem?_eq_some_iff.mp hw).1
        have hwl := hpm w (List.mem_of_getElem? hw)
        have g1 : w.length + 2 ≤ sizeLine := Evl.sz_of (by omega)
        have hkl : ks.length = i := by
          have := congrArg List.length hpt
          rw [List.length_take, List.length_map] at this
          omega
        have hsz : kv.length ≤ 400 := by have := hpk.len; omega
        clear hkl
        walk_at "gc"
        refine Gc.op_go fun N9 R9 B9 E9 hN9 hR9 => ?_
        walk_at "gc"
        rename_i W hW H7 e7 f7
        have hwm : ∀ u ∈ Txt.split w " ", u.length ≤ 600 := fun u hu => by have := part_len hu; omega
        generalize hws : Txt.split w " " = ws at *
        refine hN9 _ _ ?_
        clear hN9 hR9
        refine Gc.op_go fun N9 R9 B9 E9 hN9 hR9 => ?_
        walk_at "gc"
        by_cases c3 : ws.length = 3
        · obtain ⟨wa, wb, wc, rfl⟩ : ∃ wa wb wc, ws = [wa, wb, wc] := by
            match ws, c3 with
            | [wa, wb, wc], _ => exact ⟨wa, wb, wc, rfl⟩
          have a0 : atI ([wa, wb, wc].map V.str) 0 = some (.str wa) := atI_nat (j := 0) rfl
          have a1 : atI ([wa, wb, wc].map V.str) 1 = some (.str wb) := atI_nat (j := 1) rfl
          have a2 : atI ([wa, wb, wc].map V.str) 2 = some (.str wc) := atI_nat (j := 2) rfl
          have la : wa.length ≤ 100000 := Nat.le_trans (hwm wa (by simp)) (by decide)
          have lb : wb.length ≤ 100000 := Nat.le_trans (hwm wb (by simp)) (by decide)
          have lc : wc.length ≤ 100000 := Nat.le_trans (hwm wc (by simp)) (by decide)
          refine Gc.neI_f rfl ?_
          walk_at "gc"
          cases c4 : nameB wa with
          | false =>
            refine Gc.iteN_t rfl ?_
            walk_at "gc"
            exact hR9 _ _ (hRo _ _ (k2 _ (by walk_at "gc_ex")))
          | true =>
            refine Gc.iteN_f rfl ?_
            walk_at "gc"
            by_cases c5 : leS wa l
            · refine Gc.iteN_t (decide_eq_false (List.not_lt.mpr c5)) ?_
              walk_at "gc"
              exact hR9 _ _ (hRo _ _ (k2 _ (by walk_at "gc_ex")))
            · refine Gc.iteN_f (decide_eq_true (List.not_le.mp c5)) ?_
              refine hN9 _ _ ?_
              clear hN9 hR9
              refine Gc.op_go fun N9 R9 B9 E9 hN9 hR9 => ?_
              walk_at "gc"
              rename_i n hr1 n' hr2 u hu H8 e8 f8
              have hr1 : NumR wb 43 n := hr1
              have hr2 : NumR wc 45 n' := hr2
              have hu8 : ShAt K H8 u n n' := Evl.st_of f8
              clear f8
              refine hN9 _ _ ?_
              clear hN9 hR9
              refine Gc.op_go fun N9 R9 B9 E9 hN9 hR9 => ?_
              walk_at "gc"
              refine Gc.lt_2 (fun c6 => ?_) (fun c6 => ?_)
              · walk_at "gc"
                exact hR9 _ _ (hRo _ _ (k2 _ (by walk_at "gc_ex")))
              walk_at "gc"
              refine Gc.lt_2 (fun c7 => ?_) (fun c7 => ?_)
              · walk_at "gc"
                exact hR9 _ _ (hRo _ _ (k2 _ (by walk_at "gc_ex")))
              walk_at "gc"
              rename_i v hv H10 e10 f10
              have hu10 := Er.sqT (Er.of e10) hu8
              have hv10 : ShAt K H10 v 0 0 := Evl.st_of f10
              refine Gc.sheq_go (a := n) (b := n') (c := 0) (d := 0) hu10 hv10 ?_
              rcases hr1 with ⟨q, _⟩ | ⟨p0, p1, hb⟩
              · omega
              rcases hr2 with ⟨q, _⟩ | ⟨q0, q1, hc⟩
              · omega
              cases hpb : (decide (n = 0) && decide (n' = 0)) with
              | true =>
                walk_at "gc"
                exact hR9 _ _ (hRo _ _ (k2 _ (by walk_at "gc_ex")))
              | false =>
                walk_at "gc"
                refine hN9 _ _ ?_
                clear hN9 hR9
                refine Gc.op_go fun N9 R9 B9 E9 hN9 hR9 => ?_
                walk_at "gc"
                refine hN9 _ _ ?_
                clear hN9 hR9
                have hpp10 := e10 _ _ (e8 _ _ (e7 _ _ hpp))
                have hW10 := e10 _ _ (e8 _ _ f7)
                walk_at "gc"
                refine And.intro (DPut.k (k := .inr wa) hpp10 (Evl.sz_lt (by omega))) ?_
                have q := ((hpk.et (Et.of ((e7.trans e8).trans e10))).put (z := wa) hu10).et (Et.dK (ys := putK kv (.inr wa) (.ref u)) hpp10)
                have hnw : ¬ wa ∈ ks := fun e => c5 (hlw wa e)
                have hadd : addK ks wa = ks ++ [wa] := if_neg hnw
                have hpos : 0 < n ∨ 0 < n' := by
                  by_cases z1 : n = 0
                  · by_cases z2 : n' = 0
                    · rw [decide_eq_true z1, decide_eq_true z2] at hpb; cases hpb
                    · right; omega
                  · left; omega
                refine ⟨⟨_, _, _, _, _, _, _, rfl, upd_same, q, hnn.set p0 q0, hnm.add c4 hpos ⟨p1, q1⟩, ?_, ?_, ?_, (upd_ne (Ne.symm hSp)).trans (e10 _ _ (e8 _ _ (e7 _ _ hSS))), Ex.mut (he.trans ((e7.trans e8).trans e10)) hp0⟩⟩
                · rw [take_snoc hw, hpt, hadd, List.map_append]
                  have m1 : ks.map (fun z => rowT z (f z)) = ks.map (fun z => rowT z (setF f wa (n, n') z)) := List.map_congr_left fun z hz => by
                    have h : ¬ z = wa := fun e => hnw (by rw [← e]; exact hz)
                    rw [setF_ne h]
                  have m2 : [w] = [wa].map (fun z => rowT z (setF f wa (n, n') z)) := by
                    show [w] = [rowT wa (setF f wa (n, n') wa)]
                    rw [setF_same, words3 hws hb hc]
                  rw [m1, m2]
                · rw [hadd]; exact hst.snoc hlw c5
                · rw [hadd]; exact snoc_le hlw c5
        · refine Gc.neI_t (fun e => c3 (by rw [List.length_map] at e; omega)) ?_
          walk_at "gc"
          exact hR9 _ _ (hRo _ _ (k2 _ (by walk_at "gc_ex")))
      obtain ⟨⟨l, v3, v4, v5, kv, ks, f, rfl, hpp, hpk, hnn, hnm, hpt, hst, hlw, hSS, he⟩⟩ := hp'
      rw [List.length_map, List.take_length] at hpt
      exact absurd (hgo ks f hpt hst hnm hnn hpk.out) (hn.2 ks f)
/-- a sign -/
def sp_sign_by : Sp := fun vs H Q _ => ∃ n : Int, vs = [.int n] ∧ ∀ c, Q (.str ⟨#[c]⟩) H
theorem ok_l_sign_by (T : Tx K mg) : FnOk P w K mg base CX0 1 T.f_l_sign_by T.fd_l_sign_by ["_law_cell"] (sp_sign_by) := by
  refine T.F_l_sign_by.ok sc_l_sign_by (fun vs H Q E h => ?_) (fun cdv A outer s H vs Q E hr h => ?_)
  · first | (obtain ⟨rfl, _⟩ := h; rfl) | (obtain ⟨_, rfl, _⟩ := h; rfl) | (obtain ⟨_, _, rfl, _⟩ := h; rfl) | (obtain ⟨_, _, _, rfl, _⟩ := h; rfl) | (obtain ⟨_, _, _, _, rfl, _⟩ := h; rfl) | (obtain ⟨_, _, _, _, _, rfl, _⟩ := h; rfl) | (obtain ⟨_, _, _, _, _, _, rfl, _⟩ := h; rfl) | (obtain ⟨_, _, _, _, _, _, _, rfl, _⟩ := h; rfl) | (obtain ⟨_, _, _, _, _, _, _, _, rfl, _⟩ := h; rfl)
  · obtain ⟨n, rfl, k⟩ := h
    refine ⟨_, (pss_cut (ps_set (i := 1) sc_l_sign_by.nd rfl (Or.inl rfl) pe_str) (pss_cut (ps_set (i := 1) sc_l_sign_by.nd rfl (Or.inl rfl) (pe_op op_add_str (pv 1) pe_str)) (pss_cut (ps_set (i := 1) sc_l_sign_by.nd rfl (Or.inl rfl) (pe_op op_add_str (pv 1) pe_str)) (pss_one (ps_ret (pe_ix ix_str (pv 1) (pe_op op_mod (pv 0) (pe_callB call_len_str (by rfl) T.n_len PySem.boot_len (pa_cons (pv 1) pa_nil))) (fun _ _ => rfl))))))), ?_⟩
    refine Gc.cut_go (fun σ' H' => Hold (∃ S : Str, σ' = [some (.int n), some (.str S)] ∧ H' = H ∧ Hold (1 ≤ S.length) ∧ S.length ≤ 100)) (fun R9 B9 E9 => ?_) (fun σ' H' hm => ?_)
    · walk_at "gc"
      exact ⟨⟨_, rfl, rfl, ⟨Nat.le_of_ble_eq_true (by decide +kernel)⟩, Nat.le_of_ble_eq_true (by decide +kernel)⟩⟩
    obtain ⟨⟨S, rfl, rfl, hS1, hS2⟩⟩ := hm
    refine Gc.cut_go (fun σ' H9 => Hold (∃ S : Str, σ' = [some (.int n), some (.str S)] ∧ H9 = H' ∧ Hold (1 ≤ S.length) ∧ S.length ≤ 200)) (fun R9 B9 E9 => ?_) (fun σ' H9 hm => ?_)
    · have g : S.length + ("abcdefghijklmnopqrstuvwxyz{|}~
    	" : Str).length ≤ sizeLine := Evl.sz_of (by show _ + 32 ≤ 100000; omega)
      walk_at "gc"
      have := hS1.it
      exact ⟨⟨_, rfl, rfl, ⟨by rw [app_len]; omega⟩, by rw [app_len]; show _ + 32 ≤ 200; omega⟩⟩
    obtain ⟨⟨S2, rfl, rfl, hS3, hS4⟩⟩ := hm
    clear hS1 hS2
    refine Gc.cut_go (fun σ' H' => Hold (∃ S : Str, σ' = [some (.int n), some (.str S)] ∧ H' = H9 ∧ Hold (1 ≤ S.length) ∧ S.length ≤ 300)) (fun R9 B9 E9 => ?_) (fun σ' H' hm => ?_)
    · have g : S2.length + (" +-,,  001			" : Str).length ≤ sizeLine := Evl.sz_of (by show _ + 13 ≤ 100000; omega)
      walk_at "gc"
      have := hS3.it
      exact ⟨⟨_, rfl, rfl, ⟨by rw [app_len]; omega⟩, by rw [app_len]; show _ + 13 ≤ 300; omega⟩⟩
    obtain ⟨⟨S3, rfl, rfl, hS5, hS6⟩⟩ := hm
    clear hS3 hS4
    have g1 : S3.length ≤ sizeLine := Evl.sz_of (by omega)
    have hS7 := hS5.it
    have hm0 := mod_in (a := n) (b := ((S3.length : Nat) : Int)) (by omega)
    have hpos : (0 : Int) < ((S3.length : Nat) : Int) := by omega
    obtain ⟨c, hc⟩ : ∃ c, atI S3.cps.toList (n % ((S3.length : Nat) : Int)) = some c := by
      obtain ⟨q, hq⟩ : ∃ q : Nat, n % ((S3.length : Nat) : Int) = q := ⟨(n % ((S3.length : Nat) : Int)).toNat, by omega⟩
      rw [hq]
      have : q < S3.cps.toList.length := by rw [tl_len]; omega
      exact ⟨_, atI_nat (List.getElem?_eq_getElem this)⟩
    clear hS7
    walk_at "gc"
    exact k _
/-- a text bent -/
def sp_bent : Sp := fun vs H Q _ => ∃ (x : Str) (n : Int), vs = [.str x, .int n] ∧ x.length ≤ 500 ∧ ∀ y H', Str.length y ≤ 501 → Ex H H' → Q (.str y) H'
theorem ok_l_bent (T : Tx K mg) : FnOk P w K mg base CX0 2 T.f_l_bent T.fd_l_bent ["_law_text", "_law_cell"] (sp_bent) := by
  refine T.F_l_bent.ok sc_l_bent (fun vs H Q E h => ?_) (fun cdv A outer s H vs Q E hr h => ?_)
  · first | (obtain ⟨rfl, _⟩ := h; rfl) | (obtain ⟨_, rfl, _⟩ := h; rfl) | (obtain ⟨_, _, rfl, _⟩ := h; rfl) | (obtain ⟨_, _, _, rfl, _⟩ := h; rfl) | (obtain ⟨_, _, _, _, rfl, _⟩ := h; rfl) | (obtain ⟨_, _, _, _, _, rfl, _⟩ := h; rfl) | (obtain ⟨_, _, _, _, _, _, rfl, _⟩ := h; rfl) | (obtain ⟨_, _, _, _, _, _, _, rfl, _⟩ := h; rfl) | (obtain ⟨_, _, _, _, _, _, _, _, rfl, _⟩ := h; rfl)
  · obtain ⟨x, n, rfl, hxl, k⟩ := h
    refine ⟨_, (pss_cut (ps_set (i := 2) sc_l_bent.nd rfl (Or.inl rfl) (pe_callB call_len_str (by rfl) T.n_len PySem.boot_len (pa_cons (pv 0) pa_nil))) (pss_cut (ps_set (i := 3) sc_l_bent.nd rfl (Or.inl rfl) (pe_op op_mod (pe_op op_fdiv (pv 1) pe_int) (pe_op op_add (pv 2) pe_int))) (pss_cut (ps_set (i := 4) sc_l_bent.nd rfl (Or.inl rfl) (pe_call (ok_l_sign_by T) (hr.mono (by decide)) rfl T.m_l_sign_by T.F_l_sign_by.kp T.b_l_sign_by .nil pass0 (pa_cons (pe_op op_fdiv (pe_op op_fdiv (pv 1) pe_int) (pe_op op_add (pv 2) pe_int)) pa_nil))) (pss_cut (ps_if (pt_cmpR op_eq (pe_op op_mod (pv 1) pe_int) pe_int (nomark _)) (pss_one (ps_ret (pe_op op_add_str (pe_op op_add_str (pe_slice sl_str (pv 0) po_none (po_some (pv 3))) (pv 4)) (pe_slice sl_str (pv 0) (po_some (pv 3)) po_none)))) pss_nil) (pss_cut (ps_if (pt_cmpR op_eq (pe_op op_mod (pv 1) pe_int) pe_int (nomark _)) (pss_one (ps_ret (pe_op op_add_str (pe_slice sl_str (pv 0) po_none (po_some (pv 3))) (pe_slice sl_str (pv 0) (po_some (pe_op op_add (pv 3) pe_int)) po_none)))) pss_nil) (pss_cut (ps_if (pt_cmpR op_eq (pe_op op_mod (pv 1) pe_int) pe_int (nomark _)) (pss_one (ps_ret (pe_op op_add_str (pe_op op_add_str (pe_slice sl_str (pv 0) po_none (po_some (pv 3))) (pv 4)) (pe_slice sl_str (pv 0) (po_some (pe_op op_add (pv 3) pe_int)) po_none)))) pss_nil) (pss_cut (ps_set (i := 5) sc_l_bent.nd rfl (Or.inl rfl) (pe_lst (pa_cons pe_str (pa_cons pe_str (pa_cons pe_str (pa_cons pe_str (pa_cons pe_str (pa_cons pe_str (pa_cons pe_str (pa_cons pe_str (pa_cons pe_str pa_nil))))))))))) (pss_cut (ps_set (i := 5) sc_l_bent.nd rfl (Or.inl rfl) (pe_op op_cat (pv 5) (pe_lst (pa_cons pe_str (pa_cons pe_str (pa_cons pe_str (pa_cons pe_str pa_nil))))))) (pss_one (ps_ret (pe_ix ix_list (pv 5) (pe_op op_mod (pe_op op_fdiv (pv 1) pe_int) pe_int) (fun _ _ => rfl)))))))))))), ?_⟩
    have g1 : x.length ≤ sizeLine := Evl.sz_of (by omega)
    have hpos : (0 : Int) < ((x.length : Nat) : Int) + 1 := by omega
    have hat := mod_in (a := n / 4) (b := ((x.length : Nat) : Int) + 1) hpos
    refine Gc.op_go fun N9 R9 B9 E9 hN9 hR9 => ?_
    walk_at "gc"
    refine hN9 _ _ ?_
    clear hN9 hR9
    refine Gc.cut_go (fun σ' H' => Hold (∃ q : Nat, σ' = [some (.str x), some (.int n), some (.int x.length), some (.int q), none, none] ∧ H' = H ∧ Hold (q ≤ x.length))) (fun R9 B9 E9 => ?_) (fun σ' H' hm => ?_)
    · walk_at "gc"
      refine ⟨⟨(n / 4 % (((x.length : Nat) : Int) + 1)).toNat, ?_, rfl, ⟨by omega⟩⟩⟩
      rw [Int.toNat_of_nonneg hat.1]
      rfl
    obtain ⟨⟨q, rfl, rfl, ⟨hq⟩⟩⟩ := hm
    have hsum : (cutS x none (some (q : Int))).length + (cutS x (some (q : Int)) none).length ≤ 500 := Nat.le_trans (cut2_len x hq (Nat.le_refl q)) hxl
    have hsum1 : (cutS x none (some (q : Int))).length + (cutS x (some ((q : Int) + 1)) none).length ≤ 500 := Nat.le_trans (cut2_len x hq (Nat.le_succ q)) hxl
    have hpos2 : (0 : Int) < ((q : Nat) : Int) + 1 := by omega
    clear hq
    clear hat
    refine Gc.op_go fun N9 R9 B9 E9 hN9 hR9 => ?_
    walk_at "gc"
    rename_i c
    refine hN9 _ _ ?_
    clear hN9 hR9
    have hs1 : (⟨#[c]⟩ : Str).length = 1 := rfl
    have q0 : (0 : Int) ≤ (q : Int) := by omega
    have hA : (cutS x none (some (q : Int))).length + (⟨#[c]⟩ : Str).length ≤ sizeLine := Evl.sz_of (by rw [hs1]; omega)
    have hB : ((cutS x none (some (q : Int))) ++ (⟨#[c]⟩ : Str)).length + (cutS x (some (q : Int)) none).length ≤ sizeLine := Evl.sz_of (by rw [app_len, hs1]; omega)
    have hC : (cutS x none (some (q : Int))).length + (cutS x (some ((q : Int) + 1)) none).length ≤ sizeLine := Evl.sz_of (by omega)
    have hD : ((cutS x none (some (q : Int))) ++ (⟨#[c]⟩ : Str)).length + (cutS x (some ((q : Int) + 1)) none).length ≤ sizeLine := Evl.sz_of (by rw [app_len, hs1]; omega)
    refine Gc.op_go fun N9 R9 B9 E9 hN9 hR9 => ?_
    walk_at "gc"
    refine Gc.eqI_2 (fun c1 => ?_) (fun c1 => ?_)
    · walk_at "gc"
      refine hR9 _ _ (k _ _ ?_ (Ex.refl _))
      rw [app_len, app_len, hs1]
      omega
    refine hN9 _ _ ?_
    clear hN9 hR9
    refine Gc.op_go fun N9 R9 B9 E9 hN9 hR9 => ?_
    walk_at "gc"
    refine Gc.eqI_2 (fun c1 => ?_) (fun c1 => ?_)
    · walk_at "gc"
      refine hR9 _ _ (k _ _ ?_ (Ex.refl _))
      rw [app_len]
      exact Nat.le_trans hsum1 (by omega)
    refine hN9 _ _ ?_
    clear hN9 hR9
    refine Gc.op_go fun N9 R9 B9 E9 hN9 hR9 => ?_
    walk_at "gc"
    refine Gc.eqI_2 (fun c1 => ?_) (fun c1 => ?_)
    · walk_at "gc"
      refine hR9 _ _ (k _ _ ?_ (Ex.refl _))
      rw [app_len, app_len, hs1]
      omega
    refine hN9 _ _ ?_
    clear hN9 hR9
    clear hA hB hC hD
    refine Gc.cut_go (fun σ' H9 => Hold (∃ O L, σ' = [some (.str x), some (.int n), some (.int x.length), some (.int q), some (.str ⟨#[c]⟩), some (.ref O)] ∧ H9 O = some (.lst (List.map V.str L)) ∧ L.length = 9 ∧ (∀ s ∈ L, s.length ≤ 30) ∧ Ex H' H9)) (fun R9 B9 E9 => ?_) (fun σ' H9 hm => ?_)
    · walk_at "gc"
      rename_i O hO H1 e1 f1
      have f2 : H1 O = some (.lst (List.map V.str [_, _, _, _, _, _, _, _, _])) := f1
      exact ⟨⟨O, _, rfl, f2, rfl, by decide +kernel, e1⟩⟩
    obtain ⟨⟨O, L, rfl, hO, hL9, hLs, he⟩⟩ := hm
    have hl9 : (L.map V.str).length ≤ 9 := by rw [List.length_map, hL9]; exact Nat.le_refl _
    refine Gc.cut_go (fun σ' H8 => Hold (∃ O L, σ' = [some (.str x), some (.int n), some (.int x.length), some (.int q), some (.str ⟨#[c]⟩), some (.ref O)] ∧ H8 O = some (.lst (List.map V.str L)) ∧ L.length = 13 ∧ (∀ s ∈ L, s.length ≤ 30) ∧ Ex H' H8)) (fun R9 B9 E9 => ?_) (fun σ' H8 hm => ?_)
    · walk_at "gc"
      rename_i a ha Ha ea fa b hb Hb eb fb
      have f2 : Ha a = some (.lst (List.map V.str [_, _, _, _])) := fa
      refine ⟨⟨b, L ++ [_, _, _, _], rfl, by rw [fb, List.map_append]; rfl, by rw [List.length_append, hL9]; rfl, fun y hy => ?_, (he.trans ea).trans eb⟩⟩
      rcases List.mem_append.mp hy with hy | hy
      · exact hLs y hy
      · refine (?_ : ∀ y ∈ _, Str.length y ≤ 30) y hy
        decide +kernel
    obtain ⟨⟨O2, L2, rfl, hO2, hL13, hLs2, he2⟩⟩ := hm
    have hm13 := mod_in (a := n / 4) (b := 13) (by decide)
    obtain ⟨s, hs, hsl⟩ : ∃ s : Str, atI (L2.map V.str) (n / 4 % 13) = some (.str s) ∧ s.length ≤ 30 := by
      obtain ⟨j, hj⟩ : ∃ j : Nat, n / 4 % 13 = j := ⟨(n / 4 % 13).toNat, by omega⟩
      have hjl : j < L2.length := by omega
      rw [hj]
      exact ⟨L2[j], atI_nat (by rw [List.getElem?_map, List.getElem?_eq_getElem hjl]; rfl), hLs2 _ (List.getElem_mem hjl)⟩
    refine Gc.end_go fun N9 R9 B9 E9 hN9 hR9 => ?_
    walk_at "gc"
    exact hR9 _ _ (k _ _ (by omega) he2)
/-- number_of(word, sign) -/
def sp_number_of10 (CN : Addr) : Sp := fun vs H Q E => ∃ (w : Str) (c : Nat), vs = [.str w, .str ⟨#[c]⟩] ∧ w.length ≤ 100000 ∧ (∀ n, 0 ≤ n → n < LIM → (∀ m, 0 ≤ m → w = sgW c m → n = m) → Q (.int n) H) ∧
  ((∀ m, 0 ≤ m → m < LIM → ¬ w = sgW c m) → ∀ H', Ex H H' → E (.ref CN) none H')
theorem ok_number_of10 (T : Tx K mg) : FnOk P w K mg base (L2N.CX P w) 1 T.f_number_of10 T.fd_number_of10 ["word", "sign"] (sp_number_of10 T.k_NoNote) := by
  refine okN T.F_number_of10 sc_number_of10 (fun vs H Q E h => ?_) (fun cdv A outer s H vs Q E hr h => ?_)
  · first | (obtain ⟨rfl, _⟩ := h; rfl) | (obtain ⟨_, rfl, _⟩ := h; rfl) | (obtain ⟨_, _, rfl, _⟩ := h; rfl) | (obtain ⟨_, _, _, rfl, _⟩ := h; rfl) | (obtain ⟨_, _, _, _, rfl, _⟩ := h; rfl) | (obtain ⟨_, _, _, _, _, rfl, _⟩ := h; rfl) | (obtain ⟨_, _, _, _, _, _, rfl, _⟩ := h; rfl) | (obtain ⟨_, _, _, _, _, _, _, rfl, _⟩ := h; rfl) | (obtain ⟨_, _, _, _, _, _, _, _, rfl, _⟩ := h; rfl)
  · obtain ⟨w, c, rfl, hwl, k, ke⟩ := h
    refine ⟨_, (pss_cut (ps_set (i := 2) sc_number_of10.nd rfl (Or.inl rfl) (pe_slice sl_str (pv 0) (po_some pe_int) po_none)) (pss_cut (ps_if (PW.pt (pw_or (pt_cmpR op_ne (pe_slice sl_str (pv 0) po_none (po_some pe_int)) (pv 1) (nomark _)) (pw_or1 (pt_not (pt_chain op_le op_le pe_int (pe_callB call_len_str (by rfl) T.n_len PySem.boot_len (pa_cons (pv 2) pa_nil)) (pe_glob (v := .int 60) rfl T.c_MOST_FIGURES ⟨_, rfl⟩)))))) (pss_one (L2N.ps_raise rfl (L2N.takes_of rfl rfl rfl rfl) (L2N.pmk_own PySem.F.excBase_ValueError T.x_NoNote T.g_NoNote T.kp_NoNote (raises_own T.be_NoNote T.ty_NoNote) rfl))) pss_nil) (pss_cut (ps_for PassesOwn.leaving rfl (pi_str (pv 2)) (pg_name (i := 3) sc_number_of10.nd rfl (Or.inl rfl)) (pss_one (ps_if (pt_cmpR op_notIn_sign (pv 3) (pe_glob (v := .str "0123456789") rfl T.c_FIGURES ⟨_, rfl⟩) (by with_unfolding_all rfl)) (pss_one (L2N.ps_raise rfl (L2N.takes_of rfl rfl rfl rfl) (L2N.pmk_own PySem.F.excBase_ValueError T.x_NoNote T.g_NoNote T.kp_NoNote (raises_own T.be_NoNote T.ty_NoNote) rfl))) pss_nil))) (pss_one (ps_ret (pe_callTy call_int_str (by rfl) T.n_int PyProof.Rows.boot_int (pa_cons (pv 2) pa_nil))))))), ?_⟩
    have g1 : w.length ≤ sizeLine := Evl.sz_of hwl
    refine Gc.op_go fun N9 R9 B9 E9 hN9 hR9 => ?_
    walk_at "gc"
    refine hN9 _ _ ?_
    clear hN9 hR9
    have g2 : (cutS w (some 1) none).length ≤ sizeLine := Evl.sz_of (Nat.le_trans (cutT_len w 1) hwl)
    have nr : ∀ {r : List Nat}, w.cps.toList = c :: r → r.length = (cutS w (some 1) none).length → ¬ (1 ≤ (cutS w (some 1) none).length ∧ (cutS w (some 1) none).length ≤ 60) → ∀ m, 0 ≤ m → m < LIM → ¬ w = sgW c m := fun hr hl hn m h0 h1 e => by
      have q := sgW_len (c := c) h0 h1
      rw [← e, ← tl_len, hr, List.length_cons, hl] at q
      omega
    refine Gc.cut_go (fun σ' H' => Hold (σ' = [some (.str w), some (.str ⟨#[c]⟩), some (.str (cutS w (some 1) none)), none] ∧ H' = H ∧ w.cps.toList = c :: (cutS w (some 1) none).cps.toList ∧ 1 ≤ (cutS w (some 1) none).length ∧ (cutS w (some 1) none).length ≤ 60)) (fun R9 B9 E9 => ?_) (fun σ' H' hm => ?_)
    · walk_at "gc"
      by_cases c1 : cutS w none (some 1) = ⟨#[c]⟩
      · have hw := head_split c1
        refine Gc.iteN_f (decide_eq_true (congrArg V.str c1)) ?_
        walk_at "gc"
        refine Gc.le_2 (fun c2 => ?_) (fun c2 => ?_)
        · walk_at "gc"
          refine Gc.leN_2 (fun c3 => ?_) (fun c3 => ?_)
          · exact ke (nr hw (tl_len _) (by omega)) _ (Ex.refl _)
          · exact ⟨⟨rfl, rfl, hw, by omega, by omega⟩⟩
        · walk_at "gc"
          exact ke (nr hw (tl_len _) (by omega)) _ (Ex.refl _)
      · refine Gc.iteN_t (decide_eq_false fun e => c1 (V.str.inj e)) ?_
        exact ke (fun m h0 h1 => head_not c1) _ (Ex.refl _)
    obtain ⟨⟨rfl, rfl, hw, hl1, hl2⟩⟩ := hm
    generalize cutS w (some 1) none = fg at *
    refine Gc.op_go fun N9 R9 B9 E9 hN9 hR9 => ?_
    walk_at "gc"
    refine Gc.for_go (walk_str (z := fg)) (fun i σ' H9 => Hold (∃ v, σ' = [some (.str w), some (.str ⟨#[c]⟩), some (.str fg), v] ∧ H9 = H' ∧ ∀ j d, j < i → fg.cps.toList[j]? = some d → 48 ≤ d ∧ d ≤ 57)) ⟨⟨_, rfl, rfl, fun j d q => absurd q (Nat.not_lt_zero _)⟩⟩ (fun _ _ _ _ _ => trivial) (fun R9 B9 i x σ' H5 H6 hi hp' hy => ?_) (fun σ' H5 hp' => ?_)
    · obtain ⟨⟨v, rfl, rfl, hd⟩⟩ := hp'
      obtain ⟨rfl, c', hc', rfl⟩ := hy
      rw [← Array.getElem?_toList] at hc'
      walk_at "gc"
      by_cases c2 : c' ∈ ("0123456789" : Str).cps.toList
      · refine Gc.iteN_f (decide_eq_true c2) ?_
        refine ⟨⟨_, rfl, rfl, fun j d hj hjd => ?_⟩⟩
        by_cases c3 : j = i
        · rw [c3, hc'] at hjd
          cases hjd
          exact dig_of c2
        · exact hd j d (by omega) hjd
      · refine Gc.iteN_t (decide_eq_false c2) ?_
        exact ke (fun m h0 h1 e => c2 (dig_to ((sgW_digits hw h0 e).1 c' (List.mem_of_getElem? hc')))) _ (Ex.refl _)
    obtain ⟨⟨v, rfl, rfl, hd⟩⟩ := hp'
    refine hN9 _ _ ?_
    clear hN9 hR9
    have hall : NumText.AllDigits fg.cps.toList := fun d hdm => by
      obtain ⟨j, hj⟩ := List.mem_iff_getElem?.mp hdm
      exact hd j d (by have := (List.getElem?_eq_some_iff.mp hj).1; rw [tl_len] at this; exact this) hj
    have hne : fg.cps.toList ≠ [] := fun e => by rw [← tl_len, e] at hl1; simp at hl1
    have hint := PySem.intText_digits hall hne (by omega)
    refine Gc.end_go fun N9 R9 B9 E9 hN9 hR9 => ?_
    walk_at "gc"
    refine hR9 _ _ (k _ (by omega) (fig_lt hall (by rw [tl_len]; exact hl2)) fun m h0 e => ?_)
    rw [(sgW_digits hw h0 e).2, TL.numL_val]
    omega
/-- is_name(x) -/
def sp_is_name (K : PySem.W.Frag) : Sp := fun vs H Q _ => ∃ x : V, vs = [x] ∧ ((∃ z : Str, x = .str z ∧ z.length ≤ 100000 ∧ ∀ H', Ex H H' → Q (.bl (nameB z)) H') ∨ (NoStr K H x ∧ Q (.bl false) H))
theorem ok_is_name (T : Tx K mg) : FnOk P w K mg base CX0 1 T.f_is_name T.fd_is_name ["thing"] (sp_is_name K) := by
  refine T.F_is_name.ok sc_is_name (fun vs H Q E h => ?_) (fun cdv A outer s H vs Q E hr h => ?_)
  · first | (obtain ⟨rfl, _⟩ := h; rfl) | (obtain ⟨_, rfl, _⟩ := h; rfl) | (obtain ⟨_, _, rfl, _⟩ := h; rfl) | (obtain ⟨_, _, _, rfl, _⟩ := h; rfl) | (obtain ⟨_, _, _, _, rfl, _⟩ := h; rfl) | (obtain ⟨_, _, _, _, _, rfl, _⟩ := h; rfl) | (obtain ⟨_, _, _, _, _, _, rfl, _⟩ := h; rfl) | (obtain ⟨_, _, _, _, _, _, _, rfl, _⟩ := h; rfl) | (obtain ⟨_, _, _, _, _, _, _, _, rfl, _⟩ := h; rfl)
  · obtain ⟨x, rfl, k⟩ := h
    rcases k with ⟨z, rfl, hz, k⟩ | ⟨⟨t, h1, h2⟩, k⟩
    · refine ⟨_, (pss_cons (ps_if (PW.pt (pw_or (pt_not (pt_val (pe_callB call_isi (by rfl) T.n_isinstance PyProof.Rows.boot_isinstance (pa_cons (pv 0) (pa_cons (pe_bltn (v := .ty "str") (by rfl) T.n_str PyProof.Rows.boot_str rfl) pa_nil))))) (pw_or1 (pt_not (pt_chain op_le op_le pe_int (pe_callB call_len_str (by rfl) T.n_len PySem.boot_len (pa_cons (pv 0) pa_nil)) (pe_glob (v := .int 8) rfl T.c_LONGEST ⟨_, rfl⟩)))))) (pss_one (ps_ret pe_bl)) pss_nil) (pss_one (ps_ret (pe_callB (cr_all rfl) (by rfl) T.n_all PyProof.Rows.boot_all (pa_cons (pe_lc (own := [("sign", 1)]) (g := gName 1) (tt := tYes) rfl sc_is_name.nd (pi_str (pv 0)) (blkOk_by (own := [("sign", 1)]) (N := ["thing", "sign"]) (sc := defScope s_is_name) (by decide +kernel)) (fun _ _ _ _ _ => pg_name (i := 1) sc_is_name.nd rfl (Or.inl rfl)) (fun _ _ _ _ _ => pts_nil) (fun _ _ _ _ _ => (pe_cmpR op_in_sign (pv 1) (pe_glob (v := .str "abcdefghijklmnopqrstuvwxyz") rfl T.c_LETTERS ⟨_, rfl⟩) (by with_unfolding_all rfl)))) pa_nil))))), ?_⟩
      walk_at "gc"
      refine Gc.le_2 (fun c1 => ?_) (fun c1 => ?_)
      · walk_at "gc"
        refine Gc.leN_2 (fun c2 => ?_) (fun c2 => ?_)
        · walk_at "gc"
          exact Gc.bl_eq (nameB_long z c2).symm (k H (Ex.refl _))
        · walk_at "gc"
          rename_i D hD
          have hsz : z.cps.size ≤ 8 := by have : ((z.cps.size : Nat) : Int) ≤ 8 := c2; omega
          refine Gc.lc_go (walk_str (z := z)) (fun i acc _ => acc = ((z.cps.toList.take i).map fun c => V.bl (decide (c ∈ LET.cps.toList)))) (by omega) hD (fun _ _ => trivial) (fun _ _ _ _ h => h) (fun _ _ => rfl) (fun i x acc H2 Kk Nn hi hy e hD2 p hK hN => ?_) (fun acc H2 e hD2 p => ?_)
          · obtain ⟨c, hc, rfl⟩ := hy
            walk_at "gc"
            refine hK _ _ (Ex.refl _) ?_
            rw [p]
            exact (take_map_succ (f := fun c => V.bl (decide (c ∈ LET.cps.toList))) (by rw [← hc]; simp)).symm
          · have e1 : acc = ((z.cps.toList.map fun c => decide (c ∈ LET.cps.toList)).map V.bl) := by
              rw [p, List.take_of_length_le (by simp), List.map_map]; rfl
            subst e1
            refine ⟨D, _, rfl, Evl.sq_of hD2, ?_⟩
            refine Gc.bl_eq ?_ (k H2 e)
            exact nameB_yes z c1 c2
      · walk_at "gc"
        exact Gc.bl_eq (nameB_short z c1).symm (k H (Ex.refl _))
    · refine ⟨_, (pss_cons (ps_if (PW.pt (pw_or (pt_not (pt_val (pe_callB call_isi (by rfl) T.n_isinstance PyProof.Rows.boot_isinstance (pa_cons (pv 0) (pa_cons (pe_bltn (v := .ty "str") (by rfl) T.n_str PyProof.Rows.boot_str rfl) pa_nil))))) (pw_or1 (pt_not (pt_chain op_le op_le pe_int (pe_callB call_len_str (by rfl) T.n_len PySem.boot_len (pa_cons (pv 0) pa_nil)) (pe_glob (v := .int 8) rfl T.c_LONGEST ⟨_, rfl⟩)))))) (pss_one (ps_ret pe_bl)) pss_nil) (pss_one (ps_ret (pe_callB (cr_all rfl) (by rfl) T.n_all PyProof.Rows.boot_all (pa_cons (pe_lc (own := [("sign", 1)]) (g := gName 1) (tt := tYes) rfl sc_is_name.nd (pi_str (pv 0)) (blkOk_by (own := [("sign", 1)]) (N := ["thing", "sign"]) (sc := defScope s_is_name) (by decide +kernel)) (fun _ _ _ _ _ => pg_name (i := 1) sc_is_name.nd rfl (Or.inl rfl)) (fun _ _ _ _ _ => pts_nil) (fun _ _ _ _ _ => (pe_cmpR op_in_sign (pv 1) (pe_glob (v := .str "abcdefghijklmnopqrstuvwxyz") rfl T.c_LETTERS ⟨_, rfl⟩) (by with_unfolding_all rfl)))) pa_nil))))), ?_⟩
      walk_at "gc"
      exact k
/-- is_whole(x) -/
def sp_is_whole (K : PySem.W.Frag) : Sp := fun vs H Q _ => ∃ (x : V) (b : Bool), vs = [x] ∧ WholeJ K H x b ∧ Q (.bl b) H
theorem ok_is_whole (T : Tx K mg) : FnOk P w K mg base CX0 1 T.f_is_whole T.fd_is_whole ["thing"] (sp_is_whole K) := by
  refine T.F_is_whole.ok sc_is_whole (fun vs H Q E h => ?_) (fun cdv A outer s H vs Q E hr h => ?_)
  · first | (obtain ⟨rfl, _⟩ := h; rfl) | (obtain ⟨_, rfl, _⟩ := h; rfl) | (obtain ⟨_, _, rfl, _⟩ := h; rfl) | (obtain ⟨_, _, _, rfl, _⟩ := h; rfl) | (obtain ⟨_, _, _, _, rfl, _⟩ := h; rfl) | (obtain ⟨_, _, _, _, _, rfl, _⟩ := h; rfl) | (obtain ⟨_, _, _, _, _, _, rfl, _⟩ := h; rfl) | (obtain ⟨_, _, _, _, _, _, _, rfl, _⟩ := h; rfl) | (obtain ⟨_, _, _, _, _, _, _, _, rfl, _⟩ := h; rfl)
  · obtain ⟨x, b, rfl, ⟨t, b1, b2, h1, h2, h3, rfl⟩, k⟩ := h
    refine ⟨_, (pss_one (ps_ret (pe_and (pe_callB call_isi (by rfl) T.n_isinstance PyProof.Rows.boot_isinstance (pa_cons (pv 0) (pa_cons (pe_bltn (v := .ty "int") (by rfl) T.n_int PyProof.Rows.boot_int rfl) pa_nil))) (pe_one (pe_not (pe_callB call_isi (by rfl) T.n_isinstance PyProof.Rows.boot_isinstance (pa_cons (pv 0) (pa_cons (pe_bltn (v := .ty "bool") (by rfl) T.n_bool PyProof.Rows.boot_bool rfl) pa_nil)))))))), ?_⟩
    walk_at "gc"
    cases b1 with
    | false => exact iteF k
    | true =>
      walk_at "gc"
      exact k
/-- is_share(v) -/
def sp_is_share (K : PySem.W.Frag) : Sp := fun vs H Q _ => ∃ (v : V) (b : Bool), vs = [v] ∧ ShJ K H v b ∧ Q (.bl b) H
theorem ok_is_share (T : Tx K mg) : FnOk P w K mg base CX0 2 T.f_is_share T.fd_is_share ["thing"] (sp_is_share K) := by
  refine T.F_is_share.ok sc_is_share (fun vs H Q E h => ?_) (fun cdv A outer s H vs Q E hr h => ?_)
  · first | (obtain ⟨rfl, _⟩ := h; rfl) | (obtain ⟨_, rfl, _⟩ := h; rfl) | (obtain ⟨_, _, rfl, _⟩ := h; rfl) | (obtain ⟨_, _, _, rfl, _⟩ := h; rfl) | (obtain ⟨_, _, _, _, rfl, _⟩ := h; rfl) | (obtain ⟨_, _, _, _, _, rfl, _⟩ := h; rfl) | (obtain ⟨_, _, _, _, _, _, rfl, _⟩ := h; rfl) | (obtain ⟨_, _, _, _, _, _, _, rfl, _⟩ := h; rfl) | (obtain ⟨_, _, _, _, _, _, _, _, rfl, _⟩ := h; rfl)
  · obtain ⟨v, b, rfl, hv, k⟩ := h
    refine ⟨_, (pss_cons (ps_if (PW.pt (pw_or (pt_not (pt_val (pe_callB call_isi (by rfl) T.n_isinstance PyProof.Rows.boot_isinstance (pa_cons (pv 0) (pa_cons (pe_bltn (v := .ty "tuple") (by rfl) T.n_tuple PyProof.Rows.boot_tuple rfl) pa_nil))))) (pw_or1 (pt_cmpR op_ne (pe_callB call_len_seq (by rfl) T.n_len PySem.boot_len (pa_cons (pv 0) pa_nil)) pe_int (nomark _))))) (pss_one (ps_ret pe_bl)) pss_nil) (pss_cons (ps_for PassesOwn.never rfl (pi_tup (pv 0)) (pg_name (i := 1) sc_is_share.nd rfl (Or.inl rfl)) (pss_one (ps_if (PW.pt (pw_or (pt_not (pt_val (pe_call (ok_is_whole T) (hr.mono (by decide)) rfl T.m_is_whole T.F_is_whole.kp T.b_is_whole .nil pass0 (pa_cons (pv 1) pa_nil)))) (pw_or1 (pt_not (pt_chain op_le op_lt pe_int (pv 1) (pe_glob (v := .int 1000000000000000000000000000000000000000000000000000000000000) rfl T.c_LIMIT ⟨_, rfl⟩)))))) (pss_one (ps_ret pe_bl)) pss_nil))) (pss_one (ps_ret (pe_cmpR op_gt (pe_op op_add (pe_ix ix_tup (pv 0) pe_int (fun _ _ => rfl)) (pe_ix ix_tup (pv 0) pe_int (fun _ _ => rfl))) pe_int (nomark _)))))), ?_⟩
    cases hv with
    | int i =>
      walk_at "gc"
      exact k
    | oth h kk =>
      walk_at "gc"
      exact k
    | len h n =>
      walk_at "gc"
      refine Gc.neI_t (by omega) ?_
      walk_at "gc"
      exact k
    | @two a x y o p h hx hy =>
      walk_at "gc"
      refine for_it (walk_tup (xs := [x, y])) (fun i σ' H' => Hold (∃ v, σ' = [some (.ref a), v] ∧ H' = H ∧ ∀ j, j < i → [goodN o, goodN p][j]? = some true)) ⟨⟨_, rfl, rfl, fun j hj => absurd hj (Nat.not_lt_zero j)⟩⟩ (fun _ _ _ _ hp => by obtain ⟨⟨_, _, rfl, _⟩⟩ := hp; exact h) (fun i z σ' H1 H2 hi hp hq => ?_) (fun σ' H1 hp => ?_)
      · obtain ⟨⟨v, rfl, rfl, hg⟩⟩ := hp
        obtain ⟨rfl, hz⟩ := hq
        obtain ⟨oz, hn, he, hb⟩ := pair_at hx hy hz
        cases hn with
        | int i' =>
          walk_at "gc"
          refine ⟨WholeJ.int i', ?_⟩
          walk_at "gc"
          have e6 : LIM = 10 ^ 60 := rfl
          refine Gc.le_2 (fun c1 => ?_) (fun c1 => ?_)
          · walk_at "gc"
            refine Gc.ltN_2 (fun c2 => ?_) (fun c2 => ?_)
            · walk_at "gc"
              rw [hb (by show (decide (0 ≤ i') && decide (i' < LIM)) = false; rw [decide_eq_false (p := i' < LIM) (by rw [e6]; omega), Bool.and_false])] at k
              exact k
            · refine ⟨⟨some (.int i'), rfl, rfl, fun j hj => ?_⟩⟩
              by_cases c : j < i
              · exact hg j c
              · rw [show j = i by omega, he]
                exact congrArg some (show (decide (0 ≤ i') && decide (i' < LIM)) = true by rw [decide_eq_true c1, decide_eq_true (p := i' < LIM) (by rw [e6]; omega)]; rfl)
          · walk_at "gc"
            rw [hb (by show (decide (0 ≤ i') && decide (i' < LIM)) = false; rw [decide_eq_false c1, Bool.false_and])] at k
            exact k
        | odd hw =>
          walk_at "gc"
          rw [hb rfl] at k
          exact k
      · obtain ⟨⟨v, rfl, rfl, hg⟩⟩ := hp
        obtain ⟨i', j', rfl, rfl, e⟩ := pair_end (Option.some.inj (hg 0 (by show 0 < 2; decide))) (Option.some.inj (hg 1 (by show 1 < 2; decide)))
        rw [e] at k
        cases hx
        cases hy
        walk_at "gc"
        exact k
/-- is_page(v) -/
def sp_is_page (K : PySem.W.Frag) : Sp := fun vs H Q _ => ∃ v : V, vs = [v] ∧ ((∃ (d : Addr) (kvs : List (Key × V)) (g : Bool), v = .ref d ∧ H d = some (.dK kvs) ∧ PageJ K H kvs g ∧ ∀ H', Ex H H' → Q (.bl g) H') ∨
  ∃ t : String, TyX K H v (.type t) ∧ PySem.W.kitOne K (.type t) (.type "dict") = some false ∧ Q (.bl false) H)
theorem ok_is_page (T : Tx K mg) : FnOk P w K mg base CX0 3 T.f_is_page T.fd_is_page ["thing"] (sp_is_page K) := by
  refine T.F_is_page.ok sc_is_page (fun vs H Q E h => ?_) (fun cdv A outer s H vs Q E hr h => ?_)
  · first | (obtain ⟨rfl, _⟩ := h; rfl) | (obtain ⟨_, rfl, _⟩ := h; rfl) | (obtain ⟨_, _, rfl, _⟩ := h; rfl) | (obtain ⟨_, _, _, rfl, _⟩ := h; rfl) | (obtain ⟨_, _, _, _, rfl, _⟩ := h; rfl) | (obtain ⟨_, _, _, _, _, rfl, _⟩ := h; rfl) | (obtain ⟨_, _, _, _, _, _, rfl, _⟩ := h; rfl) | (obtain ⟨_, _, _, _, _, _, _, rfl, _⟩ := h; rfl) | (obtain ⟨_, _, _, _, _, _, _, _, rfl, _⟩ := h; rfl)
  · obtain ⟨v, rfl, h⟩ := h
    rcases h with ⟨dd, kvs, g, rfl, hd, ⟨hs, h1000, f, hf, rfl⟩, k⟩ | ⟨t, ht, hk, k⟩
    · refine ⟨_, (pss_cons (ps_if (PW.pt (pw_or (pt_not (pt_val (pe_callB call_isi (by rfl) T.n_isinstance PyProof.Rows.boot_isinstance (pa_cons (pv 0) (pa_cons (pe_bltn (v := .ty "dict") (by rfl) T.n_dict PyProof.Rows.boot_dict rfl) pa_nil))))) (pw_or1 (pt_cmpR op_gt (pe_callB call_lenDR (by rfl) T.n_len PySem.boot_len (pa_cons (pv 0) pa_nil)) (pe_glob (v := .int 200) rfl T.c_MOST_NAMES ⟨_, rfl⟩) (nomark _))))) (pss_one (ps_ret pe_bl)) pss_nil) (pss_cons (ps_lock (ps_for PassesOwn.never rfl (pi_keys (pv 0)) (pg_name (i := 1) sc_is_page.nd rfl (Or.inl rfl)) (pss_one (ps_if (PW.pt (pw_or (pt_not (pt_val (pe_call (ok_is_name T) (hr.mono (by decide)) rfl T.m_is_name T.F_is_name.kp T.b_is_name .nil pass0 (pa_cons (pv 1) pa_nil)))) (pw_or1 (pt_not (pt_val (pe_call (ok_is_share T) (hr.mono (by decide)) rfl T.m_is_share T.F_is_share.kp T.b_is_share .nil pass0 (pa_cons (pe_dget (hu_of hr) (pv 0) (pv 1) (fun _ _ => rfl)) pa_nil))))))) (pss_one (ps_ret pe_bl)) pss_nil)))) (pss_one (ps_ret pe_bl)))), ?_⟩
      walk_at "gc"
      refine Gc.lt_2 (fun c1 => ?_) (fun c1 => ?_)
      · walk_at "gc"
        have e : (decide (((kvs.length : Nat) : Int) ≤ 200) && kvs.all fun p => keyB p.1 && f p.1) = false := by rw [decide_eq_false (by omega), Bool.false_and]
        rw [e] at k
        exact k _ (Ex.refl _)
      refine Gc.lock_go hd (fun od H1 h1 er ul oth => ?_)
      walk_at "gc"
      refine Or.inl ⟨kvs, h1, ?_⟩
      refine for_it walk_keys (fun i σ' H' => Hold (∃ v, σ' = [some (.ref dd), v] ∧ Ex H1 H' ∧ ∀ p ∈ kvs.take i, (keyB p.1 && f p.1) = true)) ⟨⟨_, rfl, Ex.refl _, fun p hp => absurd hp (by simp)⟩⟩ (fun _ _ _ _ hp => by obtain ⟨⟨_, _, e, _⟩⟩ := hp; exact e _ _ h1) (fun i x σ' H2 H3 hi hp hy => ?_) (fun σ' H2 hp => ?_)
      · obtain ⟨⟨v, rfl, e2, hg⟩⟩ := hp
        obtain ⟨rfl, key, y, hky, rfl⟩ := hy
        have hmem : (key, y) ∈ kvs := List.mem_of_getElem? hky
        obtain ⟨v2, hv2⟩ := valV_some hmem
        have hbad : (keyB key && f key) = false → (decide (((kvs.length : Nat) : Int) ≤ 200) && kvs.all fun p => keyB p.1 && f p.1) = false := fun q => by
          have : (kvs.all fun p => keyB p.1 && f p.1) = false := List.all_eq_false.mpr ⟨_, hmem, by show ¬ (keyB key && f key) = true; rw [q]; exact Bool.false_ne_true⟩
          rw [this, Bool.and_false]
        cases key with
        | inl n =>
          walk_at "gc"
          refine Or.inr ⟨.int n, ?_⟩
          walk_at "gc"
          rw [hbad rfl] at k
          exact k _ (ul _ (by walk_at "gc_ex"))
        | inr z =>
          walk_at "gc"
          refine Or.inl ⟨z, rfl, hs _ hmem, fun H9 e9 => ?_⟩
          have e19 : Ex H1 H9 := e2.trans e9
          cases hz : nameB z with
          | false =>
            walk_at "gc"
            rw [hbad (by show (nameB z && _) = false; rw [hz, Bool.false_and])] at k
            exact k _ (ul _ (by walk_at "gc_ex"))
          | true =>
            walk_at "gc"
            refine ⟨Gc.dget_k (k := .inr z) (.inr ⟨_, e19 _ _ h1⟩) hv2, ?_⟩
            walk_at "gc"
            refine ⟨(hf _ _ hv2).et (er.et.trans (Et.of e19)), ?_⟩
            cases hz2 : f (.inr z) with
            | false =>
              walk_at "gc"
              rw [hbad (by rw [hz2, Bool.and_false])] at k
              exact k _ (ul _ (by walk_at "gc_ex"))
            | true =>
              walk_at "gc"
              refine ⟨⟨_, rfl, e19, fun p hp => ?_⟩⟩
              rw [List.take_add_one, hky] at hp
              rcases List.mem_append.mp hp with q | q
              · exact hg p q
              · rw [List.mem_singleton.mp q]
                show (nameB z && f (.inr z)) = true
                rw [hz, hz2]
                rfl
      · obtain ⟨⟨v, rfl, e2, hg⟩⟩ := hp
        rw [List.take_length] at hg
        have : (kvs.all fun p => keyB p.1 && f p.1) = true := List.all_eq_true.mpr hg
        rw [this, Bool.and_true, decide_eq_true (by omega)] at k
        walk_at "gc"
        exact k _ (ul _ (by walk_at "gc_ex"))
    · refine ⟨_, (pss_cons (ps_if (PW.pt (pw_or (pt_not (pt_val (pe_callB call_isi (by rfl) T.n_isinstance PyProof.Rows.boot_isinstance (pa_cons (pv 0) (pa_cons (pe_bltn (v := .ty "dict") (by rfl) T.n_dict PyProof.Rows.boot_dict rfl) pa_nil))))) (pw_or1 (pt_cmpR op_gt (pe_callB call_lenDR (by rfl) T.n_len PySem.boot_len (pa_cons (pv 0) pa_nil)) (pe_glob (v := .int 200) rfl T.c_MOST_NAMES ⟨_, rfl⟩) (nomark _))))) (pss_one (ps_ret pe_bl)) pss_nil) (pss_cons (ps_lock (ps_for PassesOwn.never rfl (pi_keys (pv 0)) (pg_name (i := 1) sc_is_page.nd rfl (Or.inl rfl)) (pss_one (ps_if (PW.pt (pw_or (pt_not (pt_val (pe_call (ok_is_name T) (hr.mono (by decide)) rfl T.m_is_name T.F_is_name.kp T.b_is_name .nil pass0 (pa_cons (pv 1) pa_nil)))) (pw_or1 (pt_not (pt_val (pe_call (ok_is_share T) (hr.mono (by decide)) rfl T.m_is_share T.F_is_share.kp T.b_is_share .nil pass0 (pa_cons (pe_dget (hu_of hr) (pv 0) (pv 1) (fun _ _ => rfl)) pa_nil))))))) (pss_one (ps_ret pe_bl)) pss_nil)))) (pss_one (ps_ret pe_bl)))), ?_⟩
      walk_at "gc"
      exact k
/-- written(page) -/
def sp_written (K : PySem.W.Frag) : Sp := fun vs H Q _ => ∃ (d : Addr) (kvs : List (Key × V)) (ks : List Str) (f : Sh), vs = [.ref d] ∧ H d = some (.dK kvs) ∧ PgK K H kvs ks f ∧ NN f ∧ NmOk ks ∧ (∀ z, (f z).1 < LIM ∧ (f z).2 < LIM) ∧ ks.length ≤ 300 ∧
  ∀ ys H', ys.Perm ks → PyProof.Rows.sortedS ys = true → Ex H H' → Q (.str (textT ys f)) H'
theorem ok_written (T : Tx K mg) : FnOk P w K mg base CX0 1 T.f_written T.fd_written ["page"] (sp_written K) := by
  refine T.F_written.ok sc_written (fun vs H Q E h => ?_) (fun cdv A outer s H vs Q E hr h => ?_)
  · first | (obtain ⟨rfl, _⟩ := h; rfl) | (obtain ⟨_, rfl, _⟩ := h; rfl) | (obtain ⟨_, _, rfl, _⟩ := h; rfl) | (obtain ⟨_, _, _, rfl, _⟩ := h; rfl) | (obtain ⟨_, _, _, _, rfl, _⟩ := h; rfl) | (obtain ⟨_, _, _, _, _, rfl, _⟩ := h; rfl) | (obtain ⟨_, _, _, _, _, _, rfl, _⟩ := h; rfl) | (obtain ⟨_, _, _, _, _, _, _, rfl, _⟩ := h; rfl) | (obtain ⟨_, _, _, _, _, _, _, _, rfl, _⟩ := h; rfl)
  · obtain ⟨d, kvs, ks, f, rfl, hd, hp, hnn, hnm, hlm, hlen, k⟩ := h
    refine ⟨_, (pss_cut (ps_if (pt_cmpR op_eq (pe_callB call_lenDR (by rfl) T.n_len PySem.boot_len (pa_cons (pv 0) pa_nil)) pe_int (nomark _)) (pss_one (ps_ret pe_str)) pss_nil) (pss_cut (ps_set (i := 1) sc_written.nd rfl (Or.inl rfl) (pe_lst pa_nil)) (pss_cut (ps_for PassesOwn.never rfl (pi_list (pe_callB (cr_sortedDA rfl) (by rfl) T.n_sorted PyProof.Rows.boot_sorted (pa_cons (pv 0) pa_nil))) (pg_name (i := 2) sc_written.nd rfl (Or.inl rfl)) (pss_cons (ps_set (i := 3) sc_written.nd rfl (Or.inl rfl) (pe_dget (hu_of hr) (pv 0) (pv 2) (fun _ _ => rfl))) (pss_one (ps_expr (pe_bm PySem.F.plainAttrs_list PySem.F.slot_list_append PySem.F.type_list_append mt_append (pv 1) (pa_cons (pe_op op_add_str (pe_op op_add_str (pe_op op_add_str (pe_op op_add_str (pv 2) pe_str) (pe_callTy call_str_int (by rfl) T.n_str PyProof.Rows.boot_str (pa_cons (pe_ix ix_tup (pv 3) pe_int (fun _ _ => rfl)) pa_nil))) pe_str) (pe_callTy call_str_int (by rfl) T.n_str PyProof.Rows.boot_str (pa_cons (pe_ix ix_tup (pv 3) pe_int (fun _ _ => rfl)) pa_nil))) pa_nil)))))) (pss_one (ps_ret (pe_join pe_str (pv 1))))))), ?_⟩
    have hkl := hp.len
    have hk2 := hp.keys
    have hnil : ks = [] ↔ kvs.length = 0 := by rw [hkl]; exact List.length_eq_zero_iff.symm
    refine Gc.op_go fun N9 R9 B9 E9 hN9 hR9 => ?_
    walk_at "gc"
    refine Gc.eqI_2 (fun c1 => ?_) (fun c1 => ?_)
    · walk_at "gc"
      have e : ks = [] := hnil.mpr (by omega)
      have q := k [] H (by rw [e]) rfl (Ex.refl _)
      exact hR9 _ _ q
    refine hN9 _ _ ?_
    clear hN9 hR9
    refine Gc.op_go fun N9 R9 B9 E9 hN9 hR9 => ?_
    walk_at "gc"
    rename_i L hL H1 e1 f1
    refine hN9 _ _ ?_
    clear hN9 hR9
    refine Gc.op_go fun N9 R9 B9 E9 hN9 hR9 => ?_
    walk_at "gc"
    rename_i ys hperm hys l2 hl2 H2 e2 f2
    have hyl : ys.length = ks.length := hperm.length_eq
    have hL2 := e2 _ _ f1
    have hll : l2 ≠ L := fun q => by rw [q, f1] at hl2; cases hl2
    have e02 := e1.trans e2
    clear f1 e1 e2
    refine Gc.for_go (walk_list (K := K) (xs := ys.map V.str)) (fun i σ' H9 => Hold (∃ v2 v3, σ' = [some (.ref d), some (.ref L), v2, v3] ∧ H9 L = some (.lst ((ys.take i).map fun z => V.str (rowT z (f z)))) ∧ H9 l2 = some (.lst (ys.map V.str)) ∧ Ex H H9)) ⟨⟨_, _, rfl, hL2, f2, e02⟩⟩ (fun _ _ _ _ hp => by obtain ⟨⟨_, _, _, _, e, _⟩⟩ := hp; exact Evl.sq_of e) (fun R9 B9 i x σ' H5 H6 hi hp' hy => ?_) (fun σ' H5 hp' => ?_)
    · obtain ⟨⟨v2, v3, rfl, hLL, hl6, he⟩⟩ := hp'
      obtain ⟨rfl, hxi⟩ := hy
      obtain ⟨z, hz, rfl⟩ : ∃ z, ys[i]? = some z ∧ x = .str z := by
        rw [List.getElem?_map] at hxi
        cases q : ys[i]? with
        | none => rw [q] at hxi; cases hxi
        | some z => rw [q] at hxi; cases hxi; exact ⟨z, rfl, rfl⟩
      have hzm : z ∈ ks := hperm.mem_iff.mp (List.mem_of_getElem? hz)
      have hiy : i < ys.length := (List.getElem?_eq_some_iff.mp hz).1
      obtain ⟨t, ht, hst⟩ := hp.there hzm
      have hs6 := Er.sqT (Er.of he) hst
      have hd6 := he _ _ hd
      have h1 := ((nameB_iff z).mp (hnm z hzm)).2.1
      have h2 := numT_len (hnn z).1 (hlm z).1
      have h3 := numT_len (hnn z).2 (hlm z).2
      have lg1 := log_ok (hnn z).1 (hlm z).1
      have lg2 := log_ok (hnn z).2 (hlm z).2
      have g1 : z.length + (" +" : Str).length ≤ sizeLine := Evl.sz_of (by show z.length + 2 ≤ 100000; omega)
      have g2 : (z ++ (" +" : Str)).length + (numT (f z).1).length ≤ sizeLine := Evl.sz_of (by rw [app_len]; show z.length + 2 + _ ≤ 100000; omega)
      have g3 : ((z ++ (" +" : Str)) ++ numT (f z).1).length + (" -" : Str).length ≤ sizeLine := Evl.sz_of (by rw [app_len, app_len]; show z.length + 2 + _ + 2 ≤ 100000; omega)
      have g4 : (((z ++ (" +" : Str)) ++ numT (f z).1) ++ (" -" : Str)).length + (numT (f z).2).length ≤ sizeLine := Evl.sz_of (by rw [app_len, app_len, app_len]; show z.length + 2 + _ + 2 + _ ≤ 100000; omega)
      walk_at "gc"
      refine And.intro (Gc.dget_k (k := .inr z) (.inl hd6) ht) ?_
      walk_at "gc"
      refine And.intro (Evl.sz_lt (by rw [List.length_map, List.length_take]; omega)) ?_
      refine ⟨⟨_, _, rfl, ?_, (upd_ne hll).trans hl6, Ex.mut he hL⟩⟩
      rw [upd_same, take_snoc hz, List.map_append]
      rfl
    obtain ⟨⟨v2, v3, rfl, hLL, hl5, he⟩⟩ := hp'
    rw [List.length_map, List.take_length] at hLL
    refine hN9 _ _ ?_
    clear hN9 hR9
    have hys0 : ¬ ys = [] := fun q => c1 (by have := hnil.mp (List.eq_nil_of_length_eq_zero (by rw [← hyl, q]; rfl)); omega)
    have hsum : ((ys.map fun z => rowT z (f z)).map (·.length)).sum + (ys.map fun z => rowT z (f z)).length * (", " : Str).length ≤ 16777216 := by
      have := sum_le (m := 140) (xs := ys.map fun z => rowT z (f z)) (fun x hx => by obtain ⟨z, hz, e⟩ := List.mem_map.mp hx; rw [← e]; exact rowT_len (hnm z (hperm.mem_iff.mp hz)) (hnn z) (hlm z))
      rw [List.length_map] at this ⊢
      show _ + ys.length * 2 ≤ 16777216
      omega
    have hLL' : H5 L = some (.lst ((ys.map fun z => rowT z (f z)).map V.str)) := by rw [hLL, List.map_map]; rfl
    refine Gc.end_go fun N9 R9 B9 E9 hN9 hR9 => ?_
    walk_at "gc"
    have q := k ys H5 hperm hys he
    unfold textT at q
    rw [if_neg hys0] at q
    exact hR9 _ _ q
/-- read(text), any text -/
def sp_read10 (K : PySem.W.Frag) (CN : Addr) : Sp := fun vs H Q E => ∃ x : Str, vs = [.str x] ∧ x.length ≤ 590 ∧ ((x = "nobody" ∧ ∀ p H', H p = none → Ex H H' → H' p = some (.dK []) → Q (.ref p) H') ∨
  (∃ ys f, GoodT x ys f ∧ ∀ p kvs H', H p = none → Ex H H' → H' p = some (.dK kvs) → PgK K H' kvs ys f → Q (.ref p) H') ∨ (NotT x ∧ ∀ H', Ex H H' → E (.ref CN) none H'))
theorem ok_read10 (T : Tx K mg) : FnOk P w K mg base (L2N.CX P w) 4 T.f_read10 T.fd_read10 ["text"] (sp_read10 K T.k_NoNote) := by
  refine okN T.F_read10 sc_read10 (fun vs H Q E h => ?_) (fun cdv A outer s H vs Q E hr h => ?_)
  · first | (obtain ⟨rfl, _⟩ := h; rfl) | (obtain ⟨_, rfl, _⟩ := h; rfl) | (obtain ⟨_, _, rfl, _⟩ := h; rfl) | (obtain ⟨_, _, _, rfl, _⟩ := h; rfl) | (obtain ⟨_, _, _, _, rfl, _⟩ := h; rfl) | (obtain ⟨_, _, _, _, _, rfl, _⟩ := h; rfl) | (obtain ⟨_, _, _, _, _, _, rfl, _⟩ := h; rfl) | (obtain ⟨_, _, _, _, _, _, _, rfl, _⟩ := h; rfl) | (obtain ⟨_, _, _, _, _, _, _, _, rfl, _⟩ := h; rfl)
  · obtain ⟨x, rfl, hxl, kk⟩ := h
    refine ⟨_, (pss_cut (ps_set (i := 1) sc_read10.nd rfl (Or.inl rfl) pe_dnewK) (pss_cut (ps_if (pt_cmpR op_eq (pv 0) pe_str (nomark _)) (pss_one (ps_ret (pv 1))) pss_nil) (pss_cut (ps_for PassesOwn.leaving rfl (pi_list (pe_split (pv 0) pe_str)) (pg_name (i := 2) sc_read10.nd rfl (Or.inl rfl)) (pss_cut (ps_set (i := 3) sc_read10.nd rfl (Or.inl rfl) (pe_split (pv 2) pe_str)) (pss_cut (ps_if (pt_cmpR op_ne (pe_callB call_len_seq (by rfl) T.n_len PySem.boot_len (pa_cons (pv 3) pa_nil)) pe_int (nomark _)) (pss_one (L2N.ps_raise rfl (L2N.takes_of rfl rfl rfl rfl) (L2N.pmk_own PySem.F.excBase_ValueError T.x_NoNote T.g_NoNote T.kp_NoNote (raises_own T.be_NoNote T.ty_NoNote) rfl))) pss_nil) (pss_one (ps_dput (hu_of hr) (pv 1) (pe_ix ix_list (pv 3) pe_int (fun _ _ => rfl)) (pe_tup (pa_cons (pe_call (ok_number_of10 T) (hr.mono (by decide)) rfl T.m_number_of10 T.F_number_of10.kp T.b_number_of10 .nil (L2N.passes_call (L2N.takes_of rfl rfl rfl rfl) (fun _ _ _ _ h => h)) (pa_cons (pe_ix ix_list (pv 3) pe_int (fun _ _ => rfl)) (pa_cons pe_str pa_nil))) (pa_cons (pe_call (ok_number_of10 T) (hr.mono (by decide)) rfl T.m_number_of10 T.F_number_of10.kp T.b_number_of10 .nil (L2N.passes_call (L2N.takes_of rfl rfl rfl rfl) (fun _ _ _ _ h => h)) (pa_cons (pe_ix ix_list (pv 3) pe_int (fun _ _ => rfl)) (pa_cons pe_str pa_nil))) pa_nil))) rfl))))) (pss_cut (ps_if (PW.pt (pw_or (pt_not (pt_val (pe_call (ok_is_page T) (hr.mono (by decide)) rfl T.m_is_page T.F_is_page.kp T.b_is_page .nil pass0 (pa_cons (pv 1) pa_nil)))) (pw_or1 (pt_cmpR op_ne (pe_call (ok_written T) (hr.mono (by decide)) rfl T.m_written T.F_written.kp T.b_written .nil pass0 (pa_cons (pv 1) pa_nil)) (pv 0) (nomark _))))) (pss_one (L2N.ps_raise rfl (L2N.takes_of rfl rfl rfl rfl) (L2N.pmk_own PySem.F.excBase_ValueError T.x_NoNote T.g_NoNote T.kp_NoNote (raises_own T.be_NoNote T.ty_NoNote) rfl))) pss_nil) (pss_one (ps_ret (pv 1))))))), ?_⟩
    have g1 : x.length + 2 ≤ sizeLine := Evl.sz_of (by omega)
    rcases kk with ⟨rfl, k0⟩ | ⟨ys, f, hg, k1⟩ | ⟨hn, k2⟩
    · refine Gc.op_go fun N9 R9 B9 E9 hN9 hR9 => ?_
      walk_at "gc"
      rename_i p hp H1 e1 f1
      refine hN9 _ _ ?_
      clear hN9 hR9
      refine Gc.op_go fun N9 R9 B9 E9 hN9 hR9 => ?_
      walk_at "gc"
      exact hR9 _ _ (k0 p H1 hp e1 f1)
    · obtain rfl := hg.eq
      refine Gc.op_go fun N9 R9 B9 E9 hN9 hR9 => ?_
      walk_at "gc"
      rename_i p hp0 H1 e1 f1
      refine hN9 _ _ ?_
      clear hN9 hR9
      refine Gc.op_go fun N9 R9 B9 E9 hN9 hR9 => ?_
      walk_at "gc"
      refine Gc.ite_neg (decide_eq_false fun e => hg.not (V.str.inj e)) ?_
      refine hN9 _ _ ?_
      clear hN9 hR9
      have hsp := hg.parts
      have hnm := hg.nm
      have hnn := hg.nn
      have hnd := hg.nd
      have hsrt := hg.srt
      have hl200 := hg.len
      refine Gc.op_go fun N9 R9 B9 E9 hN9 hR9 => ?_
      walk_at "gc"
      rename_i S hS H2 e2 f2
      rw [hsp] at f2
      have f12 := e2 _ _ f1
      have e02 := e1.trans e2
      have hSp : p ≠ S := fun q => by rw [← q, f1] at hS; cases hS
      clear f1 e1 e2 hsp
      refine Gc.for_go (walk_list (K := K) (xs := (ys.map fun z => rowT z (f z)).map V.str)) (fun i σ' H9 => Hold (∃ v2 v3 kv, σ' = [some (.str (textT ys f)), some (.ref p), v2, v3] ∧ H9 p = some (.dK kv) ∧ PgK K H9 kv (ys.take i) (capF (ys.take i) f) ∧ H9 S = some (.lst ((ys.map fun z => rowT z (f z)).map V.str)) ∧ Ex H H9)) ⟨⟨_, _, [], rfl, f12, by rw [List.take_zero, capF_nil]; exact PgK.nil, f2, e02⟩⟩ (fun _ _ _ _ hp => by obtain ⟨⟨_, _, _, _, _, _, e, _⟩⟩ := hp; exact Evl.sq_of e) (fun R9 B9 i x9 σ' H5 H6 hi hp' hy => ?_) (fun σ' H5 hp' => ?_)
      · obtain ⟨⟨v2, v3, kv, rfl, hpp, hpk, hSS, he⟩⟩ := hp'
        obtain ⟨rfl, hxi⟩ := hy
        obtain ⟨z, hz, rfl⟩ : ∃ z, ys[i]? = some z ∧ x9 = .str (rowT z (f z)) := by
          rw [List.getElem?_map, List.getElem?_map] at hxi
          cases q : ys[i]? with
          | none => rw [q] at hxi; cases hxi
          | some z => rw [q] at hxi; cases hxi; exact ⟨z, rfl, rfl⟩
        have hzm : z ∈ ys := List.mem_of_getElem? hz
        have hiy : i < ys.length := (List.getElem?_eq_some_iff.mp hz).1
        have hn := hnm.nm z hzm
        have g1 : (rowT z (f z)).length + 2 ≤ sizeLine := Evl.sz_of (by have := rowT_len hn (hnn z) (hnm.lim z); omega)
        have hn1 := (hnn z).1
        have hn2 := (hnn z).2
        have hl1 := (hnm.lim z).1
        have hl2 := (hnm.lim z).2
        have w1 := (sgW_len (c := 43) hn1 hl1).2
        have w2 := (sgW_len (c := 45) hn2 hl2).2
        walk_at "gc"
        refine Gc.op_go fun N9 R9 B9 E9 hN9 hR9 => ?_
        walk_at "gc"
        rename_i W hW H7 e7 f7
        rw [split_row hn (hnn z)] at f7
        refine hN9 _ _ ?_
        clear hN9 hR9
        have a0 : atI ([z, sgW 43 (f z).1, sgW 45 (f z).2].map V.str) 0 = some (.str z) := atI_nat (j := 0) rfl
        have a1 : atI ([z, sgW 43 (f z).1, sgW 45 (f z).2].map V.str) 1 = some (.str (sgW 43 (f z).1)) := atI_nat (j := 1) rfl
        have a2 : atI ([z, sgW 43 (f z).1, sgW 45 (f z).2].map V.str) 2 = some (.str (sgW 45 (f z).2)) := atI_nat (j := 2) rfl
        refine Gc.op_go fun N9 R9 B9 E9 hN9 hR9 => ?_
        walk_at "gc"
        refine Gc.neI_f rfl ?_
        refine hN9 _ _ ?_
        clear hN9 hR9
        walk_at "gc"
        refine ⟨Nat.le_trans w1 (by decide), fun n q0 q1 q2 => ?_, fun q => absurd rfl (q _ hn1 hl1)⟩
        have e1 := q2 _ hn1 rfl
        subst e1
        walk_at "gc"
        refine ⟨Nat.le_trans w2 (by decide), fun n q0' q1' q2' => ?_, fun q => absurd rfl (q _ hn2 hl2)⟩
        have e2 := q2' _ hn2 rfl
        subst e2
        walk_at "gc"
        rename_i u hu H8 e8 f8
        have hpp8 := e8 _ _ (e7 _ _ hpp)
        refine And.intro (DPut.k (k := .inr z) hpp8 (Evl.sz_lt (by have := hpk.len; rw [List.length_take] at this; omega))) ?_
        have q := ((hpk.et (Et.of (e7.trans e8))).put (z := z) (Evl.st_of f8)).et (Et.dK (ys := putK kv (.inr z) (.ref u)) hpp8)
        rw [addK_take hnd hz, show ((f z).1, (f z).2) = f z from rfl, capF_take hz] at q
        exact ⟨⟨_, _, _, rfl, upd_same, q, (upd_ne (Ne.symm hSp)).trans (e8 _ _ (e7 _ _ hSS)), Ex.mut (he.trans (e7.trans e8)) hp0⟩⟩
      obtain ⟨⟨v2, v3, kv, rfl, hpp, hpk, hSS, he⟩⟩ := hp'
      rw [List.length_map, List.length_map, List.take_length, capF_all hg.out] at hpk
      refine hN9 _ _ ?_
      clear hN9 hR9
      have hao := hpk.allOk hnn hnm
      have hkl := hpk.len
      have hj := pageJ_ok hao.sz (by omega) hao
      refine Gc.op_go fun N9 R9 B9 E9 hN9 hR9 => ?_
      walk_at "gc"
      refine Or.inl ⟨p, kv, _, rfl, hpp, hj, fun H6 e6 => ?_⟩
      rw [decide_eq_true (by omega)]
      have hpp6 := e6 _ _ hpp
      have hpk6 := hpk.et (Et.of e6)
      have hnm' := hnm.nm
      have hlim := hnm.lim
      walk_at "gc"
      rename_i ys' H7 hperm hs7 e7
      have hye : ys' = ys := sorted_unique hs7 hsrt (hperm.nodup_iff.mpr hnd) hnd (fun z => hperm.mem_iff)
      subst hye
      walk_at "gc"
      refine hN9 _ _ ?_
      clear hN9 hR9
      refine Gc.end_go fun N9 R9 B9 E9 hN9 hR9 => ?_
      walk_at "gc"
      have e67 := e6.trans e7
      exact hR9 _ _ (k1 p kv H7 hp0 (he.trans e67) (e67 _ _ hpp) (hpk.et (Et.of e67)))
    · refine Gc.op_go fun N9 R9 B9 E9 hN9 hR9 => ?_
      walk_at "gc"
      rename_i p hp0 H1 e1 f1
      refine hN9 _ _ ?_
      clear hN9 hR9
      refine Gc.op_go fun N9 R9 B9 E9 hN9 hR9 => ?_
      walk_at "gc"
      refine Gc.ite_neg (decide_eq_false fun e => hn.1 (V.str.inj e)) ?_
      refine hN9 _ _ ?_
      clear hN9 hR9
      refine Gc.op_go fun N9 R9 B9 E9 hN9 hR9 => ?_
      walk_at "gc"
      rename_i S hS H2 e2 f2
      have f12 := e2 _ _ f1
      have e02 := e1.trans e2
      have hSp : p ≠ S := fun q => by rw [← q, f1] at hS; cases hS
      have hpl := parts_len hxl
      have hpm : ∀ w ∈ Txt.split x ", ", w.length ≤ x.length := fun w hw => part_len hw
      clear f1 e1 e2
      generalize Txt.split x ", " = ps at *
      refine Gc.for_go (walk_list (K := K) (xs := ps.map V.str)) (fun i σ' H9 => Hold (∃ v2 v3 kv ks f, σ' = [some (.str x), some (.ref p), v2, v3] ∧ H9 p = some (.dK kv) ∧ PgK K H9 kv ks f ∧ NN f ∧ (∀ z, (f z).1 < LIM ∧ (f z).2 < LIM) ∧ (∀ z ∈ ks, z.length ≤ 100000) ∧ Hold (ks.length ≤ i) ∧ H9 S = some (.lst (ps.map V.str)) ∧ Ex H H9)) ⟨⟨_, _, [], [], _, rfl, f12, PgK.nil, NN.zero, fun _ => ⟨lim_pos, lim_pos⟩, fun _ q => (by cases q), ⟨Nat.le_refl _⟩, f2, e02⟩⟩ (fun _ _ _ _ hp => by obtain ⟨⟨_, _, _, _, _, _, _, _, _, _, _, _, e, _⟩⟩ := hp; exact Evl.sq_of e) (fun R9 B9 i x9 σ' H5 H6 hi hp' hy => ?_) (fun σ' H5 hp' => ?_)
      · obtain ⟨⟨v2, v3, kv, ks, f, rfl, hpp, hpk, hnn, hlm, hzl, hkl, hSS, he⟩⟩ := hp'
        obtain ⟨rfl, hxi⟩ := hy
        obtain ⟨w, hw, rfl⟩ : ∃ z, ps[i]? = some z ∧ x9 = .str z := by
          rw [List.getElem?_map] at hxi
          cases q : ps[i]? with
          | none => rw [q] at hxi; cases hxi
          | some z => rw [q] at hxi; cases hxi; exact ⟨z, rfl, rfl⟩
        have hiy : i < ps.length := (List.getElem?_eq_some_iff.mp hw).1
        have hwl := hpm w (List.mem_of_getElem? hw)
        have g1 : w.length + 2 ≤ sizeLine := Evl.sz_of (by omega)
        have hkl' := hkl.it
        have hsz : kv.length ≤ 400 := by have := hpk.len; omega
        clear hkl'
        walk_at "gc"
        refine Gc.op_go fun N9 R9 B9 E9 hN9 hR9 => ?_
        walk_at "gc"
        rename_i W hW H7 e7 f7
        have hwm : ∀ u ∈ Txt.split w " ", u.length ≤ 600 := fun u hu => by have := part_len hu; omega
        generalize Txt.split w " " = ws at *
        refine hN9 _ _ ?_
        clear hN9 hR9
        refine Gc.op_go fun N9 R9 B9 E9 hN9 hR9 => ?_
        walk_at "gc"
        by_cases c3 : ws.length = 3
        · obtain ⟨wa, wb, wc, rfl⟩ : ∃ wa wb wc, ws = [wa, wb, wc] := by
            match ws, c3 with
            | [wa, wb, wc], _ => exact ⟨wa, wb, wc, rfl⟩
          have a0 : atI ([wa, wb, wc].map V.str) 0 = some (.str wa) := atI_nat (j := 0) rfl
          have a1 : atI ([wa, wb, wc].map V.str) 1 = some (.str wb) := atI_nat (j := 1) rfl
          have a2 : atI ([wa, wb, wc].map V.str) 2 = some (.str wc) := atI_nat (j := 2) rfl
          have la := hwm wa (by simp)
          have lb := hwm wb (by simp)
          have lc := hwm wc (by simp)
          refine Gc.neI_f rfl ?_
          refine hN9 _ _ ?_
          clear hN9 hR9
          walk_at "gc"
          refine ⟨fun n q0 q1 _ => ?_, fun _ H9 e9 => k2 _ (by walk_at "gc_ex")⟩
          walk_at "gc"
          refine ⟨fun n' q0' q1' _ => ?_, fun _ H9 e9 => k2 _ (by walk_at "gc_ex")⟩
          walk_at "gc"
          rename_i u hu H8 e8 f8
          have hpp8 := e8 _ _ (e7 _ _ hpp)
          refine And.intro (DPut.k (k := .inr wa) hpp8 (Evl.sz_lt (by omega))) ?_
          have q := ((hpk.et (Et.of (e7.trans e8))).put (z := wa) (Evl.st_of f8)).et (Et.dK (ys := putK kv (.inr wa) (.ref u)) hpp8)
          refine ⟨⟨_, _, _, _, _, rfl, upd_same, q, hnn.set q0 q0', fun z => ?_, fun z hz => ?_, ⟨?_⟩, (upd_ne (Ne.symm hSp)).trans (e8 _ _ (e7 _ _ hSS)), Ex.mut (he.trans (e7.trans e8)) hp0⟩⟩
          · by_cases c4 : z = wa
            · rw [c4, setF_same]; exact ⟨q1, q1'⟩
            · rw [setF_ne c4]; exact hlm z
          · rcases mem_addK.mp hz with c4 | c4
            · exact hzl z c4
            · rw [c4]; omega
          · have := len_addK (ks := ks) (z := wa)
            have := hkl.it
            omega
        · refine Gc.neI_t (fun e => c3 (by rw [List.length_map] at e; omega)) ?_
          exact k2 _ (by walk_at "gc_ex")
      obtain ⟨⟨v2, v3, kv, ks, f, rfl, hpp, hpk, hnn, hlm, hzl, hkl, hSS, he⟩⟩ := hp'
      have hkl2 : ks.length ≤ 300 := by have := hkl.it; rw [List.length_map] at this; omega
      refine hN9 _ _ ?_
      clear hN9 hR9
      refine Gc.op_go fun N9 R9 B9 E9 hN9 hR9 => ?_
      walk_at "gc"
      refine Or.inl ⟨p, kv, _, rfl, hpp, hpk.pageG hzl (by omega), fun H6 e6 => ?_⟩
      have hpt := hpk.pageT hlm
      generalize (decide (((kv.length : Nat) : Int) ≤ 200) && kv.all fun p => keyB p.1 && shF f p.1) = g at *
      cases g with
      | false =>
        walk_at "gc"
        exact k2 _ (he.trans e6)
      | true =>
        obtain ⟨hnm, hl⟩ := hpt rfl
        have hpp6 := e6 _ _ hpp
        have hpk6 := hpk.et (Et.of e6)
        have hnm' := hnm.nm
        walk_at "gc"
        rename_i ys' H7 hperm hs7 e7
        walk_at "gc"
        refine Gc.iteN_t (decide_eq_false fun e => hn.text hs7 (hperm.nodup_iff.mpr hpk.nd) (hnm.of fun z => hperm.mem_iff) hnn (fun z hz => hpk.out z fun q => hz (hperm.mem_iff.mpr q)) (by rw [hperm.length_eq]; exact hl) (V.str.inj e)) ?_
        exact k2 _ (he.trans (e6.trans e7))
/-- whole(i), i a whole number -/
def sp_whole : Sp := fun vs H Q _ => ∃ i : Int, vs = [.int i] ∧ Q (.bl true) H
theorem ok_l_whole (T : Tx K mg) : FnOk P w K mg base CX0 1 T.f_l_whole T.fd_l_whole ["_law_found"] (sp_whole) := by
  refine T.F_l_whole.ok sc_l_whole (fun vs H Q E h => ?_) (fun cdv A outer s H vs Q E hr h => ?_)
  · first | (obtain ⟨rfl, _⟩ := h; rfl) | (obtain ⟨_, rfl, _⟩ := h; rfl) | (obtain ⟨_, _, rfl, _⟩ := h; rfl) | (obtain ⟨_, _, _, rfl, _⟩ := h; rfl) | (obtain ⟨_, _, _, _, rfl, _⟩ := h; rfl) | (obtain ⟨_, _, _, _, _, rfl, _⟩ := h; rfl) | (obtain ⟨_, _, _, _, _, _, rfl, _⟩ := h; rfl) | (obtain ⟨_, _, _, _, _, _, _, rfl, _⟩ := h; rfl) | (obtain ⟨_, _, _, _, _, _, _, _, rfl, _⟩ := h; rfl)
  · obtain ⟨i, rfl, k⟩ := h
    refine ⟨_, (pss_one (ps_ret (pe_and (pe_callB call_isi (by rfl) T.n_isinstance PyProof.Rows.boot_isinstance (pa_cons (pv 0) (pa_cons (pe_bltn (v := .ty "int") (by rfl) T.n_int PyProof.Rows.boot_int rfl) pa_nil))) (pe_one (pe_not (pe_callB call_isi (by rfl) T.n_isinstance PyProof.Rows.boot_isinstance (pa_cons (pv 0) (pa_cons (pe_bltn (v := .ty "bool") (by rfl) T.n_bool PyProof.Rows.boot_bool rfl) pa_nil)))))))), ?_⟩
    walk_at "gc"
    exact k
/-- share(found, due): both are the pair (a, b) -/
def sp_share (K : PySem.W.Frag) : Sp := fun vs H Q _ => ∃ (t u : Addr) (a b : Int), vs = [.ref t, .ref u] ∧ ShAt K H t a b ∧ ShAt K H u a b ∧ Q (.bl true) H
theorem ok_l_share (T : Tx K mg) : FnOk P w K mg base CX0 2 T.f_l_share T.fd_l_share ["_law_found", "_law_due_here"] (sp_share K) := by
  refine T.F_l_share.ok sc_l_share (fun vs H Q E h => ?_) (fun cdv A outer s H vs Q E hr h => ?_)
  · first | (obtain ⟨rfl, _⟩ := h; rfl) | (obtain ⟨_, rfl, _⟩ := h; rfl) | (obtain ⟨_, _, rfl, _⟩ := h; rfl) | (obtain ⟨_, _, _, rfl, _⟩ := h; rfl) | (obtain ⟨_, _, _, _, rfl, _⟩ := h; rfl) | (obtain ⟨_, _, _, _, _, rfl, _⟩ := h; rfl) | (obtain ⟨_, _, _, _, _, _, rfl, _⟩ := h; rfl) | (obtain ⟨_, _, _, _, _, _, _, rfl, _⟩ := h; rfl) | (obtain ⟨_, _, _, _, _, _, _, _, rfl, _⟩ := h; rfl)
  · obtain ⟨t, u, a, b, rfl, h1, h2, k⟩ := h
    refine ⟨_, (pss_cons (ps_if (PW.pt (pw_or (pt_not (pt_val (pe_callB call_isi (by rfl) T.n_isinstance PyProof.Rows.boot_isinstance (pa_cons (pv 0) (pa_cons (pe_bltn (v := .ty "tuple") (by rfl) T.n_tuple PyProof.Rows.boot_tuple rfl) pa_nil))))) (pw_or1 (pt_cmpR op_ne (pe_callB call_len_seq (by rfl) T.n_len PySem.boot_len (pa_cons (pv 0) pa_nil)) pe_int (nomark _))))) (pss_one (ps_ret pe_bl)) pss_nil) (pss_one (ps_ret (pe_and (pe_call (ok_l_whole T) (hr.mono (by decide)) rfl T.m_l_whole T.F_l_whole.kp T.b_l_whole .nil pass0 (pa_cons (pe_ix ix_tup (pv 0) pe_int (fun _ _ => rfl)) pa_nil)) (pe_and (pe_call (ok_l_whole T) (hr.mono (by decide)) rfl T.m_l_whole T.F_l_whole.kp T.b_l_whole .nil pass0 (pa_cons (pe_ix ix_tup (pv 0) pe_int (fun _ _ => rfl)) pa_nil)) (pe_and (pe_cmpR op_eq (pe_ix ix_tup (pv 0) pe_int (fun _ _ => rfl)) (pe_ix ix_tup (pv 1) pe_int (fun _ _ => rfl)) (nomark _)) (pe_one (pe_cmpR op_eq (pe_ix ix_tup (pv 0) pe_int (fun _ _ => rfl)) (pe_ix ix_tup (pv 1) pe_int (fun _ _ => rfl)) (nomark _))))))))), ?_⟩
    walk_at "gc"
    show Q (V.bl (decide (V.int b = V.int b))) _
    rw [decide_eq_true rfl]
    exact k
/-- same(found, due): the same page, found in sorted order -/
def sp_same (K : PySem.W.Frag) : Sp := fun vs H Q _ => ∃ (d e : Addr) (kvs : List (Key × V)) (ks : List Str) (f : Sh) (kvs2 : List (Key × V)) (ls : List Str) (g : Sh), vs = [.ref d, .ref e] ∧ H d = some (.dK kvs) ∧ Rd H e (.dK kvs2) ∧ PgK K H kvs ks f ∧ PgK K H kvs2 ls g ∧
  PyProof.Rows.sortedS ks = true ∧ NmOk ks ∧ (∀ z, z ∈ ks ↔ z ∈ ls) ∧ (∀ z ∈ ks, f z = g z) ∧ ∀ H', Ex H H' → Q (.bl true) H'
theorem ok_l_same (T : Tx K mg) : FnOk P w K mg base CX0 3 T.f_l_same T.fd_l_same ["_law_found", "_law_due_here"] (sp_same K) := by
  refine T.F_l_same.ok sc_l_same (fun vs H Q E h => ?_) (fun cdv A outer s H vs Q E hr h => ?_)
  · first | (obtain ⟨rfl, _⟩ := h; rfl) | (obtain ⟨_, rfl, _⟩ := h; rfl) | (obtain ⟨_, _, rfl, _⟩ := h; rfl) | (obtain ⟨_, _, _, rfl, _⟩ := h; rfl) | (obtain ⟨_, _, _, _, rfl, _⟩ := h; rfl) | (obtain ⟨_, _, _, _, _, rfl, _⟩ := h; rfl) | (obtain ⟨_, _, _, _, _, _, rfl, _⟩ := h; rfl) | (obtain ⟨_, _, _, _, _, _, _, rfl, _⟩ := h; rfl) | (obtain ⟨_, _, _, _, _, _, _, _, rfl, _⟩ := h; rfl)
  · obtain ⟨d, e, kvs, ks, f, kvs2, ls, g, rfl, hd, he, hp, hq, hsort, hnm, hmem, hfg, k⟩ := h
    refine ⟨_, (pss_cons (ps_if (PW.pt (pw_or (pt_not (pt_val (pe_callB call_isi (by rfl) T.n_isinstance PyProof.Rows.boot_isinstance (pa_cons (pv 0) (pa_cons (pe_bltn (v := .ty "dict") (by rfl) T.n_dict PyProof.Rows.boot_dict rfl) pa_nil))))) (pw_or1 (pt_cmpR (op_neD hr.units) (pe_callTy (call_listD rfl) (by rfl) T.n_list PyProof.Rows.boot_list (pa_cons (pv 0) pa_nil)) (pe_callB (cr_sortedDA rfl) (by rfl) T.n_sorted PyProof.Rows.boot_sorted (pa_cons (pv 1) pa_nil)) (nomark _))))) (pss_one (ps_ret pe_bl)) pss_nil) (pss_cons (ps_lock (ps_for PassesOwn.never rfl (pi_keys (pv 0)) (pg_name (i := 2) sc_l_same.nd rfl (Or.inl rfl)) (pss_one (ps_if (PW.pt (pw_or (pt_not (pt_val (pe_callB call_isi (by rfl) T.n_isinstance PyProof.Rows.boot_isinstance (pa_cons (pv 2) (pa_cons (pe_bltn (v := .ty "str") (by rfl) T.n_str PyProof.Rows.boot_str rfl) pa_nil))))) (pw_or1 (pt_not (pt_val (pe_call (ok_l_share T) (hr.mono (by decide)) rfl T.m_l_share T.F_l_share.kp T.b_l_share .nil pass0 (pa_cons (pe_dget (hu_of hr) (pv 0) (pv 2) (fun _ _ => rfl)) (pa_cons (pe_dget (hu_of hr) (pv 1) (pv 2) (fun _ _ => rfl)) pa_nil)))))))) (pss_one (ps_ret pe_bl)) pss_nil)))) (pss_one (ps_ret pe_bl)))), ?_⟩
    have hk2 := hq.keys
    walk_at "gc"
    rename_i l1 hl1 H1 e1 f1 ys hperm hys l2 hl2 H2 e2 f2
    have hyk : ys = ks := sorted_unique hys hsort (hperm.nodup_iff.mpr hq.nd) hp.nd (fun z => hperm.mem_iff.trans (hmem z).symm)
    rw [hp.kst] at f1
    rw [hyk] at f2
    refine Gc.neS_go hnm (by walk_at "gc_at") (by walk_at "gc_at") ?_
    walk_at "gc"
    have hd2 : H2 d = some (.dK kvs) := by walk_at "gc_at"
    have e02 : Ex H H2 := by walk_at "gc_ex"
    refine Gc.lock_go hd2 (fun od H3 h3 er ul oth => ?_)
    walk_at "gc"
    refine Or.inl ⟨kvs, h3, ?_⟩
    refine for_it walk_keys (fun i σ' H' => Hold (∃ v, σ' = [some (.ref d), some (.ref e), v] ∧ H' = H3)) ⟨⟨_, rfl, rfl⟩⟩ (fun _ _ _ _ hp => by obtain ⟨⟨_, _, e⟩⟩ := hp; rw [e]; exact h3) (fun i x σ' H4 H5 hi hp' hy => ?_) (fun σ' H4 hp' => ?_)
    · obtain ⟨⟨v, rfl, rfl⟩⟩ := hp'
      obtain ⟨rfl, key, y, hky, rfl⟩ := hy
      obtain ⟨z, rfl, hz, hzm⟩ := hp.key_at hky
      obtain ⟨t, ht, hs⟩ := hp.there hzm
      obtain ⟨t2, ht2, hs2⟩ := hq.there ((hmem z).mp hzm)
      rw [← hfg z hzm] at hs2
      have s1 := er.sqT (Er.sqT (Er.of e02) hs)
      have s2 := er.sqT (Er.sqT (Er.of e02) hs2)
      have he3 := er.rd ((Er.of e02).rd he)
      walk_at "gc"
      refine ⟨Gc.dget_k (k := .inr z) (.inr ⟨_, h3⟩) ht, ?_⟩
      walk_at "gc"
      refine ⟨Gc.dget_k (k := .inr z) he3 ht2, ?_⟩
      walk_at "gc"
      exact ⟨⟨_, rfl, rfl⟩⟩
    · obtain ⟨⟨v, rfl, rfl⟩⟩ := hp'
      walk_at "gc"
      exact k _ (e02.trans (ul _ (Ex.refl _)))
/-- cell_at(script, k) -/
def sp_cell_at (K : PySem.W.Frag) : Sp := fun vs H Q _ => ∃ (a : Addr) (ns : List Int) (j : Int), vs = [.ref a, .int j] ∧ SqL K H a (ns.map V.int) ∧ 0 ≤ j ∧ Q (.int (cellI ns j)) H
theorem ok_l_cell_at (T : Tx K mg) : FnOk P w K mg base CX0 1 T.f_l_cell_at T.fd_l_cell_at ["_law_script", "_law_k"] (sp_cell_at K) := by
  refine T.F_l_cell_at.ok sc_l_cell_at (fun vs H Q E h => ?_) (fun cdv A outer s H vs Q E hr h => ?_)
  · first | (obtain ⟨rfl, _⟩ := h; rfl) | (obtain ⟨_, rfl, _⟩ := h; rfl) | (obtain ⟨_, _, rfl, _⟩ := h; rfl) | (obtain ⟨_, _, _, rfl, _⟩ := h; rfl) | (obtain ⟨_, _, _, _, rfl, _⟩ := h; rfl) | (obtain ⟨_, _, _, _, _, rfl, _⟩ := h; rfl) | (obtain ⟨_, _, _, _, _, _, rfl, _⟩ := h; rfl) | (obtain ⟨_, _, _, _, _, _, _, rfl, _⟩ := h; rfl) | (obtain ⟨_, _, _, _, _, _, _, _, rfl, _⟩ := h; rfl)
  · obtain ⟨a, ns, j, rfl, hs, h0, k⟩ := h
    refine ⟨_, (pss_cons (ps_if (pt_cmpR op_lt (pv 1) (pe_callB call_len_seq (by rfl) T.n_len PySem.boot_len (pa_cons (pv 0) pa_nil)) (nomark _)) (pss_one (ps_ret (pe_ix ix_list (pv 0) (pv 1) (fun _ _ => rfl)))) pss_nil) (pss_one (ps_ret pe_int))), ?_⟩
    walk_at "gc"
    rw [List.length_map]
    refine Gc.lt_2 (fun hc => ?_) (fun hc => ?_)
    · have hj : j.toNat < ns.length := by omega
      have ej : j = ((j.toNat : Nat) : Int) := by omega
      refine ⟨_, rfl, _, rfl, _, _, _, _, rfl, rfl, hs, (by rw [ej]; exact atI_nat (by rw [List.getElem?_map, List.getElem?_eq_getElem hj]; rfl)), ?_⟩
      have e : cellI ns j = ns[j.toNat] := by unfold cellI; simp [hj]
      rw [e] at k
      exact k
    · have hj : ns.length ≤ j.toNat := by omega
      have e : cellI ns j = 0 := by unfold cellI; simp [hj]
      rw [e] at k
      exact k
/-- name_by(c): some name -/
def sp_name_by : Sp := fun vs H Q _ => ∃ c : Int, vs = [.int c] ∧ ∀ z : Str, nameB z = true → ∀ H', Ex H H' → Q (.str z) H'
theorem ok_l_name_by (T : Tx K mg) : FnOk P w K mg base CX0 1 T.f_l_name_by T.fd_l_name_by ["_law_cell"] (sp_name_by) := by
  refine T.F_l_name_by.ok sc_l_name_by (fun vs H Q E h => ?_) (fun cdv A outer s H vs Q E hr h => ?_)
  · first | (obtain ⟨rfl, _⟩ := h; rfl) | (obtain ⟨_, rfl, _⟩ := h; rfl) | (obtain ⟨_, _, rfl, _⟩ := h; rfl) | (obtain ⟨_, _, _, rfl, _⟩ := h; rfl) | (obtain ⟨_, _, _, _, rfl, _⟩ := h; rfl) | (obtain ⟨_, _, _, _, _, rfl, _⟩ := h; rfl) | (obtain ⟨_, _, _, _, _, _, rfl, _⟩ := h; rfl) | (obtain ⟨_, _, _, _, _, _, _, rfl, _⟩ := h; rfl) | (obtain ⟨_, _, _, _, _, _, _, _, rfl, _⟩ := h; rfl)
  · obtain ⟨c, rfl, k⟩ := h
    refine ⟨_, (pss_cons (ps_set (i := 1) sc_l_name_by.nd rfl (Or.inr rfl) pe_str) (pss_cons (ps_set (i := 2) sc_l_name_by.nd rfl (Or.inr rfl) (pe_op op_add pe_int (pe_op op_mod (pe_op op_fdiv (pv 0) pe_int) pe_int))) (pss_cons (ps_setLc (i := 3) (own := [("_law_k", 4)]) (g := gName 4) (tt := tYes) rfl sc_l_name_by.nd rfl rfl (sw_true rfl rfl rfl (by decide +kernel)) (pi_range1 rfl T.n_range (pa_cons (pe_op op_add pe_int (pe_op op_mod (pv 0) pe_int)) pa_nil)) (blkOk_by (own := [("_law_k", 4)]) (N := ["_law_cell", "_law_signs", "_law_step", "_law_word", "_law_k"]) (sc := defScope s_l_name_by) (by decide +kernel)) (fun _ _ _ _ _ => pg_name (i := 4) sc_l_name_by.nd rfl (Or.inl rfl)) (fun _ _ _ _ _ => pts_nil) (fun _ _ _ _ _ => (pe_ix ix_str (pv 1) (pe_op op_mod (pe_op op_add (pe_op op_fdiv (pv 0) pe_int) (pe_op op_mul (pv 4) (pv 2))) pe_int) (fun _ _ => rfl)))) (pss_cut (ps_if (pt_cmpR op_eq (pe_op op_mod (pe_op op_fdiv (pv 0) pe_int) pe_int) pe_int (nomark _)) (pss_one (ps_asg (pe_ix ix_str (pv 1) (pe_op op_mod (pe_op op_fdiv (pv 0) pe_int) pe_int) (fun _ _ => rfl)) (pg_sub (pv 3) (pe_op op_mod (pe_op op_fdiv (pv 0) pe_int) (pe_callB call_len_seq (by rfl) T.n_len PySem.boot_len (pa_cons (pv 3) pa_nil))) set_list))) pss_nil) (pss_one (ps_ret (pe_join pe_str (pv 3)))))))), ?_⟩
    have m8 := mod_in (a := c) (b := 8) (by decide)
    walk_at "gc"
    rename_i D hD
    refine Gc.lc_go (walk_range (lo := 0) (n := (1 + c % 8).toNat)) (fun i acc _ => Signs (fun x => x ∈ LET.cps.toList) acc ∧ acc.length = i) (by omega) hD (fun _ _ => trivial) (fun _ _ _ _ h => h) (fun _ _ => ⟨Signs.nil, rfl⟩) (fun i x acc H2 Kk Nn hi hy e hD2 p hK hN => ?_) (fun acc H2 e hD2 p => ?_)
    · have ex : x = .int (0 + (i : Int)) := hy
      subst ex
      have m := mod_in (a := c / 8 + (0 + (i : Int)) * (1 + c / 208 % 25)) (b := 26) (by decide)
      obtain ⟨s, hs, hmem⟩ := atI_in (xs := LET.cps.toList) m.1 m.2
      walk_at "gc"
      exact hK _ _ (Ex.refl _) ⟨p.1.one hmem, by rw [List.length_append, List.length_singleton, p.2]⟩
    refine ⟨fun σ' H' => Hold (∃ xs v1 v2 v3, σ' = [v1, v2, v3, some (.ref D), none] ∧ Signs (fun x => x ∈ LET.cps.toList) xs ∧ xs.length = (1 + c % 8).toNat ∧ H' D = some (.lst xs) ∧ Ex H H'), ?_, fun σ' H' hm => ?_⟩
    · walk_at "gc"
      refine Gc.eqI_2 (fun c1 => ?_) (fun c1 => ?_)
      · have m1 := mod_in (a := c / 83200) (b := 26) (by decide)
        have m2 := mod_in (a := c / 10400) (b := ((acc.length : Nat) : Int)) (by have := p.2; omega)
        obtain ⟨s, hs, hmem⟩ := atI_in (xs := LET.cps.toList) m1.1 m1.2
        have q := ixN_in (n := acc.length) m2.1 m2.2
        walk_at "gc"
        exact ⟨⟨_, _, _, _, rfl, p.1.put hmem _, by rw [List.length_set]; exact p.2, upd_same, Ex.mut e hD⟩⟩
      · exact ⟨⟨_, _, _, _, rfl, p.1, p.2, hD2, e⟩⟩
    obtain ⟨⟨xs, v1, v2, v3, rfl, hS, hl, hx, he⟩⟩ := hm
    obtain ⟨cs, rfl, hc⟩ := hS
    rw [List.length_map, List.length_map] at hl
    have hsz := sg_size cs (by omega)
    walk_at "gc"
    rw [join_sg]
    exact k ⟨cs.toArray⟩ (nameB_sg cs (by omega) (by omega) hc) _ he
/-- a row -/
def sp_row_by : Sp := fun vs H Q _ => ∃ n m : Int, vs = [.int n, .int m] ∧ ∀ x H', Str.length x ≤ 140 → Ex H H' → Q (.str x) H'
theorem ok_l_row_by (T : Tx K mg) : FnOk P w K mg base CX0 2 T.f_l_row_by T.fd_l_row_by ["_law_name", "_law_numbers"] (sp_row_by) := by
  refine T.F_l_row_by.ok sc_l_row_by (fun vs H Q E h => ?_) (fun cdv A outer s H vs Q E hr h => ?_)
  · first | (obtain ⟨rfl, _⟩ := h; rfl) | (obtain ⟨_, rfl, _⟩ := h; rfl) | (obtain ⟨_, _, rfl, _⟩ := h; rfl) | (obtain ⟨_, _, _, rfl, _⟩ := h; rfl) | (obtain ⟨_, _, _, _, rfl, _⟩ := h; rfl) | (obtain ⟨_, _, _, _, _, rfl, _⟩ := h; rfl) | (obtain ⟨_, _, _, _, _, _, rfl, _⟩ := h; rfl) | (obtain ⟨_, _, _, _, _, _, _, rfl, _⟩ := h; rfl) | (obtain ⟨_, _, _, _, _, _, _, _, rfl, _⟩ := h; rfl)
  · obtain ⟨n, m, rfl, k⟩ := h
    refine ⟨_, (pss_cut (ps_set (i := 2) sc_l_row_by.nd rfl (Or.inl rfl) (pe_lst pa_nil)) (pss_cut (ps_for PassesOwn.never rfl (pi_range1 rfl T.n_range (pa_cons pe_int pa_nil)) (pg_name (i := 3) sc_l_row_by.nd rfl (Or.inl rfl)) (pss_cut (ps_set (i := 4) sc_l_row_by.nd rfl (Or.inl rfl) (pv 1)) (pss_cut (ps_if (pt_cmpR op_eq (pv 3) pe_int (nomark _)) (pss_one (ps_set (i := 4) sc_l_row_by.nd rfl (Or.inl rfl) (pe_op op_fdiv (pv 1) pe_int))) pss_nil) (pss_cut (ps_set (i := 5) sc_l_row_by.nd rfl (Or.inl rfl) (pe_op op_mod (pe_op op_fdiv (pv 4) pe_int) pe_int)) (pss_cut (ps_if (pt_cmpR op_eq (pe_op op_mod (pv 4) pe_int) pe_int (nomark _)) (pss_one (ps_set (i := 5) sc_l_row_by.nd rfl (Or.inl rfl) pe_int)) pss_nil) (pss_cut (ps_if (pt_cmpR op_eq (pe_op op_mod (pv 4) pe_int) pe_int (nomark _)) (pss_one (ps_set (i := 5) sc_l_row_by.nd rfl (Or.inl rfl) (pe_op op_add (pe_op op_sub (pe_op op_pow pe_int pe_int) pe_int) (pe_op op_mod (pe_op op_fdiv (pv 4) pe_int) pe_int)))) pss_nil) (pss_one (ps_expr (pe_bm PySem.F.plainAttrs_list PySem.F.slot_list_append PySem.F.type_list_append mt_append (pv 2) (pa_cons (pe_op op_add_str (pe_op op_mul_str pe_str (pe_callTy call_int1 (by rfl) T.n_int PyProof.Rows.boot_int (pa_cons (pe_and (pe_cmpR op_eq (pe_op op_mod (pv 4) pe_int) pe_int (nomark _)) (pe_one (pe_cmpR op_eq (pe_op op_mod (pe_op op_fdiv (pv 4) pe_int) pe_int) pe_int (nomark _)))) pa_nil))) (pe_callTy call_str_int (by rfl) T.n_str PyProof.Rows.boot_str (pa_cons (pv 5) pa_nil))) pa_nil)))))))))) (pss_cut (ps_set (i := 6) sc_l_row_by.nd rfl (Or.inl rfl) (pe_call (ok_l_name_by T) (hr.mono (by decide)) rfl T.m_l_name_by T.F_l_name_by.kp T.b_l_name_by .nil pass0 (pa_cons (pv 0) pa_nil))) (pss_cut (ps_if (pt_cmpR op_eq (pe_op op_mod (pe_op op_fdiv (pv 0) pe_int) pe_int) pe_int (nomark _)) (pss_one (ps_set (i := 6) sc_l_row_by.nd rfl (Or.inl rfl) (pe_op op_add_str (pv 6) pe_str))) pss_nil) (pss_one (ps_ret (pe_op op_add_str (pe_op op_add_str (pe_op op_add_str (pe_op op_add_str (pv 6) pe_str) (pe_ix ix_list (pv 2) pe_int (fun _ _ => rfl))) pe_str) (pe_ix ix_list (pv 2) pe_int (fun _ _ => rfl))))))))), ?_⟩
    refine Gc.op_go fun N9 R9 B9 E9 hN9 hR9 => ?_
    walk_at "gc"
    rename_i F hF H1 e1 f1
    refine hN9 _ _ ?_
    clear hN9 hR9
    refine Gc.op_go fun N9 R9 B9 E9 hN9 hR9 => ?_
    walk_at "gc"
    refine Gc.for_go (walk_range (lo := 0) (n := 2)) (fun i σ' H9 => Hold (∃ v3 v4 v5 v6 xs, σ' = [some (.int n), some (.int m), some (.ref F), v3, v4, v5, v6] ∧ H9 F = some (.lst (List.map V.str xs)) ∧ xs.length = i ∧ (∀ x ∈ xs, x.length ≤ 62) ∧ Ex H H9)) ⟨⟨_, _, _, _, [], rfl, f1, rfl, fun x q => (by cases q), e1⟩⟩ (fun _ _ _ _ _ => trivial) (fun R9 B9 i x9 σ' H5 H6 hi hp' hy => ?_) (fun σ' H5 hp' => ?_)
    · obtain ⟨⟨v3, v4, v5, v6, xs, rfl, hFF, hxl, hxs, he⟩⟩ := hp'
      obtain ⟨rfl, rfl⟩ := hy
      walk_at "gc"
      refine Gc.op_go fun N9 R9 B9 E9 hN9 hR9 => ?_
      walk_at "gc"
      refine hN9 _ _ ?_
      clear hN9 hR9
      refine Gc.cut_go (fun σ' H9 => Hold (∃ c : Int, σ' = [some (.int n), some (.int m), some (.ref F), some (.int (0 + (i : Int))), some (.int c), v5, v6] ∧ H9 = H6)) (fun R9 B9 E9 => ?_) (fun σ' H9 hm => ?_)
      · walk_at "gc"
        refine Gc.eqI_2 (fun c1 => ?_) (fun c1 => ?_)
        · walk_at "gc"
          exact ⟨⟨_, rfl, rfl⟩⟩
        · exact ⟨⟨_, rfl, rfl⟩⟩
      obtain ⟨⟨c, rfl, rfl⟩⟩ := hm
      have m1 := mod_in (a := c / 6) (b := 1000) (by decide)
      have m2 := mod_in (a := c / 6) (b := 2) (by decide)
      have hL : (1000 : Int) ≤ LIM := by decide
      have hLe : (10 : Int) ^ (60 : Int).toNat = LIM := rfl
      refine Gc.op_go fun N9 R9 B9 E9 hN9 hR9 => ?_
      walk_at "gc"
      refine hN9 _ _ ?_
      clear hN9 hR9
      refine Gc.cut_go (fun σ' H7 => Hold (∃ b : Int, σ' = [some (.int n), some (.int m), some (.ref F), some (.int (0 + (i : Int))), some (.int c), some (.int b), v6] ∧ H7 = H9 ∧ 0 ≤ b ∧ b ≤ LIM)) (fun R9 B9 E9 => ?_) (fun σ' H7 hm => ?_)
      · walk_at "gc"
        refine Gc.eqI_2 (fun c1 => ?_) (fun c1 => ?_)
        · walk_at "gc"
          exact ⟨⟨_, rfl, rfl, by decide, by decide⟩⟩
        · exact ⟨⟨_, rfl, rfl, by omega, by omega⟩⟩
      obtain ⟨⟨b, rfl, rfl, b0, b1⟩⟩ := hm
      refine Gc.cut_go (fun σ' H8 => Hold (∃ b : Int, σ' = [some (.int n), some (.int m), some (.ref F), some (.int (0 + (i : Int))), some (.int c), some (.int b), v6] ∧ H8 = H7 ∧ 0 ≤ b ∧ b ≤ LIM)) (fun R9 B9 E9 => ?_) (fun σ' H8 hm => ?_)
      · walk_at "gc"
        refine Gc.eqI_2 (fun c1 => ?_) (fun c1 => ?_)
        · walk_at "gc"
          exact ⟨⟨_, rfl, rfl, by rw [hLe]; omega, by rw [hLe]; omega⟩⟩
        · exact ⟨⟨_, rfl, rfl, b0, b1⟩⟩
      obtain ⟨⟨b', rfl, rfl, b0', b1'⟩⟩ := hm
      clear b0 b1 m1 m2
      have lg := log_ok1 b0' b1'
      have hnl := numT_len1 b0' b1'
      walk_at "gc"
      refine Gc.and_ev (decide (c / 6 % 3 = 0)) (fun _ Q' q => by walk_at "gc"; exact Gc.bl_eq (decide_eq_decide.mpr ⟨fun e => V.int.inj e, fun e => congrArg V.int e⟩) q) ?_
      generalize (_ && decide (c / 6 % 3 = 0)) = bb
      walk_at "gc"
      refine Or.inr ⟨bb, rfl, ?_⟩
      walk_at "gc"
      obtain ⟨o, ho, hol⟩ : ∃ o : Str, (if (if bb = true then (1 : Int) else 0) = 0 then ("" : Str) else ("0" : Str)) = o ∧ o.length ≤ 1 := ⟨_, rfl, by cases bb <;> decide +kernel⟩
      rw [ho]
      have hfl : xs.length ≤ 5 := by omega
      refine And.intro (Evl.sz_of (by show _ + (numT b').length ≤ 100000; omega)) ?_
      walk_at "gc"
      refine And.intro (Evl.sz_lt (by rw [List.length_map]; omega)) ?_
      refine ⟨⟨_, _, _, _, xs ++ [o ++ numT b'], rfl, by rw [upd_same, List.map_append]; rfl, by rw [List.length_append]; show _ + 1 = _ + 1; omega, fun y hy => ?_, Ex.mut he hF⟩⟩
      rcases List.mem_append.mp hy with hy | hy
      · exact hxs y hy
      · rw [List.mem_singleton.mp hy, app_len]; omega
    obtain ⟨⟨v3, v4, v5, v6, xs, rfl, hFF, hxl, hxs, he⟩⟩ := hp'
    refine hN9 _ _ ?_
    clear hN9 hR9
    obtain ⟨xa, xb, rfl⟩ : ∃ xa xb, xs = [xa, xb] := by
      match xs, hxl with
      | [xa, xb], _ => exact ⟨xa, xb, rfl⟩
    have la := hxs xa (by simp)
    have lb := hxs xb (by simp)
    refine Gc.op_go fun N9 R9 B9 E9 hN9 hR9 => ?_
    walk_at "gc"
    rename_i z hz H7 e7
    refine hN9 _ _ ?_
    clear hN9 hR9
    have hz8 := ((nameB_iff z).mp hz).2.1
    refine Gc.cut_go (fun σ' H9 => Hold (∃ z : Str, σ' = [some (.int n), some (.int m), some (.ref F), v3, v4, v5, some (.str z)] ∧ H9 = H7 ∧ z.length ≤ 9)) (fun R9 B9 E9 => ?_) (fun σ' H9 hm => ?_)
    · have g : z.length + ("q" : Str).length ≤ sizeLine := Evl.sz_of (by show _ + 1 ≤ 100000; omega)
      walk_at "gc"
      refine Gc.eqI_2 (fun c1 => ?_) (fun c1 => ?_)
      · walk_at "gc"
        exact ⟨⟨_, rfl, rfl, by rw [app_len]; show _ + 1 ≤ 9; omega⟩⟩
      · exact ⟨⟨_, rfl, rfl, by omega⟩⟩
    obtain ⟨⟨z9, rfl, rfl, hz9⟩⟩ := hm
    have hF7 := e7 _ _ hFF
    have a0 : atI ([xa, xb].map V.str) 0 = some (.str xa) := atI_nat (j := 0) rfl
    have a1 : atI ([xa, xb].map V.str) 1 = some (.str xb) := atI_nat (j := 1) rfl
    have g1 : z9.length + (" +" : Str).length ≤ sizeLine := Evl.sz_of (by show _ + 2 ≤ 100000; omega)
    have g2 : (z9 ++ (" +" : Str)).length + xa.length ≤ sizeLine := Evl.sz_of (by rw [app_len]; show _ + 2 + _ ≤ 100000; omega)
    have g3 : ((z9 ++ (" +" : Str)) ++ xa).length + (" -" : Str).length ≤ sizeLine := Evl.sz_of (by rw [app_len, app_len]; show _ + 2 + _ + 2 ≤ 100000; omega)
    have g4 : (((z9 ++ (" +" : Str)) ++ xa) ++ (" -" : Str)).length + xb.length ≤ sizeLine := Evl.sz_of (by rw [app_len, app_len, app_len]; show _ + 2 + _ + 2 + _ ≤ 100000; omega)
    refine Gc.end_go fun N9 R9 B9 E9 hN9 hR9 => ?_
    walk_at "gc"
    refine hR9 _ _ (k _ _ ?_ (he.trans e7))
    rw [app_len, app_len, app_len, app_len]
    show _ + 2 + _ + 2 + _ ≤ 140
    omega
/-- kind(error), error the exception in hand -/
def sp_kind (K : PySem.W.Frag) (c1 c2 c3 c4 c5 : Addr) : Addr → Value → Option Addr → Sp := fun a c dx vs H Q _ => ∃ (D : Addr) (b1 b2 b3 b4 b5 : Bool) (r : Str), c = .ref D ∧ dx = none ∧ vs = [.ref a] ∧ ExcC K D ∧ PySem.W.kitOne K (.ref D) (.ref c1) = some b1 ∧ PySem.W.kitOne K (.ref D) (.ref c2) = some b2 ∧ PySem.W.kitOne K (.ref D) (.ref c3) = some b3 ∧
  PySem.W.kitOne K (.ref D) (.ref c4) = some b4 ∧ PySem.W.kitOne K (.ref D) (.ref c5) = some b5 ∧ PySem.W.kitOne K (.ref D) (.type "ValueError") = some true ∧ KindOf b1 b2 b3 b4 b5 r ∧ ∀ H', Ex H H' → Q (.str r) H'
theorem ok_l_kind (T : Tx K mg) : FnE P w K mg base 1 T.f_l_kind T.fd_l_kind ["_law_error"] (sp_kind K T.k_NoName T.k_NoAmount T.k_NoPage T.k_Forged T.k_NoNote) := by
  refine fnE_of T.F_l_kind sc_l_kind (fun a c dx vs H Q E h => ?_) (fun cdv A outer s H vs Q a oe c dx hot hz hr h => ?_)
  · obtain ⟨_, _, _, _, _, _, _, _, _, rfl, _⟩ := h; rfl
  · obtain ⟨D, b1, b2, b3, b4, b5, r, rfl, rfl, rfl, ec, h1, h2, h3, h4, h5, h6, hk, k⟩ := h
    have hf : ∃ vs, oe.data = .fields vs := by obtain ⟨_, vs, hv, _⟩ := hot; exact ⟨vs, hv⟩
    refine ⟨_, (pss_cons (ps_set (i := 1) sc_l_kind.nd rfl (Or.inl rfl) (pe_lst pa_nil)) (pss_cons (ps_if (pt_val (pe_callB (call_isP ec List.mem_cons_self hz hf) (by rfl) T.n_isinstance PyProof.Rows.boot_isinstance (pa_cons (pv 0) (pa_cons (pe_glob (v := .ref T.k_NoName) rfl T.g_NoName rfl) pa_nil)))) (pss_one (ps_expr (pe_bm PySem.F.plainAttrs_list PySem.F.slot_list_append PySem.F.type_list_append mt_append (pv 1) (pa_cons pe_str pa_nil)))) pss_nil) (pss_cons (ps_if (pt_val (pe_callB (call_isP ec List.mem_cons_self hz hf) (by rfl) T.n_isinstance PyProof.Rows.boot_isinstance (pa_cons (pv 0) (pa_cons (pe_glob (v := .ref T.k_NoAmount) rfl T.g_NoAmount rfl) pa_nil)))) (pss_one (ps_expr (pe_bm PySem.F.plainAttrs_list PySem.F.slot_list_append PySem.F.type_list_append mt_append (pv 1) (pa_cons pe_str pa_nil)))) pss_nil) (pss_cons (ps_if (pt_val (pe_callB (call_isP ec List.mem_cons_self hz hf) (by rfl) T.n_isinstance PyProof.Rows.boot_isinstance (pa_cons (pv 0) (pa_cons (pe_glob (v := .ref T.k_NoPage) rfl T.g_NoPage rfl) pa_nil)))) (pss_one (ps_expr (pe_bm PySem.F.plainAttrs_list PySem.F.slot_list_append PySem.F.type_list_append mt_append (pv 1) (pa_cons pe_str pa_nil)))) pss_nil) (pss_cons (ps_if (pt_val (pe_callB (call_isP ec List.mem_cons_self hz hf) (by rfl) T.n_isinstance PyProof.Rows.boot_isinstance (pa_cons (pv 0) (pa_cons (pe_glob (v := .ref T.k_Forged) rfl T.g_Forged rfl) pa_nil)))) (pss_one (ps_expr (pe_bm PySem.F.plainAttrs_list PySem.F.slot_list_append PySem.F.type_list_append mt_append (pv 1) (pa_cons pe_str pa_nil)))) pss_nil) (pss_cons (ps_if (pt_val (pe_callB (call_isP ec List.mem_cons_self hz hf) (by rfl) T.n_isinstance PyProof.Rows.boot_isinstance (pa_cons (pv 0) (pa_cons (pe_glob (v := .ref T.k_NoNote) rfl T.g_NoNote rfl) pa_nil)))) (pss_one (ps_expr (pe_bm PySem.F.plainAttrs_list PySem.F.slot_list_append PySem.F.type_list_append mt_append (pv 1) (pa_cons pe_str pa_nil)))) pss_nil) (pss_cons (ps_if (PW.pt (pw_or (pt_cmpR op_ne (pe_callB call_len_seq (by rfl) T.n_len PySem.boot_len (pa_cons (pv 1) pa_nil)) pe_int (nomark _)) (pw_or1 (pt_not (pt_val (pe_callB (call_isP ec List.mem_cons_self hz hf) (by rfl) T.n_isinstance PyProof.Rows.boot_isinstance (pa_cons (pv 0) (pa_cons (pe_bltn (v := .ty "ValueError") (by rfl) T.n_ValueError L2.boot_ValueError rfl) pa_nil)))))))) (pss_one (ps_ret pe_str)) pss_nil) (pss_one (ps_ret (pe_ix ix_list (pv 1) pe_int (fun _ _ => rfl))))))))))), ?_⟩
    cases hk <;> (walk_at "gc"; rename_i p hp H1 e1 f1; exact k _ (Ex.mut e1 hp))
theorem ok_law_k10 (T : Tx K mg) : FnOk P w K mg base CX0 5 T.f_law_k10 T.fd_law_k10 ["_law_script"] (sp_law K) := by
  refine T.F_law_k10.ok sc_law_k10 (fun vs H Q E h => ?_) (fun cdv A outer s H vs Q E hr h => ?_)
  · first | (obtain ⟨rfl, _⟩ := h; rfl) | (obtain ⟨_, rfl, _⟩ := h; rfl) | (obtain ⟨_, _, rfl, _⟩ := h; rfl) | (obtain ⟨_, _, _, rfl, _⟩ := h; rfl) | (obtain ⟨_, _, _, _, rfl, _⟩ := h; rfl) | (obtain ⟨_, _, _, _, _, rfl, _⟩ := h; rfl) | (obtain ⟨_, _, _, _, _, _, rfl, _⟩ := h; rfl) | (obtain ⟨_, _, _, _, _, _, _, rfl, _⟩ := h; rfl) | (obtain ⟨_, _, _, _, _, _, _, _, rfl, _⟩ := h; rfl)
  · obtain ⟨a, ns, rfl, hs, hl, k⟩ := h
    refine ⟨_, (pss_cut (ps_set (i := 1) sc_law_k10.nd rfl (Or.inl rfl) (pe_lst pa_nil)) (pss_cut (ps_for PassesOwn.never rfl (pi_range1 rfl T.n_range (pa_cons (pe_op op_mod (pe_call (ok_l_cell_at T) (hr.mono (by decide)) rfl T.m_l_cell_at T.F_l_cell_at.kp T.b_l_cell_at .nil pass0 (pa_cons (pv 0) (pa_cons pe_int pa_nil))) pe_int) pa_nil)) (pg_name (i := 2) sc_law_k10.nd rfl (Or.inl rfl)) (pss_one (ps_expr (pe_bm PySem.F.plainAttrs_list PySem.F.slot_list_append PySem.F.type_list_append mt_append (pv 1) (pa_cons (pe_call (ok_l_row_by T) (hr.mono (by decide)) rfl T.m_l_row_by T.F_l_row_by.kp T.b_l_row_by .nil pass0 (pa_cons (pe_call (ok_l_cell_at T) (hr.mono (by decide)) rfl T.m_l_cell_at T.F_l_cell_at.kp T.b_l_cell_at .nil pass0 (pa_cons (pv 0) (pa_cons (pe_op op_add pe_int (pv 2)) pa_nil))) (pa_cons (pe_call (ok_l_cell_at T) (hr.mono (by decide)) rfl T.m_l_cell_at T.F_l_cell_at.kp T.b_l_cell_at .nil pass0 (pa_cons (pv 0) (pa_cons (pe_op op_add pe_int (pv 2)) pa_nil))) pa_nil))) pa_nil))))) (pss_cut (ps_if (pt_cmpR op_gt (pe_op op_mod (pe_op op_fdiv (pe_call (ok_l_cell_at T) (hr.mono (by decide)) rfl T.m_l_cell_at T.F_l_cell_at.kp T.b_l_cell_at .nil pass0 (pa_cons (pv 0) (pa_cons pe_int pa_nil))) pe_int) pe_int) pe_int (nomark _)) (pss_one (ps_set (i := 1) sc_law_k10.nd rfl (Or.inl rfl) (pe_callB (cr_sortedSA rfl) (by rfl) T.n_sorted PyProof.Rows.boot_sorted (pa_cons (pv 1) pa_nil)))) pss_nil) (pss_cut (ps_set (i := 3) sc_law_k10.nd rfl (Or.inl rfl) (pe_join pe_str (pv 1))) (pss_cut (ps_if (pt_cmpR op_eq (pv 3) pe_str (nomark _)) (pss_one (ps_set (i := 3) sc_law_k10.nd rfl (Or.inl rfl) pe_str)) pss_nil) (pss_cut (ps_if (pt_cmpR op_gt (pe_op op_mod (pe_call (ok_l_cell_at T) (hr.mono (by decide)) rfl T.m_l_cell_at T.F_l_cell_at.kp T.b_l_cell_at .nil pass0 (pa_cons (pv 0) (pa_cons pe_int pa_nil))) pe_int) pe_int (nomark _)) (pss_one (ps_set (i := 3) sc_law_k10.nd rfl (Or.inl rfl) (pe_call (ok_l_bent T) (hr.mono (by decide)) rfl T.m_l_bent T.F_l_bent.kp T.b_l_bent .nil pass0 (pa_cons (pv 3) (pa_cons (pe_op op_fdiv (pe_call (ok_l_cell_at T) (hr.mono (by decide)) rfl T.m_l_cell_at T.F_l_cell_at.kp T.b_l_cell_at .nil pass0 (pa_cons (pv 0) (pa_cons pe_int pa_nil))) pe_int) pa_nil))))) pss_nil) (pss_cut (ps_set (i := 4) sc_law_k10.nd rfl (Or.inl rfl) (pe_call (ok_l_due T) (hr.mono (by decide)) rfl T.m_l_due T.F_l_due.kp T.b_l_due .nil pass0 (pa_cons (pv 3) pa_nil))) (pss_cut (L2N.ps_try_as (i := 6) rfl rfl sc_law_k10.nd rfl rfl ⟨rfl, by decide, .inl T.g_GossipError⟩ takesN0 (fun W pn xe tk _ => (pss_one (ps_set (i := 5) sc_law_k10.nd rfl (Or.inl rfl) (pe_callS (ok_read10 T) (hr.mono (by decide)) rfl T.m_read10 T.F_read10.kp T.b_read10 (fun σ => L2N.passAt tk σ) (pa_cons (pv 3) pa_nil))))) (fun a oe cls dx pn hz hf => (pss_one (ps_ret (pe_and (pe_cmpR op_isN (pv 4) pe_non (nomark _)) (pe_one (pe_cmpR op_eq (pe_callE (ok_l_kind T) (roomMark hr (by decide)) (hotMark hz hf) hz.zc List.mem_cons_self rfl T.m_l_kind T.F_l_kind.kp T.b_l_kind (pa_cons (pv 6) pa_nil)) pe_str (nomark _)))))))) (pss_one (ps_ret (pe_and (pe_cmpR op_notN (pv 4) pe_non (nomark _)) (pe_one (pe_call (ok_l_same T) (hr.mono (by decide)) rfl T.m_l_same T.F_l_same.kp T.b_l_same .nil pass0 (pa_cons (pv 5) (pa_cons (pv 4) pa_nil))))))))))))))), ?_⟩
    have em1 := T.em_NoNote
    have ec1 := T.ec_NoNote
    have i11 := T.ki_NoNote_NoName
    have i12 := T.ki_NoNote_NoAmount
    have i13 := T.ki_NoNote_NoPage
    have i14 := T.ki_NoNote_Forged
    have i15 := T.ki_NoNote_NoNote
    have i16 := T.kv_NoNote
    have kk1 := KindOf.note
    have m4 := mod_in (a := cellI ns 0) (b := 4) (by decide)
    refine Gc.op_go fun N9 R9 B9 E9 hN9 hR9 => ?_
    walk_at "gc"
    rename_i R hR H1 e1 f1
    refine hN9 _ _ ?_
    clear hN9 hR9
    refine Gc.op_go fun N9 R9 B9 E9 hN9 hR9 => ?_
    walk_at "gc"
    refine Gc.for_go (walk_range (lo := 0) (n := (cellI ns 0 % 4).toNat)) (fun i σ' H9 => Hold (∃ v2 xs, σ' = [some (.ref a), some (.ref R), v2, none, none, none, none] ∧ H9 R = some (.lst (List.map V.str xs)) ∧ xs.length = i ∧ (∀ x ∈ xs, x.length ≤ 140) ∧ Ex H H9)) ⟨⟨_, [], rfl, f1, rfl, fun x q => (by cases q), e1⟩⟩ (fun _ _ _ _ _ => trivial) (fun R9 B9 i x9 σ' H5 H6 hi hp' hy => ?_) (fun σ' H5 hp' => ?_)
    · obtain ⟨⟨v2, xs, rfl, hRR, hxl, hxs, he⟩⟩ := hp'
      obtain ⟨rfl, rfl⟩ := hy
      have hs6 := Er.sqL (Er.of he) hs
      walk_at "gc"
      rename_i y H7 hy7 e7
      refine And.intro (Evl.sz_lt (by rw [List.length_map]; omega)) ?_
      refine ⟨⟨_, xs ++ [y], rfl, by rw [upd_same, List.map_append]; rfl, by rw [List.length_append]; show _ + 1 = _ + 1; omega, fun y hy => ?_, Ex.mut (he.trans e7) hR⟩⟩
      rcases List.mem_append.mp hy with hy | hy
      · exact hxs y hy
      · rw [List.mem_singleton.mp hy]; exact hy7
    obtain ⟨⟨v2, xs, rfl, hRR, hxl, hxs, he⟩⟩ := hp'
    have hs5 := Er.sqL (Er.of he) hs
    refine hN9 _ _ ?_
    clear hN9 hR9
    refine Gc.cut_go (fun σ' H9 => Hold (∃ R xs, σ' = [some (.ref a), some (.ref R), v2, none, none, none, none] ∧ H9 R = some (.lst (List.map V.str xs)) ∧ xs.length ≤ 3 ∧ (∀ x ∈ xs, x.length ≤ 140) ∧ Ex H H9)) (fun R9 B9 E9 => ?_) (fun σ' H9 hm => ?_)
    · walk_at "gc"
      refine Gc.lt_2 (fun c1 => ?_) (fun c1 => ?_)
      · walk_at "gc"
        rename_i ys hperm hys l2 hl2 H3 e3 f3
        exact ⟨⟨l2, ys, rfl, f3, by rw [hperm.length_eq]; omega, fun x hx => hxs x (hperm.mem_iff.mp hx), he.trans e3⟩⟩
      · exact ⟨⟨R, xs, rfl, hRR, by omega, hxs, he⟩⟩
    obtain ⟨⟨R2, xs2, rfl, hRR2, hxl2, hxs2, he2⟩⟩ := hm
    clear hRR hxl hxs hs5 he
    have hs9 := Er.sqL (Er.of he2) hs
    have hsum : (xs2.map (·.length)).sum + xs2.length * (", " : Str).length ≤ 16777216 := by
      have := sum_le (m := 140) (xs := xs2) hxs2
      show _ + xs2.length * 2 ≤ 16777216
      omega
    have hjl := joinS_len (m := 140) hxs2
    refine Gc.op_go fun N9 R9 B9 E9 hN9 hR9 => ?_
    walk_at "gc"
    refine hN9 _ _ ?_
    clear hN9 hR9
    have hjl2 : (Txt.join ", " xs2).length ≤ 500 := by omega
    generalize Txt.join ", " xs2 = x0 at *
    refine Gc.cut_go (fun σ' H' => Hold (∃ x : Str, σ' = [some (.ref a), some (.ref R2), v2, some (.str x), none, none, none] ∧ H' = H9 ∧ x.length ≤ 500)) (fun R9 B9 E9 => ?_) (fun σ' H' hm => ?_)
    · walk_at "gc"
      by_cases c1 : x0 = ""
      · refine Gc.ite_pos (decide_eq_true (congrArg V.str c1)) ?_
        walk_at "gc"
        exact ⟨⟨_, rfl, rfl, by decide +kernel⟩⟩
      · refine Gc.ite_neg (decide_eq_false fun e => c1 (V.str.inj e)) ?_
        exact ⟨⟨_, rfl, rfl, hjl2⟩⟩
    obtain ⟨⟨x1, rfl, rfl, hx1⟩⟩ := hm
    refine Gc.cut_go (fun σ' H9 => Hold (∃ x : Str, σ' = [some (.ref a), some (.ref R2), v2, some (.str x), none, none, none] ∧ Ex H H9 ∧ x.length ≤ 501)) (fun R9 B9 E9 => ?_) (fun σ' H9 hm => ?_)
    · walk_at "gc"
      refine Gc.lt_2 (fun c1 => ?_) (fun c1 => ?_)
      · walk_at "gc"
        rename_i y H7 hy7 e7
        exact ⟨⟨_, rfl, he2.trans e7, hy7⟩⟩
      · exact ⟨⟨_, rfl, he2, by omega⟩⟩
    obtain ⟨⟨x, rfl, he3, hx⟩⟩ := hm
    have hx590 : x.length ≤ 590 := by omega
    clear hRR2 hxs2 he2 hs9 hjl hsum hxl2 hs hx m4
    rcases kind_text x with e0 | ⟨ys, f, hg⟩ | hn
    · refine Gc.op_go fun N9 R9 B9 E9 hN9 hR9 => ?_
      walk_at "gc"
      refine Or.inl ⟨e0, fun p H4 hp4 e4 f4 => ?_⟩
      walk_at "gc"
      refine hN9 _ _ ?_
      clear hN9 hR9
      refine Gc.op_goE fun N9 R9 B9 E9 hN9 hR9 => ?_
      walk_at "gc"
      refine Or.inl ⟨e0, fun p2 H5 hp5 e5 f5 => ?_⟩
      walk_at "gc"
      refine hN9 _ _ ?_
      clear hN9 hR9
      have f45 := e5 _ _ f4
      have hq : PgK K H5 [] [] (fun _ => (0, 0)) := PgK.nil
      refine Gc.end_go fun N9 R9 B9 E9 hN9 hR9 => ?_
      walk_at "gc"
      exact ⟨NmOk.nil, fun z => Iff.rfl, fun z hz => rfl, fun H12 e12 => hR9 _ _ (k _)⟩
    · have hsrt := hg.srt
      refine Gc.op_go fun N9 R9 B9 E9 hN9 hR9 => ?_
      walk_at "gc"
      refine Or.inr (Or.inl ⟨ys, f, hg, fun p kvs H4 hp4 e4 f4 q4 => ?_⟩)
      walk_at "gc"
      refine hN9 _ _ ?_
      clear hN9 hR9
      refine Gc.op_goE fun N9 R9 B9 E9 hN9 hR9 => ?_
      walk_at "gc"
      refine Or.inr (Or.inl ⟨ys, f, hg, fun p2 kvs2 H5 hp5 e5 f5 q5 => ?_⟩)
      walk_at "gc"
      refine hN9 _ _ ?_
      clear hN9 hR9
      have f45 := e5 _ _ f4
      have q45 := q4.et (Et.of e5)
      refine Gc.end_go fun N9 R9 B9 E9 hN9 hR9 => ?_
      walk_at "gc"
      exact ⟨hg.nm.nm, fun z => Iff.rfl, fun z hz => rfl, fun H12 e12 => hR9 _ _ (k _)⟩
    · refine Gc.op_go fun N9 R9 B9 E9 hN9 hR9 => ?_
      walk_at "gc"
      refine Or.inr (Or.inr ⟨hn, fun H4 e4 => ?_⟩)
      walk_at "gc"
      refine hN9 _ _ ?_
      clear hN9 hR9
      refine Gc.op_goE fun N9 R9 B9 E9 hN9 hR9 => ?_
      walk_at "gc"
      refine Or.inr (Or.inr ⟨hn, fun H5 e5 => ?_⟩)
      walk_at "gc"
      refine ⟨true, em1, fun _ ea hea => ?_, fun q => nomatch q⟩
      walk_at "gc"
      exact hR9 _ _ (k _)
end
section
theorem all_mk {l : PySem.W.OpenLaw} {w : World} {K : PySem.W.Frag} {h : Heap} {mg : Str → Option Value} {fa : Addr} (X : K.In h) (G : h.Ns mainGlobals mg) (hfa : mg "law" = some (.ref fa))
    {f_l_number_of f_l_named f_l_due f_l_sign_by f_l_bent f_number_of10 f_is_name f_is_whole f_is_share f_is_page f_written f_read10 f_l_whole f_l_share f_l_same f_l_cell_at f_l_name_by f_l_row_by f_l_kind f_law_k10 k_Forged k_GossipError k_NoAmount k_NoName k_NoNote k_NoPage : Addr}
    {t_FIGURES t_LETTERS t_LIMIT t_LONGEST t_MOST_FIGURES t_MOST_NAMES : Tok}
    {od_l_number_of an_l_number_of od_l_named an_l_named od_l_due an_l_due od_l_sign_by an_l_sign_by od_l_bent an_l_bent od_number_of10 an_number_of10 od_is_name an_is_name od_is_whole an_is_whole od_is_share an_is_share od_is_page an_is_page od_written an_written od_read10 an_read10 od_l_whole an_l_whole od_l_share an_l_share od_l_same an_l_same od_l_cell_at an_l_cell_at od_l_name_by an_l_name_by od_l_row_by an_l_row_by od_l_kind an_l_kind od_law_k10 an_law_k10 : Option Addr} {sl_l_number_of sl_l_named sl_l_due sl_l_sign_by sl_l_bent sl_number_of10 sl_is_name sl_is_whole sl_is_share sl_is_page sl_written sl_read10 sl_l_whole sl_l_share sl_l_same sl_l_cell_at sl_l_name_by sl_l_row_by sl_l_kind sl_law_k10 : Array (Option Value)} {oc_l_number_of kV_l_number_of dc_l_number_of pm_l_number_of cd_l_number_of ct_l_number_of oc_l_named kV_l_named dc_l_named pm_l_named cd_l_named ct_l_named oc_l_due kV_l_due dc_l_due pm_l_due cd_l_due ct_l_due oc_l_sign_by kV_l_sign_by dc_l_sign_by pm_l_sign_by cd_l_sign_by ct_l_sign_by oc_l_bent kV_l_bent dc_l_bent pm_l_bent cd_l_bent ct_l_bent oc_number_of10 kV_number_of10 dc_number_of10 pm_number_of10 cd_number_of10 ct_number_of10 oc_is_name kV_is_name dc_is_name pm_is_name cd_is_name ct_is_name oc_is_whole kV_is_whole dc_is_whole pm_is_whole cd_is_whole ct_is_whole oc_is_share kV_is_share dc_is_share pm_is_share cd_is_share ct_is_share oc_is_page kV_is_page dc_is_page pm_is_page cd_is_page ct_is_page oc_written kV_written dc_written pm_written cd_written ct_written oc_read10 kV_read10 dc_read10 pm_read10 cd_read10 ct_read10 oc_l_whole kV_l_whole dc_l_whole pm_l_whole cd_l_whole ct_l_whole oc_l_share kV_l_share dc_l_share pm_l_share cd_l_share ct_l_share oc_l_same kV_l_same dc_l_same pm_l_same cd_l_same ct_l_same oc_l_cell_at kV_l_cell_at dc_l_cell_at pm_l_cell_at cd_l_cell_at ct_l_cell_at oc_l_name_by kV_l_name_by dc_l_name_by pm_l_name_by cd_l_name_by ct_l_name_by oc_l_row_by kV_l_row_by dc_l_row_by pm_l_row_by cd_l_row_by ct_l_row_by oc_l_kind kV_l_kind dc_l_kind pm_l_kind cd_l_kind ct_l_kind oc_law_k10 kV_law_k10 dc_law_k10 pm_law_k10 cd_law_k10 ct_law_k10 : Value}
    (aC_Forged : PySem.W.nsIn K mainGlobals "Forged" = some (some (.ref k_Forged)))
    (aC_GossipError : PySem.W.nsIn K mainGlobals "GossipError" = some (some (.ref k_GossipError)))
    (aC_NoAmount : PySem.W.nsIn K mainGlobals "NoAmount" = some (some (.ref k_NoAmount)))
    (aC_NoName : PySem.W.nsIn K mainGlobals "NoName" = some (some (.ref k_NoName)))
    (aC_NoNote : PySem.W.nsIn K mainGlobals "NoNote" = some (some (.ref k_NoNote)))
    (aC_NoPage : PySem.W.nsIn K mainGlobals "NoPage" = some (some (.ref k_NoPage)))
    (a_l_number_of : PySem.W.nsIn K mainGlobals "_law_number_of" = some (some (.ref f_l_number_of)))
    (l_l_number_of : K.lookup f_l_number_of = some ⟨oc_l_number_of, od_l_number_of, .func (PySem.W.fnOf "_law_number_of" "_law_number_of" (defArgs s_l_number_of) (defBody s_l_number_of) (defScope s_l_number_of) .none kV_l_number_of dc_l_number_of pm_l_number_of an_l_number_of cd_l_number_of ct_l_number_of), sl_l_number_of⟩)
    (cI_l_number_of : PySem.W.codeIn K cd_l_number_of "_law_number_of" = true)
    (kk_l_number_of : PySem.W.keepIn K (.ref f_l_number_of) = true)
    (a_l_named : PySem.W.nsIn K mainGlobals "_law_named" = some (some (.ref f_l_named)))
    (l_l_named : K.lookup f_l_named = some ⟨oc_l_named, od_l_named, .func (PySem.W.fnOf "_law_named" "_law_named" (defArgs s_l_named) (defBody s_l_named) (defScope s_l_named) .none kV_l_named dc_l_named pm_l_named an_l_named cd_l_named ct_l_named), sl_l_named⟩)
    (cI_l_named : PySem.W.codeIn K cd_l_named "_law_named" = true)
    (kk_l_named : PySem.W.keepIn K (.ref f_l_named) = true)
    (a_l_due : PySem.W.nsIn K mainGlobals "_law_due" = some (some (.ref f_l_due)))
    (l_l_due : K.lookup f_l_due = some ⟨oc_l_due, od_l_due, .func (PySem.W.fnOf "_law_due" "_law_due" (defArgs s_l_due) (defBody s_l_due) (defScope s_l_due) .none kV_l_due dc_l_due pm_l_due an_l_due cd_l_due ct_l_due), sl_l_due⟩)
    (cI_l_due : PySem.W.codeIn K cd_l_due "_law_due" = true)
    (kk_l_due : PySem.W.keepIn K (.ref f_l_due) = true)
    (a_l_sign_by : PySem.W.nsIn K mainGlobals "_law_sign_by" = some (some (.ref f_l_sign_by)))
    (l_l_sign_by : K.lookup f_l_sign_by = some ⟨oc_l_sign_by, od_l_sign_by, .func (PySem.W.fnOf "_law_sign_by" "_law_sign_by" (defArgs s_l_sign_by) (defBody s_l_sign_by) (defScope s_l_sign_by) .none kV_l_sign_by dc_l_sign_by pm_l_sign_by an_l_sign_by cd_l_sign_by ct_l_sign_by), sl_l_sign_by⟩)
    (cI_l_sign_by : PySem.W.codeIn K cd_l_sign_by "_law_sign_by" = true)
    (kk_l_sign_by : PySem.W.keepIn K (.ref f_l_sign_by) = true)
    (a_l_bent : PySem.W.nsIn K mainGlobals "_law_bent" = some (some (.ref f_l_bent)))
    (l_l_bent : K.lookup f_l_bent = some ⟨oc_l_bent, od_l_bent, .func (PySem.W.fnOf "_law_bent" "_law_bent" (defArgs s_l_bent) (defBody s_l_bent) (defScope s_l_bent) .none kV_l_bent dc_l_bent pm_l_bent an_l_bent cd_l_bent ct_l_bent), sl_l_bent⟩)
    (cI_l_bent : PySem.W.codeIn K cd_l_bent "_law_bent" = true)
    (kk_l_bent : PySem.W.keepIn K (.ref f_l_bent) = true)
    (a_number_of10 : PySem.W.nsIn K mainGlobals "number_of" = some (some (.ref f_number_of10)))
    (l_number_of10 : K.lookup f_number_of10 = some ⟨oc_number_of10, od_number_of10, .func (PySem.W.fnOf "number_of" "number_of" (defArgs s_number_of10) (defBody s_number_of10) (defScope s_number_of10) .none kV_number_of10 dc_number_of10 pm_number_of10 an_number_of10 cd_number_of10 ct_number_of10), sl_number_of10⟩)
    (cI_number_of10 : PySem.W.codeIn K cd_number_of10 "number_of" = true)
    (kk_number_of10 : PySem.W.keepIn K (.ref f_number_of10) = true)
    (a_is_name : PySem.W.nsIn K mainGlobals "is_name" = some (some (.ref f_is_name)))
    (l_is_name : K.lookup f_is_name = some ⟨oc_is_name, od_is_name, .func (PySem.W.fnOf "is_name" "is_name" (defArgs s_is_name) (defBody s_is_name) (defScope s_is_name) .none kV_is_name dc_is_name pm_is_name an_is_name cd_is_name ct_is_name), sl_is_name⟩)
    (cI_is_name : PySem.W.codeIn K cd_is_name "is_name" = true)
    (kk_is_name : PySem.W.keepIn K (.ref f_is_name) = true)
    (a_is_whole : PySem.W.nsIn K mainGlobals "is_whole" = some (some (.ref f_is_whole)))
    (l_is_whole : K.lookup f_is_whole = some ⟨oc_is_whole, od_is_whole, .func (PySem.W.fnOf "is_whole" "is_whole" (defArgs s_is_whole) (defBody s_is_whole) (defScope s_is_whole) .none kV_is_whole dc_is_whole pm_is_whole an_is_whole cd_is_whole ct_is_whole), sl_is_whole⟩)
    (cI_is_whole : PySem.W.codeIn K cd_is_whole "is_whole" = true)
    (kk_is_whole : PySem.W.keepIn K (.ref f_is_whole) = true)
    (a_is_share : PySem.W.nsIn K mainGlobals "is_share" = some (some (.ref f_is_share)))
    (l_is_share : K.lookup f_is_share = some ⟨oc_is_share, od_is_share, .func (PySem.W.fnOf "is_share" "is_share" (defArgs s_is_share) (defBody s_is_share) (defScope s_is_share) .none kV_is_share dc_is_share pm_is_share an_is_share cd_is_share ct_is_share), sl_is_share⟩)
    (cI_is_share : PySem.W.codeIn K cd_is_share "is_share" = true)
    (kk_is_share : PySem.W.keepIn K (.ref f_is_share) = true)
    (a_is_page : PySem.W.nsIn K mainGlobals "is_page" = some (some (.ref f_is_page)))
    (l_is_page : K.lookup f_is_page = some ⟨oc_is_page, od_is_page, .func (PySem.W.fnOf "is_page" "is_page" (defArgs s_is_page) (defBody s_is_page) (defScope s_is_page) .none kV_is_page dc_is_page pm_is_page an_is_page cd_is_page ct_is_page), sl_is_page⟩)
    (cI_is_page : PySem.W.codeIn K cd_is_page "is_page" = true)
    (kk_is_page : PySem.W.keepIn K (.ref f_is_page) = true)
    (a_written : PySem.W.nsIn K mainGlobals "written" = some (some (.ref f_written)))
    (l_written : K.lookup f_written = some ⟨oc_written, od_written, .func (PySem.W.fnOf "written" "written" (defArgs s_written) (defBody s_written) (defScope s_written) .none kV_written dc_written pm_written an_written cd_written ct_written), sl_written⟩)
    (cI_written : PySem.W.codeIn K cd_written "written" = true)
    (kk_written : PySem.W.keepIn K (.ref f_written) = true)
    (a_read10 : PySem.W.nsIn K mainGlobals "read" = some (some (.ref f_read10)))
    (l_read10 : K.lookup f_read10 = some ⟨oc_read10, od_read10, .func (PySem.W.fnOf "read" "read" (defArgs s_read10) (defBody s_read10) (defScope s_read10) .none kV_read10 dc_read10 pm_read10 an_read10 cd_read10 ct_read10), sl_read10⟩)
    (cI_read10 : PySem.W.codeIn K cd_read10 "read" = true)
    (kk_read10 : PySem.W.keepIn K (.ref f_read10) = true)
    (a_l_whole : PySem.W.nsIn K mainGlobals "_law_whole" = some (some (.ref f_l_whole)))
    (l_l_whole : K.lookup f_l_whole = some ⟨oc_l_whole, od_l_whole, .func (PySem.W.fnOf "_law_whole" "_law_whole" (defArgs s_l_whole) (defBody s_l_whole) (defScope s_l_whole) .none kV_l_whole dc_l_whole pm_l_whole an_l_whole cd_l_whole ct_l_whole), sl_l_whole⟩)
    (cI_l_whole : PySem.W.codeIn K cd_l_whole "_law_whole" = true)
    (kk_l_whole : PySem.W.keepIn K (.ref f_l_whole) = true)
    (a_l_share : PySem.W.nsIn K mainGlobals "_law_share" = some (some (.ref f_l_share)))
    (l_l_share : K.lookup f_l_share = some ⟨oc_l_share, od_l_share, .func (PySem.W.fnOf "_law_share" "_law_share" (defArgs s_l_share) (defBody s_l_share) (defScope s_l_share) .none kV_l_share dc_l_share pm_l_share an_l_share cd_l_share ct_l_share), sl_l_share⟩)
    (cI_l_share : PySem.W.codeIn K cd_l_share "_law_share" = true)
    (kk_l_share : PySem.W.keepIn K (.ref f_l_share) = true)
    (a_l_same : PySem.W.nsIn K mainGlobals "_law_same" = some (some (.ref f_l_same)))
    (l_l_same : K.lookup f_l_same = some ⟨oc_l_same, od_l_same, .func (PySem.W.fnOf "_law_same" "_law_same" (defArgs s_l_same) (defBody s_l_same) (defScope s_l_same) .none kV_l_same dc_l_same pm_l_same an_l_same cd_l_same ct_l_same), sl_l_same⟩)
    (cI_l_same : PySem.W.codeIn K cd_l_same "_law_same" = true)
    (kk_l_same : PySem.W.keepIn K (.ref f_l_same) = true)
    (a_l_cell_at : PySem.W.nsIn K mainGlobals "_law_cell_at" = some (some (.ref f_l_cell_at)))
    (l_l_cell_at : K.lookup f_l_cell_at = some ⟨oc_l_cell_at, od_l_cell_at, .func (PySem.W.fnOf "_law_cell_at" "_law_cell_at" (defArgs s_l_cell_at) (defBody s_l_cell_at) (defScope s_l_cell_at) .none kV_l_cell_at dc_l_cell_at pm_l_cell_at an_l_cell_at cd_l_cell_at ct_l_cell_at), sl_l_cell_at⟩)
    (cI_l_cell_at : PySem.W.codeIn K cd_l_cell_at "_law_cell_at" = true)
    (kk_l_cell_at : PySem.W.keepIn K (.ref f_l_cell_at) = true)
    (a_l_name_by : PySem.W.nsIn K mainGlobals "_law_name_by" = some (some (.ref f_l_name_by)))
    (l_l_name_by : K.lookup f_l_name_by = some ⟨oc_l_name_by, od_l_name_by, .func (PySem.W.fnOf "_law_name_by" "_law_name_by" (defArgs s_l_name_by) (defBody s_l_name_by) (defScope s_l_name_by) .none kV_l_name_by dc_l_name_by pm_l_name_by an_l_name_by cd_l_name_by ct_l_name_by), sl_l_name_by⟩)
    (cI_l_name_by : PySem.W.codeIn K cd_l_name_by "_law_name_by" = true)
    (kk_l_name_by : PySem.W.keepIn K (.ref f_l_name_by) = true)
    (a_l_row_by : PySem.W.nsIn K mainGlobals "_law_row_by" = some (some (.ref f_l_row_by)))
    (l_l_row_by : K.lookup f_l_row_by = some ⟨oc_l_row_by, od_l_row_by, .func (PySem.W.fnOf "_law_row_by" "_law_row_by" (defArgs s_l_row_by) (defBody s_l_row_by) (defScope s_l_row_by) .none kV_l_row_by dc_l_row_by pm_l_row_by an_l_row_by cd_l_row_by ct_l_row_by), sl_l_row_by⟩)
    (cI_l_row_by : PySem.W.codeIn K cd_l_row_by "_law_row_by" = true)
    (kk_l_row_by : PySem.W.keepIn K (.ref f_l_row_by) = true)
    (a_l_kind : PySem.W.nsIn K mainGlobals "_law_kind" = some (some (.ref f_l_kind)))
    (l_l_kind : K.lookup f_l_kind = some ⟨oc_l_kind, od_l_kind, .func (PySem.W.fnOf "_law_kind" "_law_kind" (defArgs s_l_kind) (defBody s_l_kind) (defScope s_l_kind) .none kV_l_kind dc_l_kind pm_l_kind an_l_kind cd_l_kind ct_l_kind), sl_l_kind⟩)
    (cI_l_kind : PySem.W.codeIn K cd_l_kind "_law_kind" = true)
    (kk_l_kind : PySem.W.keepIn K (.ref f_l_kind) = true)
    (a_law_k10 : PySem.W.nsIn K mainGlobals "law" = some (some (.ref f_law_k10)))
    (l_law_k10 : K.lookup f_law_k10 = some ⟨oc_law_k10, od_law_k10, .func (PySem.W.fnOf "law" "law" (defArgs s_law_k10) (defBody s_law_k10) (defScope s_law_k10) .none kV_law_k10 dc_law_k10 pm_law_k10 an_law_k10 cd_law_k10 ct_law_k10), sl_law_k10⟩)
    (cI_law_k10 : PySem.W.codeIn K cd_law_k10 "law" = true)
    (kk_law_k10 : PySem.W.keepIn K (.ref f_law_k10) = true)
    (be_GossipError : PySem.W.subIn K (.ref k_GossipError) (.type "BaseException") = some true)
    (ty_GossipError : PySem.W.typeIn K (.ref k_GossipError) = some (.type "type"))
    (hd_GossipError : PySem.W.hasDictIn K k_GossipError = true)
    (x_NoNote : PySem.W.excIn K k_NoNote [.type "ValueError", .type "Exception", .type "BaseException", .type "object"] "ValueError.__new__" = true)
    (kp_NoNote : PySem.W.keepIn K (.ref k_NoNote) = true)
    (be_NoNote : PySem.W.subIn K (.ref k_NoNote) (.type "BaseException") = some true)
    (ty_NoNote : PySem.W.typeIn K (.ref k_NoNote) = some (.type "type"))
    (hd_NoNote : PySem.W.hasDictIn K k_NoNote = true)
    (sg_NoNote : PySem.W.subIn K (.ref k_NoNote) (.ref k_GossipError) = some true)
    (ga_NoNote : PySem.W.findIn K (.ref k_NoNote) "__getattribute__" = some (some (.builtin "BaseException.__getattribute__")))
    (gk_NoNote : PySem.W.findIn K (.ref k_NoNote) "__getattr__" = some none)
    (gc_NoNote : PySem.W.findIn K (.ref k_NoNote) "__class__" = some (some (.builtin "object.__class__")))
    (gn_NoNote : PySem.W.specialIn K (.builtin "object.__class__") "__get__" = some (some (.builtin "getset_descriptor.__get__")))
    (gt_NoNote : PySem.W.takesIn K (.builtin "object.__class__") = some true)
    (gm_NoNote : PySem.W.mroIn K k_NoNote (.type "object") = some true)
    (ki_NoNote_NoName : PySem.W.kitOne K (.ref k_NoNote) (.ref k_NoName) = some false)
    (ki_NoNote_NoAmount : PySem.W.kitOne K (.ref k_NoNote) (.ref k_NoAmount) = some false)
    (ki_NoNote_NoPage : PySem.W.kitOne K (.ref k_NoNote) (.ref k_NoPage) = some false)
    (ki_NoNote_Forged : PySem.W.kitOne K (.ref k_NoNote) (.ref k_Forged) = some false)
    (ki_NoNote_NoNote : PySem.W.kitOne K (.ref k_NoNote) (.ref k_NoNote) = some true)
    (kv_NoNote : PySem.W.kitOne K (.ref k_NoNote) (.type "ValueError") = some true)
    (ac_FIGURES : PySem.W.nsIn K mainGlobals "FIGURES" = some (some (.str "0123456789" t_FIGURES)))
    (ac_LETTERS : PySem.W.nsIn K mainGlobals "LETTERS" = some (some (.str "abcdefghijklmnopqrstuvwxyz" t_LETTERS)))
    (ac_LIMIT : PySem.W.nsIn K mainGlobals "LIMIT" = some (some (.int 1000000000000000000000000000000000000000000000000000000000000 t_LIMIT)))
    (ac_LONGEST : PySem.W.nsIn K mainGlobals "LONGEST" = some (some (.int 8 t_LONGEST)))
    (ac_MOST_FIGURES : PySem.W.nsIn K mainGlobals "MOST_FIGURES" = some (some (.int 60 t_MOST_FIGURES)))
    (ac_MOST_NAMES : PySem.W.nsIn K mainGlobals "MOST_NAMES" = some (some (.int 200 t_MOST_NAMES)))
    (z_ValueError : PySem.W.nsIn K mainGlobals "ValueError" = some none)
    (z_all : PySem.W.nsIn K mainGlobals "all" = some none)
    (z_bool : PySem.W.nsIn K mainGlobals "bool" = some none)
    (z_dict : PySem.W.nsIn K mainGlobals "dict" = some none)
    (z_int : PySem.W.nsIn K mainGlobals "int" = some none)
    (z_isinstance : PySem.W.nsIn K mainGlobals "isinstance" = some none)
    (z_len : PySem.W.nsIn K mainGlobals "len" = some none)
    (z_list : PySem.W.nsIn K mainGlobals "list" = some none)
    (z_range : PySem.W.nsIn K mainGlobals "range" = some none)
    (z_sorted : PySem.W.nsIn K mainGlobals "sorted" = some none)
    (z_str : PySem.W.nsIn K mainGlobals "str" = some none)
    (z_tuple : PySem.W.nsIn K mainGlobals "tuple" = some none)
    : ∃ fd : FuncData, (∀ (s : Shared) (v : Value), BindsTo s fd ⟨[v], []⟩ [("_law_script", v)]) ∧ ∀ base : Heap, K.In base → base.Ns mainGlobals mg → FnOk l.prog w K mg base CX0 5 fa fd ["_law_script"] (sp_law K) := by
  have e := hfa.symm.trans (PySem.W.mg_of X G a_law_k10)
  cases e
  have F_l_number_of := fun_mk (st := s_l_number_of) l_l_number_of cI_l_number_of kk_l_number_of
  have b_l_number_of := F_l_number_of.binds (ps := ["_law_word", "_law_sign"]) fun _ _ _ _ _ _ us hl => match us, hl with | [_, _], _ => rfl
  have F_l_named := fun_mk (st := s_l_named) l_l_named cI_l_named kk_l_named
  have b_l_named := F_l_named.binds (ps := ["_law_word"]) fun _ _ _ _ _ _ us hl => match us, hl with | [_], _ => rfl
  have F_l_due := fun_mk (st := s_l_due) l_l_due cI_l_due kk_l_due
  have b_l_due := F_l_due.binds (ps := ["_law_text"]) fun _ _ _ _ _ _ us hl => match us, hl with | [_], _ => rfl
  have F_l_sign_by := fun_mk (st := s_l_sign_by) l_l_sign_by cI_l_sign_by kk_l_sign_by
  have b_l_sign_by := F_l_sign_by.binds (ps := ["_law_cell"]) fun _ _ _ _ _ _ us hl => match us, hl with | [_], _ => rfl
  have F_l_bent := fun_mk (st := s_l_bent) l_l_bent cI_l_bent kk_l_bent
  have b_l_bent := F_l_bent.binds (ps := ["_law_text", "_law_cell"]) fun _ _ _ _ _ _ us hl => match us, hl with | [_, _], _ => rfl
  have F_number_of10 := fun_mk (st := s_number_of10) l_number_of10 cI_number_of10 kk_number_of10
  have b_number_of10 := F_number_of10.binds (ps := ["word", "sign"]) fun _ _ _ _ _ _ us hl => match us, hl with | [_, _], _ => rfl
  have F_is_name := fun_mk (st := s_is_name) l_is_name cI_is_name kk_is_name
  have b_is_name := F_is_name.binds (ps := ["thing"]) fun _ _ _ _ _ _ us hl => match us, hl with | [_], _ => rfl
  have F_is_whole := fun_mk (st := s_is_whole) l_is_whole cI_is_whole kk_is_whole
  have b_is_whole := F_is_whole.binds (ps := ["thing"]) fun _ _ _ _ _ _ us hl => match us, hl with | [_], _ => rfl
  have F_is_share := fun_mk (st := s_is_share) l_is_share cI_is_share kk_is_share
  have b_is_share := F_is_share.binds (ps := ["thing"]) fun _ _ _ _ _ _ us hl => match us, hl with | [_], _ => rfl
  have F_is_page := fun_mk (st := s_is_page) l_is_page cI_is_page kk_is_page
  have b_is_page := F_is_page.binds (ps := ["thing"]) fun _ _ _ _ _ _ us hl => match us, hl with | [_], _ => rfl
  have F_written := fun_mk (st := s_written) l_written cI_written kk_written
  have b_written := F_written.binds (ps := ["page"]) fun _ _ _ _ _ _ us hl => match us, hl with | [_], _ => rfl
  have F_read10 := fun_mk (st := s_read10) l_read10 cI_read10 kk_read10
  have b_read10 := F_read10.binds (ps := ["text"]) fun _ _ _ _ _ _ us hl => match us, hl with | [_], _ => rfl
  have F_l_whole := fun_mk (st := s_l_whole) l_l_whole cI_l_whole kk_l_whole
  have b_l_whole := F_l_whole.binds (ps := ["_law_found"]) fun _ _ _ _ _ _ us hl => match us, hl with | [_], _ => rfl
  have F_l_share := fun_mk (st := s_l_share) l_l_share cI_l_share kk_l_share
  have b_l_share := F_l_share.binds (ps := ["_law_found", "_law_due_here"]) fun _ _ _ _ _ _ us hl => match us, hl with | [_, _], _ => rfl
  have F_l_same := fun_mk (st := s_l_same) l_l_same cI_l_same kk_l_same
  have b_l_same := F_l_same.binds (ps := ["_law_found", "_law_due_here"]) fun _ _ _ _ _ _ us hl => match us, hl with | [_, _], _ => rfl
  have F_l_cell_at := fun_mk (st := s_l_cell_at) l_l_cell_at cI_l_cell_at kk_l_cell_at
  have b_l_cell_at := F_l_cell_at.binds (ps := ["_law_script", "_law_k"]) fun _ _ _ _ _ _ us hl => match us, hl with | [_, _], _ => rfl
  have F_l_name_by := fun_mk (st := s_l_name_by) l_l_name_by cI_l_name_by kk_l_name_by
  have b_l_name_by := F_l_name_by.binds (ps := ["_law_cell"]) fun _ _ _ _ _ _ us hl => match us, hl with | [_], _ => rfl
  have F_l_row_by := fun_mk (st := s_l_row_by) l_l_row_by cI_l_row_by kk_l_row_by
  have b_l_row_by := F_l_row_by.binds (ps := ["_law_name", "_law_numbers"]) fun _ _ _ _ _ _ us hl => match us, hl with | [_, _], _ => rfl
  have F_l_kind := fun_mk (st := s_l_kind) l_l_kind cI_l_kind kk_l_kind
  have b_l_kind := F_l_kind.binds (ps := ["_law_error"]) fun _ _ _ _ _ _ us hl => match us, hl with | [_], _ => rfl
  have F_law_k10 := fun_mk (st := s_law_k10) l_law_k10 cI_law_k10 kk_law_k10
  have b_law_k10 := F_law_k10.binds (ps := ["_law_script"]) fun _ _ _ _ _ _ us hl => match us, hl with | [_], _ => rfl
  let T : Tx K mg := { f_l_number_of := f_l_number_of, fd_l_number_of := _, F_l_number_of := F_l_number_of, b_l_number_of := b_l_number_of, m_l_number_of := PySem.W.mg_of X G a_l_number_of, f_l_named := f_l_named, fd_l_named := _, F_l_named := F_l_named, b_l_named := b_l_named, m_l_named := PySem.W.mg_of X G a_l_named, f_l_due := f_l_due, fd_l_due := _, F_l_due := F_l_due, b_l_due := b_l_due, m_l_due := PySem.W.mg_of X G a_l_due, f_l_sign_by := f_l_sign_by, fd_l_sign_by := _, F_l_sign_by := F_l_sign_by, b_l_sign_by := b_l_sign_by, m_l_sign_by := PySem.W.mg_of X G a_l_sign_by, f_l_bent := f_l_bent, fd_l_bent := _, F_l_bent := F_l_bent, b_l_bent := b_l_bent, m_l_bent := PySem.W.mg_of X G a_l_bent, f_number_of10 := f_number_of10, fd_number_of10 := _, F_number_of10 := F_number_of10, b_number_of10 := b_number_of10, m_number_of10 := PySem.W.mg_of X G a_number_of10, f_is_name := f_is_name, fd_is_name := _, F_is_name := F_is_name, b_is_name := b_is_name, m_is_name := PySem.W.mg_of X G a_is_name, f_is_whole := f_is_whole, fd_is_whole := _, F_is_whole := F_is_whole, b_is_whole := b_is_whole, m_is_whole := PySem.W.mg_of X G a_is_whole, f_is_share := f_is_share, fd_is_share := _, F_is_share := F_is_share, b_is_share := b_is_share, m_is_share := PySem.W.mg_of X G a_is_share, f_is_page := f_is_page, fd_is_page := _, F_is_page := F_is_page, b_is_page := b_is_page, m_is_page := PySem.W.mg_of X G a_is_page, f_written := f_written, fd_written := _, F_written := F_written, b_written := b_written, m_written := PySem.W.mg_of X G a_written, f_read10 := f_read10, fd_read10 := _, F_read10 := F_read10, b_read10 := b_read10, m_read10 := PySem.W.mg_of X G a_read10, f_l_whole := f_l_whole, fd_l_whole := _, F_l_whole := F_l_whole, b_l_whole := b_l_whole, m_l_whole := PySem.W.mg_of X G a_l_whole, f_l_share := f_l_share, fd_l_share := _, F_l_share := F_l_share, b_l_share := b_l_share, m_l_share := PySem.W.mg_of X G a_l_share, f_l_same := f_l_same, fd_l_same := _, F_l_same := F_l_same, b_l_same := b_l_same, m_l_same := PySem.W.mg_of X G a_l_same, f_l_cell_at := f_l_cell_at, fd_l_cell_at := _, F_l_cell_at := F_l_cell_at, b_l_cell_at := b_l_cell_at, m_l_cell_at := PySem.W.mg_of X G a_l_cell_at, f_l_name_by := f_l_name_by, fd_l_name_by := _, F_l_name_by := F_l_name_by, b_l_name_by := b_l_name_by, m_l_name_by := PySem.W.mg_of X G a_l_name_by, f_l_row_by := f_l_row_by, fd_l_row_by := _, F_l_row_by := F_l_row_by, b_l_row_by := b_l_row_by, m_l_row_by := PySem.W.mg_of X G a_l_row_by, f_l_kind := f_l_kind, fd_l_kind := _, F_l_kind := F_l_kind, b_l_kind := b_l_kind, m_l_kind := PySem.W.mg_of X G a_l_kind, f_law_k10 := fa, fd_law_k10 := _, F_law_k10 := F_law_k10, b_law_k10 := b_law_k10, m_law_k10 := PySem.W.mg_of X G a_law_k10, k_Forged := k_Forged, g_Forged := PySem.W.mg_of X G aC_Forged, k_GossipError := k_GossipError, g_GossipError := PySem.W.mg_of X G aC_GossipError, be_GossipError := be_GossipError, ty_GossipError := ty_GossipError, hd_GossipError := hd_GossipError, k_NoAmount := k_NoAmount, g_NoAmount := PySem.W.mg_of X G aC_NoAmount, k_NoName := k_NoName, g_NoName := PySem.W.mg_of X G aC_NoName, k_NoNote := k_NoNote, g_NoNote := PySem.W.mg_of X G aC_NoNote, x_NoNote := x_NoNote, kp_NoNote := kp_NoNote, be_NoNote := be_NoNote, ty_NoNote := ty_NoNote, hd_NoNote := hd_NoNote, sg_NoNote := sg_NoNote, ga_NoNote := ga_NoNote, gk_NoNote := gk_NoNote, gc_NoNote := gc_NoNote, gn_NoNote := gn_NoNote, gt_NoNote := gt_NoNote, gm_NoNote := gm_NoNote, ki_NoNote_NoName := ki_NoNote_NoName, ki_NoNote_NoAmount := ki_NoNote_NoAmount, ki_NoNote_NoPage := ki_NoNote_NoPage, ki_NoNote_Forged := ki_NoNote_Forged, ki_NoNote_NoNote := ki_NoNote_NoNote, kv_NoNote := kv_NoNote, ec_NoNote := ⟨ga_NoNote, gk_NoNote, be_NoNote, hd_NoNote, gc_NoNote, gn_NoNote, gt_NoNote, gm_NoNote⟩, em_NoNote := PySem.W.exm_ref be_GossipError hd_GossipError ty_GossipError sg_NoNote, k_NoPage := k_NoPage, g_NoPage := PySem.W.mg_of X G aC_NoPage, t_FIGURES := t_FIGURES, c_FIGURES := PySem.W.mg_of X G ac_FIGURES, t_LETTERS := t_LETTERS, c_LETTERS := PySem.W.mg_of X G ac_LETTERS, t_LIMIT := t_LIMIT, c_LIMIT := PySem.W.mg_of X G ac_LIMIT, t_LONGEST := t_LONGEST, c_LONGEST := PySem.W.mg_of X G ac_LONGEST, t_MOST_FIGURES := t_MOST_FIGURES, c_MOST_FIGURES := PySem.W.mg_of X G ac_MOST_FIGURES, t_MOST_NAMES := t_MOST_NAMES, c_MOST_NAMES := PySem.W.mg_of X G ac_MOST_NAMES, n_ValueError := PySem.W.mg_none_of X G z_ValueError, n_all := PySem.W.mg_none_of X G z_all, n_bool := PySem.W.mg_none_of X G z_bool, n_dict := PySem.W.mg_none_of X G z_dict, n_int := PySem.W.mg_none_of X G z_int, n_isinstance := PySem.W.mg_none_of X G z_isinstance, n_len := PySem.W.mg_none_of X G z_len, n_list := PySem.W.mg_none_of X G z_list, n_range := PySem.W.mg_none_of X G z_range, n_sorted := PySem.W.mg_none_of X G z_sorted, n_str := PySem.W.mg_none_of X G z_str, n_tuple := PySem.W.mg_none_of X G z_tuple }
  exact ⟨T.fd_law_k10, fun s v => .of_eq rfl, fun base _ _ => ok_law_k10 T⟩
end
theorem walk {l : PySem.W.OpenLaw} {q : Program} {loose : List Str} {XP : (Str → Option Value) → Heap → Prop} {YP : World → Heap → Prop} {d : DefRec} {K : Params → PySem.W.Frag} (hn : l.most = some 63) (hdf : d.params.defaults = [])
    (hY : ∀ (w : World) (h : Heap), YP w h → (K w.params).In h)
    (F : ∀ (w : World) (mg : Str → Option Value) (fa : Addr) (h : Heap), (K w.params).In h → h.Ns mainGlobals mg → mg d.name = some (.ref fa) →
      ∃ fd : FuncData, (∀ (s : Shared) (u : Value), BindsTo s fd ⟨[u], []⟩ [("_law_script", u)]) ∧ ∀ base : Heap, (K w.params).In base → base.Ns mainGlobals mg → FnOk l.prog w (K w.params) mg base CX0 5 fa fd ["_law_script"] (sp_law (K w.params))) :
    PySem.W.WalkO q loose XP YP l.row.toRowW d [] (fun f vs => PySem.call f vs) :=
  L2.walk_of (n := 63) (k := 5) (x := "_law_script") (CX := fun _ => CX0) (sp := fun w => sp_law (K w.params)) hn (by decide) hdf ⟨rfl, by decide, by decide⟩ hY F (fun _ _ a ns hl _ hS => ⟨a, ns, rfl, hS, hl, fun _ => rfl⟩) fun _ _ _ _ _ z => z
end Gc

open PySem PySem.W PyProof.Rows in
set_option maxRecDepth 100000 in
set_option maxHeartbeats 0 in
theorem PySem.Challenge.cw_gossipcount_k10_read_holds : PySem.Challenge.rw_gossipcount_k10_read.Holds := by
  w_on; o_law; k_head; (case hw => w_witness2)
  k_fill
  refine Gc.walk (l := PySem.Challenge.rw_gossipcount_k10_read) rfl rfl (fun w h Y => PySem.W.kIn_of Y) ?F
  case F =>
    intro w mg fa h KX G hmg
    refine' Gc.all_mk KX G hmg ?aC_Forged ?aC_GossipError ?aC_NoAmount ?aC_NoName ?aC_NoNote ?aC_NoPage ?a_l_number_of ?l_l_number_of ?cI_l_number_of ?kk_l_number_of ?a_l_named ?l_l_named ?cI_l_named ?kk_l_named ?a_l_due ?l_l_due ?cI_l_due ?kk_l_due ?a_l_sign_by ?l_l_sign_by ?cI_l_sign_by ?kk_l_sign_by ?a_l_bent ?l_l_bent ?cI_l_bent ?kk_l_bent ?a_number_of10 ?l_number_of10 ?cI_number_of10 ?kk_number_of10 ?a_is_name ?l_is_name ?cI_is_name ?kk_is_name ?a_is_whole ?l_is_whole ?cI_is_whole ?kk_is_whole ?a_is_share ?l_is_share ?cI_is_share ?kk_is_share ?a_is_page ?l_is_page ?cI_is_page ?kk_is_page ?a_written ?l_written ?cI_written ?kk_written ?a_read10 ?l_read10 ?cI_read10 ?kk_read10 ?a_l_whole ?l_l_whole ?cI_l_whole ?kk_l_whole ?a_l_share ?l_l_share ?cI_l_share ?kk_l_share ?a_l_same ?l_l_same ?cI_l_same ?kk_l_same ?a_l_cell_at ?l_l_cell_at ?cI_l_cell_at ?kk_l_cell_at ?a_l_name_by ?l_l_name_by ?cI_l_name_by ?kk_l_name_by ?a_l_row_by ?l_l_row_by ?cI_l_row_by ?kk_l_row_by ?a_l_kind ?l_l_kind ?cI_l_kind ?kk_l_kind ?a_law_k10 ?l_law_k10 ?cI_law_k10 ?kk_law_k10 ?be_GossipError ?ty_GossipError ?hd_GossipError ?x_NoNote ?kp_NoNote ?be_NoNote ?ty_NoNote ?hd_NoNote ?sg_NoNote ?ga_NoNote ?gk_NoNote ?gc_NoNote ?gn_NoNote ?gt_NoNote ?gm_NoNote ?ki_NoNote_NoName ?ki_NoNote_NoAmount ?ki_NoNote_NoPage ?ki_NoNote_Forged ?ki_NoNote_NoNote ?kv_NoNote ?ac_FIGURES ?ac_LETTERS ?ac_LIMIT ?ac_LONGEST ?ac_MOST_FIGURES ?ac_MOST_NAMES ?z_ValueError ?z_all ?z_bool ?z_dict ?z_int ?z_isinstance ?z_len ?z_list ?z_range ?z_sorted ?z_str ?z_tuple
    (case aC_Forged => first | k_is | rfl | decide)
    (case aC_GossipError => first | k_is | rfl | decide)
    (case aC_NoAmount => first | k_is | rfl | decide)
    (case aC_NoName => first | k_is | rfl | decide)
    (case aC_NoNote => first | k_is | rfl | decide)
    (case aC_NoPage => first | k_is | rfl | decide)
    (case a_l_number_of => first | k_is | rfl | decide)
    (case l_l_number_of => first | k_is | rfl | decide)
    (case cI_l_number_of => first | k_is | rfl | decide)
    (case kk_l_number_of => first | k_is | rfl | decide)
    (case a_l_named => first | k_is | rfl | decide)
    (case l_l_named => first | k_is | rfl | decide)
    (case cI_l_named => first | k_is | rfl | decide)
    (case kk_l_named => first | k_is | rfl | decide)
    (case a_l_due => first | k_is | rfl | decide)
    (case l_l_due => first | k_is | rfl | decide)
    (case cI_l_due => first | k_is | rfl | decide)
    (case kk_l_due => first | k_is | rfl | decide)
    (case a_l_sign_by => first | k_is | rfl | decide)
    (case l_l_sign_by => first | k_is | rfl | decide)
    (case cI_l_sign_by => first | k_is | rfl | decide)
    (case kk_l_sign_by => first | k_is | rfl | decide)
    (case a_l_bent => first | k_is | rfl | decide)
    (case l_l_bent => first | k_is | rfl | decide)
    (case cI_l_bent => first | k_is | rfl | decide)
    (case kk_l_bent => first | k_is | rfl | decide)
    (case a_number_of10 => first | k_is | rfl | decide)
    (case l_number_of10 => first | k_is | rfl | decide)
    (case cI_number_of10 => first | k_is | rfl | decide)
    (case kk_number_of10 => first | k_is | rfl | decide)
    (case a_is_name => first | k_is | rfl | decide)
    (case l_is_name => first | k_is | rfl | decide)
    (case cI_is_name => first | k_is | rfl | decide)
    (case kk_is_name => first | k_is | rfl | decide)
    (case a_is_whole => first | k_is | rfl | decide)
    (case l_is_whole => first | k_is | rfl | decide)
    (case cI_is_whole => first | k_is | rfl | decide)
    (case kk_is_whole => first | k_is | rfl | decide)
    (case a_is_share => first | k_is | rfl | decide)
    (case l_is_share => first | k_is | rfl | decide)
    (case cI_is_share => first | k_is | rfl | decide)
    (case kk_is_share => first | k_is | rfl | decide)
    (case a_is_page => first | k_is | rfl | decide)
    (case l_is_page => first | k_is | rfl | decide)
    (case cI_is_page => first | k_is | rfl | decide)
    (case kk_is_page => first | k_is | rfl | decide)
    (case a_written => first | k_is | rfl | decide)
    (case l_written => first | k_is | rfl | decide)
    (case cI_written => first | k_is | rfl | decide)
    (case kk_written => first | k_is | rfl | decide)
    (case a_read10 => first | k_is | rfl | decide)
    (case l_read10 => first | k_is | rfl | decide)
    (case cI_read10 => first | k_is | rfl | decide)
    (case kk_read10 => first | k_is | rfl | decide)
    (case a_l_whole => first | k_is | rfl | decide)
    (case l_l_whole => first | k_is | rfl | decide)
    (case cI_l_whole => first | k_is | rfl | decide)
    (case kk_l_whole => first | k_is | rfl | decide)
    (case a_l_share => first | k_is | rfl | decide)
    (case l_l_share => first | k_is | rfl | decide)
    (case cI_l_share => first | k_is | rfl | decide)
    (case kk_l_share => first | k_is | rfl | decide)
    (case a_l_same => first | k_is | rfl | decide)
    (case l_l_same => first | k_is | rfl | decide)
    (case cI_l_same => first | k_is | rfl | decide)
    (case kk_l_same => first | k_is | rfl | decide)
    (case a_l_cell_at => first | k_is | rfl | decide)
    (case l_l_cell_at => first | k_is | rfl | decide)
    (case cI_l_cell_at => first | k_is | rfl | decide)
    (case kk_l_cell_at => first | k_is | rfl | decide)
    (case a_l_name_by => first | k_is | rfl | decide)
    (case l_l_name_by => first | k_is | rfl | decide)
    (case cI_l_name_by => first | k_is | rfl | decide)
    (case kk_l_name_by => first | k_is | rfl | decide)
    (case a_l_row_by => first | k_is | rfl | decide)
    (case l_l_row_by => first | k_is | rfl | decide)
    (case cI_l_row_by => first | k_is | rfl | decide)
    (case kk_l_row_by => first | k_is | rfl | decide)
    (case a_l_kind => first | k_is | rfl | decide)
    (case l_l_kind => first | k_is | rfl | decide)
    (case cI_l_kind => first | k_is | rfl | decide)
    (case kk_l_kind => first | k_is | rfl | decide)
    (case a_law_k10 => first | k_is | rfl | decide)
    (case l_law_k10 => first | k_is | rfl | decide)
    (case cI_law_k10 => first | k_is | rfl | decide)
    (case kk_law_k10 => first | k_is | rfl | decide)
    (case be_GossipError => first | k_is | rfl | decide)
    (case ty_GossipError => first | k_is | rfl | decide)
    (case hd_GossipError => first | k_is | rfl | decide)
    (case x_NoNote => k_exc)
    (case kp_NoNote => first | k_is | rfl | decide)
    (case be_NoNote => first | k_is | rfl | decide)
    (case ty_NoNote => first | k_is | rfl | decide)
    (case hd_NoNote => first | k_is | rfl | decide)
    (case sg_NoNote => first | k_is | rfl | decide)
    (case ga_NoNote => first | k_is | rfl | decide)
    (case gk_NoNote => first | k_is | rfl | decide)
    (case gc_NoNote => first | k_is | rfl | decide)
    (case gn_NoNote => first | k_is | rfl | decide)
    (case gt_NoNote => first | k_is | rfl | decide)
    (case gm_NoNote => first | k_is | rfl | decide)
    (case ki_NoNote_NoName => first | k_is | rfl | decide)
    (case ki_NoNote_NoAmount => first | k_is | rfl | decide)
    (case ki_NoNote_NoPage => first | k_is | rfl | decide)
    (case ki_NoNote_Forged => first | k_is | rfl | decide)
    (case ki_NoNote_NoNote => first | k_is | rfl | decide)
    (case kv_NoNote => first | k_is | rfl | decide)
    (case ac_FIGURES => first | k_is | rfl | decide)
    (case ac_LETTERS => first | k_is | rfl | decide)
    (case ac_LIMIT => first | k_is | rfl | decide)
    (case ac_LONGEST => first | k_is | rfl | decide)
    (case ac_MOST_FIGURES => first | k_is | rfl | decide)
    (case ac_MOST_NAMES => first | k_is | rfl | decide)
    (case z_ValueError => first | k_is | rfl | decide)
    (case z_all => first | k_is | rfl | decide)
    (case z_bool => first | k_is | rfl | decide)
    (case z_dict => first | k_is | rfl | decide)
    (case z_int => first | k_is | rfl | decide)
    (case z_isinstance => first | k_is | rfl | decide)
    (case z_len => first | k_is | rfl | decide)
    (case z_list => first | k_is | rfl | decide)
    (case z_range => first | k_is | rfl | decide)
    (case z_sorted => first | k_is | rfl | decide)
    (case z_str => first | k_is | rfl | decide)
    (case z_tuple => first | k_is | rfl | decide)
#print axioms PySem.Challenge.cw_gossipcount_k10_read_holds
