import PyProof.Rows.All
import Wide.All
import OpenK.AllK
import Wide.FinOn
import HandS.ForMost
import HandS.Evl
import HandS.IsInst
import HandS.Walk
import HandS.TupLe
import HandS.Codes
import HandS.More
import HandS.SetFor
import PyProof.Rows.SortShellAny
import KE.GoesMore
import HandS.HotCalls
import HandS.ExcCtx
import HandS.ExcIs
import HandS.WordsExc
import HandS.ExcOwn
import HandS.Hot
import HandS.ExcBuiltin
import PySem.Challenge.RW_gossipcount_k11_whole_calls
set_option Elab.async false
set_option linter.all false
set_option maxRecDepth 100000
set_option maxHeartbeats 4000000
namespace Gc
open PySem L2 Evl
/-! ### heaps that grow; small words -/
theorem tup_new {H : Hp} {xs : List V} {Q : VK} (h : ∀ p H', H p = none → Ex H H' → H' p = some (.tup xs) → Q (.ref p) H') : ∀ p, H p = none → Q (.ref p) (upd H p (.tup xs)) := fun p hp => h p _ hp (Ex.new hp) upd_same
theorem lst_new {H : Hp} {xs : List V} {Q : VK} (h : ∀ p H', H p = none → Ex H H' → H' p = some (.lst xs) → Q (.ref p) H') : ∀ p, H p = none → Q (.ref p) (upd H p (.lst xs)) := fun p hp => h p _ hp (Ex.new hp) upd_same
theorem dct_new {H : Hp} {xs : List (Key × V)} {Q : VK} (h : ∀ p H', H p = none → Ex H H' → H' p = some (.dK xs) → Q (.ref p) H') : ∀ p, H p = none → Q (.ref p) (upd H p (.dK xs)) := fun p hp => h p _ hp (Ex.new hp) upd_same
theorem ex_at {H H' : Hp} {a : Addr} {o : HO} (e : Ex H H') (h : H a = some o) : H' a = some o := e a o h
theorem ex_same {H H' : Hp} (e : Ex H H') : Same H H' := e
theorem bne_self {b : Bool} : (!b) = (if b = true then false else true) := by cases b <;> rfl
theorem sz (n : Nat) (h : Nat.ble n 100000 = true := by rfl) : n ≤ sizeLine := sz_of (Nat.le_of_ble_eq_true h)
/-- a share at t: the pair (a, b) -/
abbrev ShAt (K : PySem.W.Frag) (H : Hp) (t : Addr) (a b : Int) : Prop := SqT K H t [.int a, .int b]
theorem tyx_t {K : PySem.W.Frag} {H : Hp} {a : Addr} {xs : List V} (h : SqT K H a xs) : TyX K H (.ref a) (.type "tuple") := by
  rcases h with (h | ⟨o, h⟩) | ⟨o, its, n, hk, hc, _⟩
  · exact .base (.tup h)
  · exact .fTuple h
  · exact .kTuple hk hc
theorem tyx_l {K : PySem.W.Frag} {H : Hp} {a : Addr} {xs : List V} (h : SqL K H a xs) : TyX K H (.ref a) (.type "list") := by
  rcases h with (h | ⟨o, h⟩) | ⟨o, its, n, hk, hc, _⟩
  · exact .base (.lst h)
  · exact .base (.frz h)
  · exact .kList hk hc
theorem tyx_d {K : PySem.W.Frag} {H : Hp} {a : Addr} {kvs : List (Key × V)} (h : Rd H a (.dK kvs)) : TyX K H (.ref a) (.type "dict") := by
  rcases h with h | ⟨o, h⟩
  · exact .base (.dK h)
  · exact .fDict h
theorem ab_ex {H H1 : Hp} {p : Addr} {o : HO} (hp : H p = none) (h : upd H p o = H1) : Ex H H1 := h ▸ Ex.new hp
theorem ab_at {H H1 : Hp} {p : Addr} {o : HO} (h : upd H p o = H1) : H1 p = some o := h ▸ upd_same
/-- what is said here is not opened by the walk -/
structure Hold (P : Prop) : Prop where
  it : P
theorem ab_mut {H H1 H2 : Hp} {p : Addr} {o : HO} (hp : H p = none) (e : Ex H H1) (h : upd H1 p o = H2) : Ex H H2 := h ▸ Ex.mut e hp
theorem pos60 : (0 : Int) < 10 ^ (60 : Int).toNat := by decide
theorem ite_refl {x : V} {A B : Prop} (h : A) : if decide (x = x) = true then A else B := by
  rw [if_pos (decide_eq_true rfl)]; exact h
theorem ite_nrefl {x : V} {A B : Prop} (h : B) : if (!decide (x = x)) = true then A else B := by
  rw [decide_eq_true (rfl : x = x)]; exact iteF h
theorem ite_pos {c : Bool} {A B : Prop} (hc : c = true) (h : A) : if c = true then A else B := by
  rw [if_pos hc]; exact h
theorem ite_neg {c : Bool} {A B : Prop} (hc : c = false) (h : B) : if c = true then A else B := by
  rw [hc]; exact iteF h
theorem lt_t {i j : Int} {A B : Prop} (hc : i < j) (h : A) : if decide (i < j) = true then A else B := ite_pos (decide_eq_true hc) h
theorem lt_f {i j : Int} {A B : Prop} (hc : ¬ i < j) (h : B) : if decide (i < j) = true then A else B := ite_neg (decide_eq_false hc) h
theorem le_t {i j : Int} {A B : Prop} (hc : i ≤ j) (h : A) : if decide (i ≤ j) = true then A else B := ite_pos (decide_eq_true hc) h
theorem le_f {i j : Int} {A B : Prop} (hc : ¬ i ≤ j) (h : B) : if decide (i ≤ j) = true then A else B := ite_neg (decide_eq_false hc) h
theorem eqI_t {i j : Int} {A B : Prop} (hc : i = j) (h : A) : if decide (V.int i = V.int j) = true then A else B := ite_pos (decide_eq_true (by rw [hc])) h
theorem eqI_f {i j : Int} {A B : Prop} (hc : ¬ i = j) (h : B) : if decide (V.int i = V.int j) = true then A else B := ite_neg (decide_eq_false (fun e => hc (V.int.inj e))) h
theorem neI_t {i j : Int} {A B : Prop} (hc : ¬ i = j) (h : A) : if (!decide (V.int i = V.int j)) = true then A else B := ite_pos (by rw [decide_eq_false (fun e => hc (V.int.inj e))]; rfl) h
theorem neI_f {i j : Int} {A B : Prop} (hc : i = j) (h : B) : if (!decide (V.int i = V.int j)) = true then A else B := ite_neg (by rw [decide_eq_true (by rw [hc])]; rfl) h
theorem iteN_t {c : Bool} {A B : Prop} (hc : c = false) (h : A) : if (!c) = true then A else B := ite_pos (by rw [hc]; rfl) h
theorem iteN_f {c : Bool} {A B : Prop} (hc : c = true) (h : B) : if (!c) = true then A else B := ite_neg (by rw [hc]; rfl) h
/-- a and b, b without a new thing -/
theorem and_ev {te : TE} {σ : L2.St} {H : Hp} {Q : VK} {b1 : Bool} (b2 : Bool) (hv : b1 = true → ∀ Q' : VK, Q' (.bl b2) H → te σ H Q') (h : Q (.bl (b1 && b2)) H) : if b1 = true then te σ H Q else Q (.bl false) H := by
  cases b1 with
  | true => exact iteT (hv rfl Q h)
  | false => exact iteF h
theorem or_ev {te : TE} {σ : L2.St} {H : Hp} {Q : VK} {b1 : Bool} (b2 : Bool) (hv : b1 = false → ∀ Q' : VK, Q' (.bl b2) H → te σ H Q') (h : Q (.bl (b1 || b2)) H) : if b1 = true then Q (.bl true) H else te σ H Q := by
  cases b1 with
  | true => exact iteT h
  | false => exact iteF (hv rfl Q h)
theorem chain_ev {tc : TE} {r' : R2} {y : V} {σ : L2.St} {H : Hp} {Q : VK} {b1 : Bool} (b2 : Bool) (hv : b1 = true → ∀ Q' : VK, Q' (.bl b2) H → tc σ H fun w' H4 => r' y w' H4 Q') (h : Q (.bl (b1 && b2)) H) :
    if b1 = true then (tc σ H fun w' H4 => r' y w' H4 Q) else Q (.bl false) H := by
  cases b1 with
  | true => exact iteT (hv rfl Q h)
  | false => exact iteF h
theorem bl_eq {H : Hp} {Q : VK} {b c : Bool} (e : b = c) (h : Q (.bl c) H) : Q (.bl b) H := e ▸ h
theorem eqI_b {i j : Int} (h : i = j) : decide (V.int i = V.int j) = true := decide_eq_true (by rw [h])
/-- an open test on two whole numbers -/
theorem lt_2 {i j : Int} {A B : Prop} (h1 : i < j → A) (h2 : ¬ i < j → B) : if decide (i < j) = true then A else B := by
  by_cases hc : i < j
  · exact lt_t hc (h1 hc)
  · exact lt_f hc (h2 hc)
theorem le_2 {i j : Int} {A B : Prop} (h1 : i ≤ j → A) (h2 : ¬ i ≤ j → B) : if decide (i ≤ j) = true then A else B := by
  by_cases hc : i ≤ j
  · exact le_t hc (h1 hc)
  · exact le_f hc (h2 hc)
theorem ltN_2 {i j : Int} {A B : Prop} (h1 : ¬ i < j → A) (h2 : i < j → B) : if (!decide (i < j)) = true then A else B := by
  by_cases hc : i < j
  · rw [decide_eq_true hc]; exact iteF (h2 hc)
  · rw [decide_eq_false hc]; exact iteT (h1 hc)
theorem leN_2 {i j : Int} {A B : Prop} (h1 : ¬ i ≤ j → A) (h2 : i ≤ j → B) : if (!decide (i ≤ j)) = true then A else B := by
  by_cases hc : i ≤ j
  · rw [decide_eq_true hc]; exact iteF (h2 hc)
  · rw [decide_eq_false hc]; exact iteT (h1 hc)
theorem eqI_2 {i j : Int} {A B : Prop} (h1 : i = j → A) (h2 : ¬ i = j → B) : if decide (V.int i = V.int j) = true then A else B := by
  by_cases hc : i = j
  · exact eqI_t hc (h1 hc)
  · exact eqI_f hc (h2 hc)
theorem neI_2 {i j : Int} {A B : Prop} (h1 : ¬ i = j → A) (h2 : i = j → B) : if (!decide (V.int i = V.int j)) = true then A else B := by
  by_cases hc : i = j
  · exact neI_f hc (h2 hc)
  · exact neI_t hc (h1 hc)
theorem tyx_mono {K : PySem.W.Frag} {H H' : Hp} {x : V} {t : Value} (e : Ex H H') (h : TyX K H x t) : TyX K H' x t := by
  cases h with
  | base b =>
    cases b with
    | non => exact .base .non
    | bl y => exact .base (.bl y)
    | int y => exact .base (.int y)
    | str y => exact .base (.str y)
    | flt y => exact .base (.flt y)
    | lst q => exact .base (.lst (e _ _ q))
    | frz q => exact .base (.frz (e _ _ q))
    | tup q => exact .base (.tup (e _ _ q))
    | dK q => exact .base (.dK (e _ _ q))
    | dT q => exact .base (.dT (e _ _ q))
    | ins q c a n k m => exact .base (.ins (e _ _ q) c a n k m)
  | byt b => exact .byt b
  | set q => exact .set (e _ _ q)
  | kList q c => exact .kList q c
  | kTuple q c => exact .kTuple q c
  | kDict q c => exact .kDict q c
  | fTuple q => exact .fTuple (e _ _ q)
  | fDict q => exact .fDict (e _ _ q)
/-- a comprehension: P by the turn, the list so far and the heap -/
theorem lc_go {J : It} {n : Nat} {G : Hp → Prop} {Yv : Nat → V → Prop} (w : Walk J n G (fun i H x H' => H' = H ∧ Yv i x)) {g : TG} {tt : TT} {te : TE} {vs : List Nat} {σ : L2.St} {H1 : Hp} {D : Addr} {Qd : Hp → Prop}
    (P : Nat → List V → Hp → Prop) (hn : n ≤ 100000) (hD : H1 D = none) (hG : ∀ H, Ex H1 H → G H) (hP : ∀ i acc H o, P i acc H → P i acc (upd H D o)) (h0 : ∀ H, Ex H1 H → P 0 [] H)
    (hs : ∀ i x acc H (Kk : VK) (Nn : Hp → Prop), i < n → Yv i x → Ex H1 H → H D = some (.lst acc) → P i acc H → (∀ y H4, Ex H H4 → P (i + 1) (acc ++ [y]) H4 → Kk y H4) → (∀ H3, Ex H H3 → P (i + 1) acc H3 → Nn H3) →
      g x (wipe σ vs) H fun σ2 H2 => wipe σ2 vs = wipe σ vs ∧ tt σ2 H2 fun b H3 => if b = true then te σ2 H3 Kk else Nn H3)
    (hd : ∀ acc H, Ex H1 H → H D = some (.lst acc) → P n acc H → Qd H) :
    ∃ W : Nat → Nat → Hp → Prop, (∃ m, W 0 m (upd H1 D (.lst []))) ∧ ∀ i m H, W i m H →
      (J.stop i H ∧ Qd H) ∨ (J.go i H ∧ ∃ Nx : Hp → Prop, (∀ H', Nx H' → ∃ m', m' < m ∧ W (i + 1) m' H') ∧ ∀ x H', J.yld i H x H' → g x (wipe σ vs) H' fun σ2 H2 => wipe σ2 vs = wipe σ vs ∧ tt σ2 H2 fun b H3 =>
        if b = true then te σ2 H3 fun y H4 => ∃ acc, H4 D = some (.lst acc) ∧ acc.length < sizeLine ∧ Nx (upd H4 D (.lst (acc ++ [y]))) else Nx H3) := by
  refine lc_it w (fun i H => ∃ acc, H D = some (.lst acc) ∧ acc.length ≤ i ∧ Ex H1 H ∧ P i acc H) ⟨[], upd_same, Nat.le_refl _, Ex.new hD, h0 _ (Ex.new hD)⟩ (fun i H _ h => ?_) (fun i x H H' hi h y => ?_) (fun H h => ?_)
  · obtain ⟨acc, _, _, e, _⟩ := h
    exact hG H e
  · obtain ⟨acc, ha, hl, e, p⟩ := h
    obtain ⟨rfl, hy⟩ := y
    refine hs i x acc H' _ _ hi hy e ha p (fun y H4 e4 p4 => ?_) (fun H3 e3 p3 => ?_)
    · refine ⟨acc, e4 _ _ ha, sz_lt (by omega), acc ++ [y], upd_same, by rw [List.length_append, List.length_singleton]; omega, Ex.mut (e.trans e4) hD, hP _ _ _ _ p4⟩
    · exact ⟨acc, e3 _ _ ha, by omega, e.trans e3, p3⟩
  · obtain ⟨acc, ha, _, e, p⟩ := h
    exact hd acc H e ha p
/-- what is_whole answers of x -/
def WholeJ (K : PySem.W.Frag) (H : Hp) (x : V) (b : Bool) : Prop := ∃ (t : String) (b1 b2 : Bool), TyX K H x (.type t) ∧ PySem.W.kitOne K (.type t) (.type "int") = some b1 ∧ PySem.W.kitOne K (.type t) (.type "bool") = some b2 ∧ b = (b1 && !b2)
/-- x is no text -/
def NoStr (K : PySem.W.Frag) (H : Hp) (x : V) : Prop := ∃ t : String, TyX K H x (.type t) ∧ PySem.W.kitOne K (.type t) (.type "str") = some false
theorem kit_int_int {K : PySem.W.Frag} : PySem.W.kitOne K (.type "int") (.type "int") = some true := kit_ty (by decide +kernel)
theorem kit_int_bool {K : PySem.W.Frag} : PySem.W.kitOne K (.type "int") (.type "bool") = some false := kit_ty (by decide +kernel)
theorem kit_int_str {K : PySem.W.Frag} : PySem.W.kitOne K (.type "int") (.type "str") = some false := kit_ty (by decide +kernel)
theorem kit_int_tuple {K : PySem.W.Frag} : PySem.W.kitOne K (.type "int") (.type "tuple") = some false := kit_ty (by decide +kernel)
theorem kit_int_dict {K : PySem.W.Frag} : PySem.W.kitOne K (.type "int") (.type "dict") = some false := kit_ty (by decide +kernel)
theorem kit_int_list {K : PySem.W.Frag} : PySem.W.kitOne K (.type "int") (.type "list") = some false := kit_ty (by decide +kernel)
theorem kit_bool_int {K : PySem.W.Frag} : PySem.W.kitOne K (.type "bool") (.type "int") = some true := kit_ty (by decide +kernel)
theorem kit_bool_bool {K : PySem.W.Frag} : PySem.W.kitOne K (.type "bool") (.type "bool") = some true := kit_ty (by decide +kernel)
theorem kit_bool_str {K : PySem.W.Frag} : PySem.W.kitOne K (.type "bool") (.type "str") = some false := kit_ty (by decide +kernel)
theorem kit_bool_tuple {K : PySem.W.Frag} : PySem.W.kitOne K (.type "bool") (.type "tuple") = some false := kit_ty (by decide +kernel)
theorem kit_bool_dict {K : PySem.W.Frag} : PySem.W.kitOne K (.type "bool") (.type "dict") = some false := kit_ty (by decide +kernel)
theorem kit_bool_list {K : PySem.W.Frag} : PySem.W.kitOne K (.type "bool") (.type "list") = some false := kit_ty (by decide +kernel)
theorem kit_str_int {K : PySem.W.Frag} : PySem.W.kitOne K (.type "str") (.type "int") = some false := kit_ty (by decide +kernel)
theorem kit_str_bool {K : PySem.W.Frag} : PySem.W.kitOne K (.type "str") (.type "bool") = some false := kit_ty (by decide +kernel)
theorem kit_str_str {K : PySem.W.Frag} : PySem.W.kitOne K (.type "str") (.type "str") = some true := kit_ty (by decide +kernel)
theorem kit_str_tuple {K : PySem.W.Frag} : PySem.W.kitOne K (.type "str") (.type "tuple") = some false := kit_ty (by decide +kernel)
theorem kit_str_dict {K : PySem.W.Frag} : PySem.W.kitOne K (.type "str") (.type "dict") = some false := kit_ty (by decide +kernel)
theorem kit_str_list {K : PySem.W.Frag} : PySem.W.kitOne K (.type "str") (.type "list") = some false := kit_ty (by decide +kernel)
theorem kit_NoneType_int {K : PySem.W.Frag} : PySem.W.kitOne K (.type "NoneType") (.type "int") = some false := kit_ty (by decide +kernel)
theorem kit_NoneType_bool {K : PySem.W.Frag} : PySem.W.kitOne K (.type "NoneType") (.type "bool") = some false := kit_ty (by decide +kernel)
theorem kit_NoneType_str {K : PySem.W.Frag} : PySem.W.kitOne K (.type "NoneType") (.type "str") = some false := kit_ty (by decide +kernel)
theorem kit_NoneType_tuple {K : PySem.W.Frag} : PySem.W.kitOne K (.type "NoneType") (.type "tuple") = some false := kit_ty (by decide +kernel)
theorem kit_NoneType_dict {K : PySem.W.Frag} : PySem.W.kitOne K (.type "NoneType") (.type "dict") = some false := kit_ty (by decide +kernel)
theorem kit_NoneType_list {K : PySem.W.Frag} : PySem.W.kitOne K (.type "NoneType") (.type "list") = some false := kit_ty (by decide +kernel)
theorem kit_tuple_int {K : PySem.W.Frag} : PySem.W.kitOne K (.type "tuple") (.type "int") = some false := kit_ty (by decide +kernel)
theorem kit_tuple_bool {K : PySem.W.Frag} : PySem.W.kitOne K (.type "tuple") (.type "bool") = some false := kit_ty (by decide +kernel)
theorem kit_tuple_str {K : PySem.W.Frag} : PySem.W.kitOne K (.type "tuple") (.type "str") = some false := kit_ty (by decide +kernel)
theorem kit_tuple_tuple {K : PySem.W.Frag} : PySem.W.kitOne K (.type "tuple") (.type "tuple") = some true := kit_ty (by decide +kernel)
theorem kit_tuple_dict {K : PySem.W.Frag} : PySem.W.kitOne K (.type "tuple") (.type "dict") = some false := kit_ty (by decide +kernel)
theorem kit_tuple_list {K : PySem.W.Frag} : PySem.W.kitOne K (.type "tuple") (.type "list") = some false := kit_ty (by decide +kernel)
theorem kit_list_int {K : PySem.W.Frag} : PySem.W.kitOne K (.type "list") (.type "int") = some false := kit_ty (by decide +kernel)
theorem kit_list_bool {K : PySem.W.Frag} : PySem.W.kitOne K (.type "list") (.type "bool") = some false := kit_ty (by decide +kernel)
theorem kit_list_str {K : PySem.W.Frag} : PySem.W.kitOne K (.type "list") (.type "str") = some false := kit_ty (by decide +kernel)
theorem kit_list_tuple {K : PySem.W.Frag} : PySem.W.kitOne K (.type "list") (.type "tuple") = some false := kit_ty (by decide +kernel)
theorem kit_list_dict {K : PySem.W.Frag} : PySem.W.kitOne K (.type "list") (.type "dict") = some false := kit_ty (by decide +kernel)
theorem kit_list_list {K : PySem.W.Frag} : PySem.W.kitOne K (.type "list") (.type "list") = some true := kit_ty (by decide +kernel)
theorem kit_dict_int {K : PySem.W.Frag} : PySem.W.kitOne K (.type "dict") (.type "int") = some false := kit_ty (by decide +kernel)
theorem kit_dict_bool {K : PySem.W.Frag} : PySem.W.kitOne K (.type "dict") (.type "bool") = some false := kit_ty (by decide +kernel)
theorem kit_dict_str {K : PySem.W.Frag} : PySem.W.kitOne K (.type "dict") (.type "str") = some false := kit_ty (by decide +kernel)
theorem kit_dict_tuple {K : PySem.W.Frag} : PySem.W.kitOne K (.type "dict") (.type "tuple") = some false := kit_ty (by decide +kernel)
theorem kit_dict_dict {K : PySem.W.Frag} : PySem.W.kitOne K (.type "dict") (.type "dict") = some true := kit_ty (by decide +kernel)
theorem kit_dict_list {K : PySem.W.Frag} : PySem.W.kitOne K (.type "dict") (.type "list") = some false := kit_ty (by decide +kernel)
theorem WholeJ.int {K : PySem.W.Frag} {H : Hp} (i : Int) : WholeJ K H (.int i) true := ⟨"int", true, false, .base (.int i), kit_int_int, kit_int_bool, rfl⟩
theorem WholeJ.bl {K : PySem.W.Frag} {H : Hp} (i : Bool) : WholeJ K H (.bl i) false := ⟨"bool", true, true, .base (.bl i), kit_bool_int, kit_bool_bool, rfl⟩
theorem WholeJ.str {K : PySem.W.Frag} {H : Hp} (i : Str) : WholeJ K H (.str i) false := ⟨"str", false, false, .base (.str i), kit_str_int, kit_str_bool, rfl⟩
theorem WholeJ.non {K : PySem.W.Frag} {H : Hp} : WholeJ K H .non false := ⟨"NoneType", false, false, .base .non, kit_NoneType_int, kit_NoneType_bool, rfl⟩
theorem WholeJ.tup {K : PySem.W.Frag} {H : Hp} {t : Addr} {xs : List V} (h : SqT K H t xs) : WholeJ K H (.ref t) false := ⟨"tuple", false, false, tyx_t h, kit_tuple_int, kit_tuple_bool, rfl⟩
theorem WholeJ.lst {K : PySem.W.Frag} {H : Hp} {t : Addr} {xs : List V} (h : SqL K H t xs) : WholeJ K H (.ref t) false := ⟨"list", false, false, tyx_l h, kit_list_int, kit_list_bool, rfl⟩
theorem WholeJ.dct {K : PySem.W.Frag} {H : Hp} {t : Addr} {xs : List (Key × V)} (h : Rd H t (.dK xs)) : WholeJ K H (.ref t) false := ⟨"dict", false, false, tyx_d h, kit_dict_int, kit_dict_bool, rfl⟩
theorem NoStr.int {K : PySem.W.Frag} {H : Hp} (i : Int) : NoStr K H (.int i) := ⟨"int", .base (.int i), kit_int_str⟩
theorem NoStr.bl {K : PySem.W.Frag} {H : Hp} (i : Bool) : NoStr K H (.bl i) := ⟨"bool", .base (.bl i), kit_bool_str⟩
theorem NoStr.non {K : PySem.W.Frag} {H : Hp} : NoStr K H .non := ⟨"NoneType", .base .non, kit_NoneType_str⟩
theorem NoStr.tup {K : PySem.W.Frag} {H : Hp} {t : Addr} {xs : List V} (h : SqT K H t xs) : NoStr K H (.ref t) := ⟨"tuple", tyx_t h, kit_tuple_str⟩
theorem NoStr.lst {K : PySem.W.Frag} {H : Hp} {t : Addr} {xs : List V} (h : SqL K H t xs) : NoStr K H (.ref t) := ⟨"list", tyx_l h, kit_list_str⟩
theorem NoStr.dct {K : PySem.W.Frag} {H : Hp} {t : Addr} {xs : List (Key × V)} (h : Rd H t (.dK xs)) : NoStr K H (.ref t) := ⟨"dict", tyx_d h, kit_dict_str⟩
/-- an item of a list at an open place in bounds -/
theorem tl_len (z : Str) : z.cps.toList.length = z.length := Array.length_toList
theorem ixN_in {n : Nat} {i : Int} (h0 : 0 ≤ i) (h1 : i < n) : ixN n i = some i.toNat := by
  have q : ixN n ((i.toNat : Nat) : Int) = some i.toNat := Evl.ixN_nat (by omega)
  rw [show ((i.toNat : Nat) : Int) = i by omega] at q
  exact q
theorem mod_in {a b : Int} (h : 0 < b) : 0 ≤ a % b ∧ a % b < b := ⟨Int.emod_nonneg _ (by omega), Int.emod_lt_of_pos _ h⟩
theorem atI_in {α : Type} {xs : List α} {i : Int} (h0 : 0 ≤ i) (h1 : i < xs.length) : ∃ v, atI xs i = some v ∧ v ∈ xs := by
  have hj : i.toNat < xs.length := by omega
  have q : atI xs ((i.toNat : Nat) : Int) = some xs[i.toNat] := atI_nat (List.getElem?_eq_getElem hj)
  exact ⟨xs[i.toNat], by rw [show ((i.toNat : Nat) : Int) = i by omega] at q; exact q, List.getElem_mem hj⟩
theorem atI_getD {xs : List V} {i : Int} (h0 : 0 ≤ i) (h1 : i < xs.length) : atI xs i = some (xs.getD i.toNat .non) := by
  obtain ⟨v, hv, _⟩ := atI_in h0 h1
  have hj : i.toNat < xs.length := by omega
  have q : atI xs ((i.toNat : Nat) : Int) = some xs[i.toNat] := atI_nat (List.getElem?_eq_getElem hj)
  rw [show ((i.toNat : Nat) : Int) = i by omega] at q
  rw [q]
  simp [List.getD, List.getElem?_eq_getElem hj]
theorem getD_mem {xs : List V} {i : Int} (h0 : 0 ≤ i) (h1 : i < xs.length) : xs.getD i.toNat .non ∈ xs := by
  have hj : i.toNat < xs.length := by omega
  have : xs.getD i.toNat .non = xs[i.toNat] := by simp [List.getD, List.getElem?_eq_getElem hj]
  rw [this]
  exact List.getElem_mem hj
theorem WholeJ.mono {K : PySem.W.Frag} {H H' : Hp} {x : V} {b : Bool} (e : Ex H H') (h : WholeJ K H x b) : WholeJ K H' x b := by
  obtain ⟨t, b1, b2, h1, h2⟩ := h
  exact ⟨t, b1, b2, tyx_mono e h1, h2⟩
theorem NoStr.mono {K : PySem.W.Frag} {H H' : Hp} {x : V} (e : Ex H H') (h : NoStr K H x) : NoStr K H' x := by
  obtain ⟨t, h1, h2⟩ := h
  exact ⟨t, tyx_mono e h1, h2⟩
end Gc
/- what is known of an earlier heap, at a later one -/
local macro_rules | `(tactic| walk_at "gc_ex") => `(tactic| first
  | assumption
  | exact Evl.Ex.refl _
  | (refine' Evl.Ex.trans ?h (by assumption); (case h => walk_at "gc_ex")))
local macro_rules | `(tactic| walk_at "gc_at") => `(tactic| first
  | assumption
  | exact Evl.st_of (by assumption)
  | exact Evl.sq_of (by assumption)
  | exact L2.Rd.of (by assumption)
  | (refine' Evl.ex_t (by assumption) ?h; (case h => walk_at "gc_at"))
  | (refine' Evl.ex_l (by assumption) ?h; (case h => walk_at "gc_at"))
  | (refine' Evl.ex_rd (by assumption) ?h; (case h => walk_at "gc_at"))
  | (refine' Gc.ex_at (by assumption) ?h; (case h => walk_at "gc_at"))
  | walk_at "gc_x")
local macro_rules | `(tactic| walk_at "gc_ty") => `(tactic| first
  | exact L2.TyX.base (L2.TyOf.int _)
  | exact L2.TyX.base (L2.TyOf.bl _)
  | exact L2.TyX.base (L2.TyOf.str _)
  | exact L2.TyX.base L2.TyOf.non
  | assumption
  | (refine' Gc.tyx_t ?h; (case h => walk_at "gc_at"))
  | (refine' Gc.tyx_l ?h; (case h => walk_at "gc_at"))
  | (refine' Gc.tyx_d ?h; (case h => walk_at "gc_at")))
local macro_rules | `(tactic| walk_at "gc_kit") => `(tactic| first
  | exact Gc.kit_int_int
  | exact Gc.kit_int_bool
  | exact Gc.kit_int_str
  | exact Gc.kit_int_tuple
  | exact Gc.kit_int_dict
  | exact Gc.kit_int_list
  | exact Gc.kit_bool_int
  | exact Gc.kit_bool_bool
  | exact Gc.kit_bool_str
  | exact Gc.kit_bool_tuple
  | exact Gc.kit_bool_dict
  | exact Gc.kit_bool_list
  | exact Gc.kit_str_int
  | exact Gc.kit_str_bool
  | exact Gc.kit_str_str
  | exact Gc.kit_str_tuple
  | exact Gc.kit_str_dict
  | exact Gc.kit_str_list
  | exact Gc.kit_NoneType_int
  | exact Gc.kit_NoneType_bool
  | exact Gc.kit_NoneType_str
  | exact Gc.kit_NoneType_tuple
  | exact Gc.kit_NoneType_dict
  | exact Gc.kit_NoneType_list
  | exact Gc.kit_tuple_int
  | exact Gc.kit_tuple_bool
  | exact Gc.kit_tuple_str
  | exact Gc.kit_tuple_tuple
  | exact Gc.kit_tuple_dict
  | exact Gc.kit_tuple_list
  | exact Gc.kit_list_int
  | exact Gc.kit_list_bool
  | exact Gc.kit_list_str
  | exact Gc.kit_list_tuple
  | exact Gc.kit_list_dict
  | exact Gc.kit_list_list
  | exact Gc.kit_dict_int
  | exact Gc.kit_dict_bool
  | exact Gc.kit_dict_str
  | exact Gc.kit_dict_tuple
  | exact Gc.kit_dict_dict
  | exact Gc.kit_dict_list)
/- the answers that need no thought -/
local macro_rules | `(tactic| walk_at "gc_sd") => `(tactic| first
  | rfl
  | walk_at "gc_at"
  | exact L2.ClsV.ty _
  | walk_at "gc_ty"
  | walk_at "gc_kit"
  | exact Gc.sz _
  | exact Gc.pos60
  | exact ⟨by decide, by decide⟩
  | exact ⟨_, rfl⟩
  | exact Or.inl (by walk_at "gc_at")
  | exact Or.inr (by walk_at "gc_at")
  | exact Or.inr ⟨by decide, by decide⟩
  | exact Or.inl ⟨by decide, by decide⟩
  | exact Or.inr ⟨by omega, by omega⟩
  | exact Or.inl ⟨by omega, by omega⟩
  | exact ⟨by decide, by decide, by decide⟩
  | exact ⟨by omega, by omega⟩
  | exact Evl.sz_of (by omega)
  | exact Evl.sz_lt (by omega)
  | exact Exists.intro _ (by assumption)
  | exact Or.inl ⟨rfl, Exists.intro _ (Evl.sq_of (by assumption))⟩
  | walk_at "gc_y"
  | decide
  | omega)
local macro_rules | `(tactic| walk_at "gc_e") => `(tactic| (apply Exists.intro; first | refine And.intro rfl ?_ | walk_at "gc_e"))
/- one step of a reading -/
local macro_rules | `(tactic| walk_at "gc_1") => `(tactic| first
  | (refine And.intro rfl ?_)
  | walk_at "gc_e"
  | (with_reducible refine L2.iteT ?_)
  | (with_reducible refine L2.iteF ?_)
  | (with_reducible refine Gc.ite_refl ?_)
  | (with_reducible refine Gc.ite_nrefl ?_)
  | (intro p hp; refine (?_ : ∃ W : Nat → Nat → L2.Hp → Prop, _))
  | (intro p hp; generalize hX : L2.upd _ p _ = H1; have e1 := Gc.ab_ex hp hX; have f1 := Gc.ab_at hX; clear hX)
  | (refine' And.intro ?s ?_; (case s => walk_at "gc_sd"))
  | intro _)
local macro_rules | `(tactic| walk_at "gc") => `(tactic| repeat walk_at "gc_1")

namespace Gc
open PySem L2 Evl
/-! ### the laws' numbers -/
/-- the greater one, as the program's max takes it -/
def gmax (i j : Int) : Int := if j > i then j else i
/-- the lesser one, as the program's min takes it -/
def gmin (i j : Int) : Int := if j < i then j else i
theorem gmax_comm (i j : Int) : gmax i j = gmax j i := by unfold gmax; split <;> split <;> omega
theorem gmax_back (i j : Int) : gmax (gmax i j) i = gmax i j := by unfold gmax; split <;> split <;> omega
theorem gmax_in (i j : Int) : gmax i (gmax j i) = gmax j i := by unfold gmax; split <;> split <;> omega
/-- whether (a, b) reaches (c, d) -/
def reachB (a b c d : Int) : Bool := decide (c ≤ a) && decide (d ≤ b)
theorem reachB_self (a b : Int) : reachB a b a b = true := by unfold reachB; simp
/-- a cell of the script, 0 behind its end -/
def cellI (ns : List Int) (k : Int) : Int := ns.getD k.toNat 0
/-- a def of whole numbers that makes nothing -/
def sp_i1 (f : Int → Int) : Sp := fun vs H Q _ => ∃ c : Int, vs = [.int c] ∧ Q (.int (f c)) H
def sp_i2 (f : Int → Int → Int) : Sp := fun vs H Q _ => ∃ c e : Int, vs = [.int c, .int e] ∧ Q (.int (f c e)) H
def numberBy (c : Int) : Int :=
  if c % 5 < 2 then c / 5 % 3 * (c % 5) else if c % 5 = 2 then c / 5 % 1000 else if c % 5 = 3 then c / 5 % 10 ^ 60 else 10 ^ 60 - 1 - c / 5 % 1000
/-! ### names -/
def LET : Str := "abcdefghijklmnopqrstuvwxyz"
/-- a text of 1 to 8 small letters -/
def nameB (z : Str) : Bool := decide ((1 : Int) ≤ (z.length : Nat)) && (decide (((z.length : Nat) : Int) ≤ 8) && z.cps.toList.all fun c => decide (c ∈ LET.cps.toList))
theorem nameB_yes (z : Str) (h1 : (1 : Int) ≤ (z.length : Nat)) (h2 : ((z.length : Nat) : Int) ≤ 8) : ((z.cps.toList.map fun c => decide (c ∈ LET.cps.toList)).all id) = nameB z := by
  unfold nameB
  rw [decide_eq_true h1, decide_eq_true h2, Bool.true_and, Bool.true_and, List.all_map]
  rfl
theorem nameB_long (z : Str) (h2 : ¬ ((z.length : Nat) : Int) ≤ 8) : nameB z = false := by
  unfold nameB
  rw [decide_eq_false h2, Bool.false_and, Bool.and_false]
theorem nameB_short (z : Str) (h2 : ¬ (1 : Int) ≤ (z.length : Nat)) : nameB z = false := by
  unfold nameB
  rw [decide_eq_false h2, Bool.false_and]
theorem take_map_succ {α β : Type} {f : α → β} {l : List α} {i : Nat} {x : α} (h : l[i]? = some x) : (l.take (i + 1)).map f = (l.take i).map f ++ [f x] := by
  rw [List.take_add_one, h, List.map_append]
  rfl
theorem all_take_succ {α : Type} {p : α → Bool} {l : List α} {i : Nat} {x : α} (h : l[i]? = some x) : (l.take (i + 1)).all p = ((l.take i).all p && p x) := by
  rw [List.take_add_one, h, List.all_append]
  simp
/-- texts of one sign each -/
def sg (c : Nat) : Str := ⟨#[c]⟩
def Signs (p : Nat → Prop) (xs : List V) : Prop := ∃ cs : List Nat, xs = (cs.map sg).map V.str ∧ ∀ c ∈ cs, p c
theorem Signs.nil {p : Nat → Prop} : Signs p [] := ⟨[], rfl, fun _ h => (by cases h)⟩
theorem Signs.one {p : Nat → Prop} {xs : List V} {c : Nat} (h : Signs p xs) (hc : p c) : Signs p (xs ++ [.str ⟨#[c]⟩]) := by
  obtain ⟨cs, rfl, q⟩ := h
  refine ⟨cs ++ [c], by rw [List.map_append, List.map_append]; rfl, fun d hd => ?_⟩
  rcases List.mem_append.mp hd with h | h
  · exact q d h
  · rw [List.mem_singleton.mp h]; exact hc
theorem Signs.put {p : Nat → Prop} {xs : List V} {c : Nat} (h : Signs p xs) (hc : p c) (j : Nat) : Signs p (xs.set j (.str ⟨#[c]⟩)) := by
  obtain ⟨cs, rfl, q⟩ := h
  refine ⟨cs.set j c, by rw [List.map_set, List.map_set]; rfl, fun d hd => ?_⟩
  rcases List.mem_or_eq_of_mem_set hd with h | h
  · exact q d h
  · rw [h]; exact hc
theorem sg_lens : ∀ cs : List Nat, ((cs.map sg).map (fun x => x.length)).sum = cs.length
  | [] => rfl
  | c :: cs => by
    show 1 + ((cs.map sg).map (fun x => x.length)).sum = cs.length + 1
    rw [sg_lens cs, Nat.add_comm]
theorem sg_size (cs : List Nat) (h : cs.length ≤ 100000) : ((cs.map sg).map (fun x => x.length)).sum + (cs.map sg).length * ("" : Str).length ≤ 16777216 := by
  rw [sg_lens, List.length_map]
  show cs.length + cs.length * 0 ≤ 16777216
  omega
theorem joinL_sg : ∀ cs : List Nat, TL.joinL [] (cs.map fun c => [c]) = cs
  | [] => rfl
  | [c] => rfl
  | c :: d :: r => by
    show [c] ++ ([] ++ TL.joinL [] ((d :: r).map fun c => [c])) = c :: d :: r
    rw [joinL_sg (d :: r)]
    rfl
theorem join_sg (cs : List Nat) : Txt.join ("" : Str) (cs.map sg) = ⟨cs.toArray⟩ := by
  have e := SX.join_S [] (cs.map fun c => [c])
  rw [joinL_sg, List.map_map] at e
  exact e
/-- an amount -/
def amountB (i : Int) : Bool := decide (1 ≤ i) && decide (i ≤ 1000000000)
theorem amountB_alt (N : Int) : amountB N = (decide (0 < N) && decide (N < 1000000001)) := by
  have e1 : decide (1 ≤ N) = decide (0 < N) := decide_eq_decide.mpr (by omega)
  have e2 : decide (N ≤ 1000000000) = decide (N < 1000000001) := decide_eq_decide.mpr (by omega)
  unfold amountB
  rw [e1, e2]
/-- what a law promises: True -/
def sp_law (K : PySem.W.Frag) : Sp := fun vs H Q _ => ∃ (a : Addr) (ns : List Int), vs = [.ref a] ∧ SqL K H a (ns.map V.int) ∧ ns.length ≤ 63 ∧ ∀ H', Q (.bl true) H'
end Gc

namespace Gc
open PySem PySem.Spec PyProof.Rows L2
/-! ### == and != of dicts whose values are data (or the very same objects) -/
theorem hu70 {A : Around} {k : Nat} (hr : Room k A) : A.units + 70 < cLine := by have := hr.un; omega
/-- v == v' answers b: one object, or data -/
def EqJ (K : PySem.W.Frag) (H : Hp) (v v' : V) (b : Bool) : Prop :=
  (∃ a, v = .ref a ∧ v' = .ref a ∧ b = true) ∨ ∃ d e, Dp K H v d ∧ Dp K H v' e ∧ SeqAt.shaped d = true ∧ SeqAt.shaped e = true ∧ b = PyData.eqv d e
section
variable {X : Cx} {pins : List (Addr × Obj)} {σ : L2.St} {H : Hp} {s : Shared}
theorem eqj_at (I : Inv X pins σ H s) (hu : X.A.units + 70 < cLine) {v v' : V} {b : Bool} {u u' : Value} (h : EqJ X.K H v v' b) (r : RelV v u) (r' : RelV v' u') : SeqAt.EqAt X.A.in1 s u u' b := by
  rcases h with ⟨a, rfl, rfl, rfl⟩ | ⟨d, e, hd, he, sd, se, rfl⟩
  · cases r
    cases r'
    exact SeqAt.EqAt.same _
  · obtain ⟨as, r1⟩ := Dp.reads I d v u hd r
    obtain ⟨bs, r2⟩ := Dp.reads I e v' u' he r'
    exact PySem.W.keq_at r1 r2 sd se (by show X.A.units + 1 + 64 < cLine; omega)
/-- the answer of ks == ls, item by item -/
def dictEqB (ks ls : List (Key × V)) (e : Key → Bool) : Bool := decide (ks.length = ls.length) && ks.all fun p => (valV ls p.1).isSome && e p.1
theorem hits_j (I : Inv X pins σ H s) (hu : X.A.units + 70 < cLine) {ls : List (Key × V)} {vb : List (Key × Value)} (rb : KV ls vb) {e : Key → Bool} {ks : List (Key × V)} {va : List (Key × Value)} (ra : KV ks va) :
    (∀ p ∈ ks, ∀ v', valV ls p.1 = some v' → EqJ X.K H p.2 v' (e p.1)) → PySem.W.KeqHits X.A.in1 s vb va (ks.all fun p => (valV ls p.1).isSome && e p.1) := by
  unfold KV at ra
  induction ra with
  | nil => exact fun _ => .nil
  | @cons p q ps qs h t ih =>
    intro hp
    obtain ⟨k, v⟩ := q
    obtain ⟨h1, h2⟩ := h
    have h1' : p.1 = k := h1
    have rest := ih fun p' hm => hp p' (List.mem_cons_of_mem _ hm)
    have q0 := rb.val p.1
    cases hv : valV ls p.1 with
    | none =>
      rw [hv] at q0
      have hn : valueAt vb k = none := by
        rw [← h1']
        cases z : valueAt vb p.1 with
        | none => rfl
        | some y => rw [z] at q0; exact q0.elim
      have g : ((p :: ps).all fun p => (valV ls p.1).isSome && e p.1) = false := by simp [hv]
      rw [g]
      exact .miss hn
    | some v' =>
      rw [hv] at q0
      obtain ⟨y, hy, ry⟩ := RelO.some_of q0
      rw [h1'] at hy
      have g : ((p :: ps).all fun p => (valV ls p.1).isSome && e p.1) = (e p.1 && ps.all fun p => (valV ls p.1).isSome && e p.1) := by simp [hv]
      rw [g]
      exact .hit hy (eqj_at I hu (hp p List.mem_cons_self v' hv) h2 ry) rest
def rPgEq (K : PySem.W.Frag) (neg : Bool) : R2 := fun x y H Q => Hold (∃ (a b : Addr) (ks ls : List (Key × V)) (e : Key → Bool), x = .ref a ∧ y = .ref b ∧ Rd H a (.dK ks) ∧ Rd H b (.dK ls) ∧
  (∀ p ∈ ks, ∀ v', valV ls p.1 = some v' → EqJ K H p.2 v' (e p.1)) ∧ Q (.bl (if neg = true then !dictEqB ks ls e else dictEqB ks ls e)) H)
theorem op_pgEq (hu : X.A.units + 70 < cLine) : OpR X (compareOp .Eq) (rPgEq X.K false) := by
  intro pins s σ H x y v u Q I rx ry h
  obtain ⟨⟨a, b, ks, ls, e, rfl, rfl, ea, eb, hj, q⟩⟩ := h
  obtain rfl : v = Value.ref a := rx
  obtain rfl : u = Value.ref b := ry
  obtain ⟨_, ya, va, ra, da⟩ := dk_rd I.hok ea
  obtain ⟨_, yb, vb, rb, db⟩ := dk_rd I.hok eb
  refine PySem.W.keq_eq (knd := mixKind X.prog X.w) ya yb da db (by omega) (fun _ => hits_j I hu rb ra hj) (fin_bl I q ?_)
  show dictEqB ks ls e = _
  unfold dictEqB
  rw [ra.length, rb.length]
  cases hq : (va.length == vb.length) <;> simp_all
theorem op_pgEqN (hu : X.A.units + 70 < cLine) : OpR X (compareOp .NotEq) (rPgEq X.K true) := by
  intro pins s σ H x y v u Q I rx ry h
  obtain ⟨⟨a, b, ks, ls, e, rfl, rfl, ea, eb, hj, q⟩⟩ := h
  obtain rfl : v = Value.ref a := rx
  obtain rfl : u = Value.ref b := ry
  obtain ⟨_, ya, va, ra, da⟩ := dk_rd I.hok ea
  obtain ⟨_, yb, vb, rb, db⟩ := dk_rd I.hok eb
  refine PySem.W.keq_ne (knd := mixKind X.prog X.w) ya yb da db (by omega) (fun _ => hits_j I hu rb ra hj) (fin_bl I q ?_)
  show (!dictEqB ks ls e) = _
  unfold dictEqB
  rw [ra.length, rb.length]
  cases hq : (va.length == vb.length) <;> simp_all
theorem pg_go {K : PySem.W.Frag} {H : Hp} {Q : VK} {a b : Addr} {ks ls : List (Key × V)} (e : Key → Bool) (ha : Rd H a (.dK ks)) (hb : Rd H b (.dK ls)) (h : ∀ p ∈ ks, ∀ v', valV ls p.1 = some v' → EqJ K H p.2 v' (e p.1)) (q : Q (.bl (dictEqB ks ls e)) H) :
    rPgEq K false (.ref a) (.ref b) H Q := ⟨⟨a, b, ks, ls, e, rfl, rfl, ha, hb, h, q⟩⟩
theorem pgN_go {K : PySem.W.Frag} {H : Hp} {Q : VK} {a b : Addr} {ks ls : List (Key × V)} (e : Key → Bool) (ha : Rd H a (.dK ks)) (hb : Rd H b (.dK ls)) (h : ∀ p ∈ ks, ∀ v', valV ls p.1 = some v' → EqJ K H p.2 v' (e p.1)) (q : Q (.bl (!dictEqB ks ls e)) H) :
    rPgEq K true (.ref a) (.ref b) H Q := ⟨⟨a, b, ks, ls, e, rfl, rfl, ha, hb, h, q⟩⟩
end
end Gc

namespace Gc
open PySem PySem.Spec PyProof.Rows L2 L2H
/-! ### own exceptions (context None), a def called with the exception that is handled -/
theorem passLN {X : Cx} : Passes (L2N.CX X.prog X.w) X L2.E0 := by
  intro _ _ _ _ _ _ _ h
  obtain ⟨_, _, _, _, _, _, _, _, _, _, _, _, z⟩ := h
  exact z.elim
theorem takesN0 {X : Cx} : L2N.Takes X (fun _ _ _ _ => False) := by
  intro _ _ x
  obtain ⟨_, _, _, _, _, _, _, _, _, _, _, _, _, _, _, _, z⟩ := x
  exact z.elim
section
variable {P : Program} {w : World} {K : PySem.W.Frag} {mg : Str → Option Value} {base : Heap}
/-- a def that may raise -/
theorem okN {x qual : Str} {st : Stmt} {f : Addr} {fd : FuncData} {N ps : List Str} {k : Nat} {sp : Sp} (F : Fun K x qual st f fd) (S : FnScope N ps (defScope st))
    (len : ∀ vs H Q E, sp vs H Q E → vs.length = ps.length)
    (hbody : ∀ (cdv : Value) (A : Around) (outer : List Env) (s : Shared) (H : Hp) (vs : List V) (Q : VK) (E : XK), Room k (A.deeper (envOfC qual (defScope st) s.heap.objs.size f cdv)) → sp vs H Q E →
      ∃ t, PSs (cxOf (L2N.CX P w) P w K mg base N qual (defScope st) f cdv A outer s H E) (defBody st) t ∧ t { nx := fun _ H' => Q .non H', rt := Q } (L2.start N vs) H) :
    FnOk P w K mg base (L2N.CX P w) (k + 1) f fd ps sp := by
  obtain ⟨k1, k2, k3, k4, k5, k6, k7, k8, k9, rfl, lk, hcd⟩ := F.ex
  exact L2.fn_of lk hcd S len (fun A outer s H vs Q E hr q => hbody k7 A outer s H vs Q E hr q)
/-- what a def promises that is called with the exception in hand: a its address, c its class, dx its dict -/
structure FnE (P : Program) (w : World) (K : PySem.W.Frag) (mg : Str → Option Value) (base : Heap) (k : Nat) (f : Addr) (fd : FuncData) (ps : List Str) (sp : Addr → Value → Option Addr → Sp) : Prop where
  len : ∀ a c dx vs H Q E, sp a c dx vs H Q E → vs.length = ps.length
  run : ∀ (A : Around) (outer : List Env) (s : Shared) (H : Hp) (us : List Value) (vs : List V) (Q : VK) (p : Addr × Obj) (c : Value) (dx : Option Addr), RoomH k A → Hot1 A p → Zc c dx p.2 → PinOk outer H s p → Env0 P w K mg base A outer s H →
    BindsTo s fd ⟨us, []⟩ (ps.zip us) → Vals vs us → sp p.1 c dx vs H Q L2.E0 → codeAny (model P w) A (.call (.ref f) ⟨us, []⟩) (CR L2.CX0 outer P w H s Q L2.E0) s
theorem fnE_of {x qual : Str} {st : Stmt} {f : Addr} {fd : FuncData} {N ps : List Str} {k : Nat} {sp : Addr → Value → Option Addr → Sp} (F : Fun K x qual st f fd) (S : FnScope N ps (defScope st))
    (len : ∀ a c dx vs H Q E, sp a c dx vs H Q E → vs.length = ps.length)
    (body : ∀ (cdv : Value) (A : Around) (outer : List Env) (s : Shared) (H : Hp) (vs : List V) (Q : VK) (a : Addr) (oe : Obj) (c : Value) (dx : Option Addr), Hot1 A (a, oe) → Zc c dx oe → RoomH k (A.deeper (envOfC qual (defScope st) s.heap.objs.size f cdv)) → sp a c dx vs H Q L2.E0 →
      ∃ t, PSs (cxH L2.CX0 P w K mg base N qual (defScope st) f cdv A outer s H L2.E0 (a, oe)) (defBody st) t ∧ t { nx := fun _ H' => Q .non H', rt := Q } (L2.start N vs) H) :
    FnE P w K mg base (k + 1) f fd ps sp := by
  obtain ⟨k1, k2, k3, k4, k5, k6, k7, k8, k9, rfl, lk, hcd⟩ := F.ex
  refine ⟨len, ?_⟩
  rintro A outer s H us vs Q ⟨a, oe⟩ c dx hr hot hz hpin e0 hb r hsp
  have hl := len _ _ _ _ _ _ _ hsp
  have kIn : K.In s.heap := e0.mod.kin.keeps (fun b o q => (e0.bs b o q).1)
  have hlim : s.heap.NoLimit := e0.mod.nolimit.keeps (fun b o q => (e0.bs b o q).1)
  have kinds : ∀ y ∈ ps.zip us, (defScope st).names.lookup y.1 = some .local ∨ ((defScope st).names.lookup y.1 = some .cell ∧ ((cellsFrom (s.heap.objs.size + 1) (defScope st).names []).lookup y.1).isSome = true) := by
    rintro ⟨n, v⟩ hy
    exact (S.par n (List.of_mem_zip hy).1).imp id (fun q => ⟨q, PySem.W.cellsFrom_some _ _ _ (.inl q)⟩)
  refine codeAny_call_function hr.depth (kIn _ _ lk) rfl S.co S.gen rfl (PySem.W.codeRec_of kIn hcd) (hb _ _ _ _ (wpAny_newFunctionEnv_cells S.kind kinds (fun env he s1 z => ?_)))
  subst he
  refine ⟨hlim.keeps z.toInCall.keep, codeAny_func ?_⟩
  obtain ⟨t, ht, hq⟩ := body k7 A outer s H vs Q a oe c dx hot hz (hr.deeper _) hsp
  have I := inv_startH (CX := L2.CX0) (E := L2.E0) (f := f) (cd := k7) S hpin e0 hl r z
  refine wpAny_mono (ht.run [] s1 _ H _ I hq) (fun fl s' hs => ?_) (fun _ _ q => q)
  cases fl with
  | ret u =>
    obtain ⟨v, σ', H', J, rv, q⟩ := hs
    exact ⟨v, H', J.os, J.bare, J.base, J.hok, rv, q⟩
  | next =>
    obtain ⟨σ', H', J, q⟩ := hs
    exact ⟨V.non, H', J.os, J.bare, J.base, J.hok, rfl, q⟩
  | brk => exact (let ⟨_, _, _, q⟩ := hs; q.elim)
  | cont => exact (let ⟨_, _, _, q⟩ := hs; q.elim)
end
section
variable {X : Cx} {k : Nat} {f C : Addr} {fd : FuncData} {ps : List Str} {x : Str} {q pos : Pos} {e : Expr} {es : List Expr} {t : TA}
/-- its call, within the suite -/
theorem pe_callE {sp : Addr → Value → Option Addr → Sp} {a : Addr} {oe : Obj} {c : Value} {dx : Option Addr} (F : FnE X.prog X.w X.K X.mg X.base k f fd ps sp) (hr : RoomH k X.A) (hot : Hot1 X.A (a, oe)) (hz : Zc c dx oe) (hp : (a, oe) ∈ X.pn)
    (hg : Gl X x) (hm : X.mg x = some (.ref f)) (hk : PySem.W.keepIn X.K (.ref f) = true) (hb : Binds X.K fd ps []) (ha : PA X (e :: es) t)
    (hdb : (x == ("__debug__" : Str)) = false := by decide) (he : starEach (e :: es) X.env = (false, eval e X.env) :: starEach es X.env := by rfl) (hpl : (backTo pos (starEach es X.env)).any (·.1) = false := by rfl) :
    PE X (.Call (.Name x q) (e :: es) [] pos) (tCallS (sp a c dx) (fun _ => L2.E0) t) := by
  refine ⟨?_⟩
  intro pins s σ H Q I h
  refine wpAny_Call_Name_kw (ld_glob I hg hm (PySem.W.callWith_K (h₀ := X.base) I.ok.mod.kin hk (thn (ha.run pos pins s σ H _ I h) fun us s1 z => ?_) he hpl) hdb)
  obtain ⟨vs, H1, I1, r, hsp⟩ := z
  refine ⟨I1.kIn, ?_⟩
  have hl : us.length = ps.length := r.length.symm.trans (F.len _ _ _ _ _ _ _ hsp)
  have b := hb s1 us I1.kIn (by rw [List.append_nil]; exact hl)
  rw [List.append_nil] at b
  have P1 := I1.pin (a, oe) (List.mem_append_left _ hp)
  have hpin : PinOk X.stack H1 s1 (a, oe) := ⟨P1.1, P1.2.1, fun m => (List.mem_cons.mp (I1.stkSub a m)).elim P1.2.2.1 P1.2.2.2.1, P1.2.2.2.2⟩
  refine wpAny_call (codeAny_mono (F.run X.A X.stack s1 H1 us vs Q (a, oe) c dx hr hot hz hpin I1.env0 b r hsp) fun r' s' hq => ?_)
  cases r' with
  | error e => exact hq.elim
  | ok fl =>
    cases fl with
    | ret u => exact I1.after hq
    | next => exact hq.elim
    | brk => exact hq.elim
    | cont => exact hq.elim
/-- isinstance(e, c), e the exception in hand -/
theorem call_isP {a D : Addr} {oe : Obj} (c : ExcC X.K D) (hp : (a, oe) ∈ X.pn) (hz : Zc (.ref D) none oe) (hf : ∃ vs, oe.data = .fields vs) : CallR X (.builtin "isinstance") (rIsE X.K D a) := by
  obtain ⟨vs, hv⟩ := hf
  intro pins s σ H xs us Q I r h
  obtain ⟨y, cv, b, e, hcv, hk, hq⟩ := h
  subst e
  obtain ⟨u1, r1, e1, z1, rest⟩ : ∃ u1 r1, us = u1 :: r1 ∧ RelV (.ref a) u1 ∧ Vals [y] r1 := by
    cases r with
    | cons rx rr => exact ⟨_, _, rfl, rx, rr⟩
  obtain ⟨u2, e2, z2⟩ : ∃ u2, r1 = [u2] ∧ RelV y u2 := by
    cases rest with
    | cons rx rr => cases rr; exact ⟨_, rfl, rx⟩
  obtain rfl : u1 = Value.ref a := z1
  rw [hcv _ z2] at e2
  subst e2
  subst e1
  have hget := (I.pin (a, oe) (List.mem_append_left _ hp)).1
  have J : PySem.W.InstAt s.heap a oe D none := by
    obtain ⟨oc, od, dd, sl⟩ := oe
    have h1 : oc = .ref D := hz.1
    have h2 : od = none := hz.2
    have h3 : dd = .fields vs := hv
    subst h1 h2 h3
    exact ⟨hget, rfl, rfl, trivial⟩
  exact PySem.W.kia_one (PySem.W.handS_kitx_exc c.hg c.hk c.hs c.hd c.ha c.hn c.ht c.hm) I.kIn J hk (fun z => nomatch z) (fun tk => ⟨.bl b, H, I.kept (t' := tk) (fun _ _ z => z), rfl, hq⟩)
/-- C(a, ..) where __init__ may raise, in a try -/
def tMakeS (C : Addr) (sp : Sp) (E : L2.St → XK) (t : TA) : TE := fun σ H Q => t σ H fun vs H1 => ∀ x dx, H1 x = none → H1 dx = none → dx ≠ x → sp (.ref x :: vs) (upd (upd H1 dx (.own x)) x (.ins C dx [])) (fun v H2 => v = .non ∧ Q (.ref x) H2) (E σ)
theorem pe_makeS {CX : CXT} {E : L2.St → XK} {sp : Sp} (M : Mk X.K C f) (F : FnOk X.prog X.w X.K X.mg X.base CX k f fd ps sp) (hr : Room (k + 1) X.A) (hg : Gl X x) (hm : X.mg x = some (.ref C)) (hb : Binds X.K fd ps []) (hx : ∀ σ, PassesAt CX X σ (E σ))
    (ha : PA X (e :: es) t) (hdb : (x == ("__debug__" : Str)) = false := by decide) (he : starEach (e :: es) X.env = (false, eval e X.env) :: starEach es X.env := by rfl) (hpl : (backTo pos (starEach es X.env)).any (·.1) = false := by rfl) :
    PE X (.Call (.Name x q) (e :: es) [] pos) (tMakeS C sp E t) := by
  refine ⟨?_⟩
  intro pins s σ H Q I h
  refine wpAny_Call_Name_kw (ld_glob I hg hm (PySem.W.callWith_K (h₀ := X.base) I.ok.mod.kin M.kp (thn (ha.run pos pins s σ H _ I h) fun us s1 z => ?_) he hpl) hdb)
  obtain ⟨vs, H1, I1, r, hsp⟩ := z
  refine ⟨I1.kIn, ?_⟩
  have q1 := hsp (s1.heap.objs.size + 1) s1.heap.objs.size (I1.hok.fresh (Nat.le_succ _)) (I1.hok.fresh (Nat.le_refl _)) (Nat.ne_of_lt (Nat.lt_succ_self _))
  have J := Inv.made (C := C) I1
  have rv : Vals (V.ref (s1.heap.objs.size + 1) :: vs) (Value.ref (s1.heap.objs.size + 1) :: us) := .cons rfl r
  have hl : (Value.ref (s1.heap.objs.size + 1) :: us).length = ps.length := rv.length.symm.trans (F.len _ _ _ _ q1)
  have b := hb _ (Value.ref (s1.heap.objs.size + 1) :: us) J.kIn (by rw [List.append_nil]; exact hl)
  rw [List.append_nil] at b
  refine wpAny_call (make_map (f := f) I1.kIn M.makes M.init (beq_iff_eq.mp M.fn) (codeAny_mono (F.run _ X.stack _ _ _ _ _ _ (E σ) (hr.make C us []) (J.env0.make C us []) b rv q1) fun r' s' hq => ?_))
  cases r' with
  | error e => exact hx σ _ _ _ e s' J hq
  | ok fl =>
    cases fl with
    | ret u =>
      obtain ⟨v, H', J2, rv2, ev, q3⟩ := J.after hq
      rw [ev] at rv2
      exact ⟨rv2, ⟨V.ref (s1.heap.objs.size + 1), H', J2, rfl, q3⟩⟩
    | next => exact hq.elim
    | brk => exact hq.elim
    | cont => exact hq.elim
end
/-- o.m(e, ..) within a try: what it raises is wished for at the slots as they stand -/
def tMethS (C : Addr) (m : Str) (sp : Sp) (E : L2.St → XK) (ta : TE) (t : TA) : TE := fun σ H Q => ta σ H fun x H1 => ∃ a dx fs, x = .ref a ∧ H1 a = some (.ins C dx fs) ∧ fs.lookup m = none ∧ t σ H1 fun vs H2 => sp (x :: vs) H2 Q (E σ)
theorem pe_methS {X : Cx} {CX : CXT} {k : Nat} {f C : Addr} {fd : FuncData} {ps : List Str} {sp : Sp} {E : L2.St → XK} {m : Str} {pos apos : Pos} {e o : Expr} {es : List Expr} {ta : TE} {t : TA} {pl : Sem Bool} (he : PE X o ta) (c : Cls X.K C) (hm : Meth X.K C m f)
    (F : FnOk X.prog X.w X.K X.mg X.base CX k f fd ps sp) (hr : Room k X.A) (hb : Binds X.K fd ps []) (hx : ∀ σ, PassesAt CX X σ (E σ)) (ha : PA X (e :: es) t)
    (hst : starEach (e :: es) X.env = (false, eval e X.env) :: starEach es X.env := by rfl) (hpl : (backTo pos (starEach es X.env)).any (·.1) = false := by rfl)
    (ht : eval (.Call (.Attribute o m apos) (e :: es) [] pos) X.env = (do
      let ov ← eval o X.env
      standAt apos.atName
      let (f, first) ← holding [ov] (getMethod ov m pl)
      callWith pos f first (backTo pos (starEach (e :: es) X.env)) (backToKw pos (keywordEach [] X.env))) := by rfl) :
    PE X (.Call (.Attribute o m apos) (e :: es) [] pos) (tMethS C m sp E ta t) := by
  refine ⟨fun pins s σ H Q I h => ?_⟩
  refine PySem.W.methodCall_KW (pl := pl) (thn (he.run pins s σ H _ I h) fun u s1 ⟨x, H1, I1, rx, a, dx, fs, ex, ea, l, q⟩ => ?_) ht
  subst ex
  obtain rfl : u = Value.ref a := rx
  refine getmeth_ok I1 ea c hm l ?_
  refine PySem.W.callWith_K (first := [.ref a]) (h₀ := X.base) I.ok.mod.kin hm.kp (thn (ha.run pos pins s1 σ H1 _ I1 q) fun us s2 ⟨vs, H2, I2, r, q2⟩ => ⟨I2.kIn, ?_⟩) hst hpl
  exact run_fnS (us := .ref a :: us) (vs := .ref a :: vs) F hr hb (hx σ) I2 (.cons rfl r) q2
/-- the suite's room and exception -/
theorem roomMark {k j : Nat} {A : Around} {v : Option Value} (hr : Room j A) (h : k ≤ j) : RoomH k (A.mark v) := ⟨(hr.mono h).dp, (hr.mono h).un⟩
theorem hotMark {A : Around} {a : Addr} {oe : Obj} {c : Value} {dx : Option Addr} (hz : L2N.Zn c dx oe) (hf : ∃ vs, oe.data = .fields vs) : Hot1 (A.mark (some (.ref a))) (a, oe) := by
  obtain ⟨vs, hv⟩ := hf
  exact ⟨rfl, vs, hv, hz.2.2 vs hv⟩
end Gc

namespace Gc
open PySem L2 Evl
/-! ### what may be read stays: locks come and go, new things come -/
def Er (H H' : Hp) : Prop := ∀ a o, H a = some o → H' a = some o ∨ ∃ kvs : List (Key × V), (o = .dK kvs ∨ ∃ od, o = .frz od (.dK kvs)) ∧ Rd H' a (.dK kvs)
theorem Er.refl (H : Hp) : Er H H := fun _ _ h => .inl h
theorem Er.of {H H' : Hp} (e : Ex H H') : Er H H' := fun a o h => .inl (e a o h)
theorem Er.rd {H H' : Hp} (e : Er H H') {a : Addr} {kvs : List (Key × V)} (h : Rd H a (.dK kvs)) : Rd H' a (.dK kvs) := by
  rcases h with h | ⟨od, h⟩
  · rcases e a _ h with q | ⟨kk, q1, q2⟩
    · exact .inl q
    · rcases q1 with q1 | ⟨_, q1⟩
      · cases q1; exact q2
      · cases q1
  · rcases e a _ h with q | ⟨kk, q1, q2⟩
    · exact .inr ⟨_, q⟩
    · rcases q1 with q1 | ⟨_, q1⟩
      · cases q1
      · cases q1; exact q2
theorem Er.trans {H H1 H2 : Hp} (e : Er H H1) (f : Er H1 H2) : Er H H2 := fun a o h => by
  rcases e a o h with q | ⟨kvs, q1, q2⟩
  · exact f a o q
  · exact .inr ⟨kvs, q1, f.rd q2⟩
theorem Er.tup {H H' : Hp} (e : Er H H') {a : Addr} {xs : List V} (h : H a = some (.tup xs)) : H' a = some (.tup xs) := by
  rcases e a _ h with q | ⟨kk, q1, q2⟩
  · exact q
  · rcases q1 with q1 | ⟨_, q1⟩ <;> cases q1
theorem Er.lst {H H' : Hp} (e : Er H H') {a : Addr} {xs : List V} (h : H a = some (.lst xs)) : H' a = some (.lst xs) := by
  rcases e a _ h with q | ⟨kk, q1, q2⟩
  · exact q
  · rcases q1 with q1 | ⟨_, q1⟩ <;> cases q1
theorem Er.ftup {H H' : Hp} (e : Er H H') {a : Addr} {od} {xs : List V} (h : H a = some (.frz od (.tup xs))) : H' a = some (.frz od (.tup xs)) := by
  rcases e a _ h with q | ⟨kk, q1, q2⟩
  · exact q
  · rcases q1 with q1 | ⟨_, q1⟩ <;> cases q1
theorem Er.flst {H H' : Hp} (e : Er H H') {a : Addr} {od} {xs : List V} (h : H a = some (.frz od (.lst xs))) : H' a = some (.frz od (.lst xs)) := by
  rcases e a _ h with q | ⟨kk, q1, q2⟩
  · exact q
  · rcases q1 with q1 | ⟨_, q1⟩ <;> cases q1
theorem Er.sqT {K : PySem.W.Frag} {H H' : Hp} (e : Er H H') {a : Addr} {xs : List V} (h : SqT K H a xs) : SqT K H' a xs := by
  rcases h with (h | ⟨o, h⟩) | h
  · exact .inl (.inl (e.tup h))
  · exact .inl (.inr ⟨o, e.ftup h⟩)
  · exact .inr h
theorem Er.sqL {K : PySem.W.Frag} {H H' : Hp} (e : Er H H') {a : Addr} {xs : List V} (h : SqL K H a xs) : SqL K H' a xs := by
  rcases h with (h | ⟨o, h⟩) | h
  · exact .inl (.inl (e.lst h))
  · exact .inl (.inr ⟨o, e.flst h⟩)
  · exact .inr h
theorem Er.lock {H : Hp} {d : Addr} {od : Obj} {kvs : List (Key × V)} (h : H d = some (.dK kvs)) : Er H (upd H d (.frz od (.dK kvs))) := fun a o q => by
  by_cases e : a = d
  · subst e
    rw [h] at q
    cases q
    exact .inr ⟨kvs, .inl rfl, .inr ⟨od, upd_same⟩⟩
  · exact .inl (by rw [upd_ne e]; exact q)
theorem Er.unlock {H : Hp} {d : Addr} {od : Obj} {kvs : List (Key × V)} (h : H d = some (.frz od (.dK kvs))) : Er H (upd H d (.dK kvs)) := fun a o q => by
  by_cases e : a = d
  · subst e
    rw [h] at q
    cases q
    exact .inr ⟨kvs, .inr ⟨od, rfl⟩, .inl upd_same⟩
  · exact .inl (by rw [upd_ne e]; exact q)
theorem lock_ex {H H' : Hp} {d : Addr} {od : Obj} {u : HO} (e : Ex (upd H d (.frz od u)) H') (h : H d = some u) : Ex H (upd H' d u) := fun a o q => by
  by_cases c : a = d
  · subst c
    rw [h] at q
    cases q
    exact upd_same
  · rw [upd_ne c]
    exact e a o (by rw [upd_ne c]; exact q)
/-- behind a loop over a dict that only made new things -/
theorem unl {H H' : Hp} {d : Addr} {od : Obj} {u : HO} {R : Hp → Prop} (hd : H d = some u) (e : Ex (upd H d (.frz od u)) H') (h : ∀ H2, Ex H H2 → R H2) : H' d = some (.frz od u) ∧ R (upd H' d u) :=
  ⟨e d _ upd_same, h _ (lock_ex e hd)⟩
/-- x's type, whatever it is -/
theorem Er.ty {K : PySem.W.Frag} {H H' : Hp} {x : V} {t : Value} (e : Er H H') (h : TyX K H x t) : TyX K H' x t := by
  cases h with
  | base b =>
    cases b with
    | non => exact .base .non
    | bl y => exact .base (.bl y)
    | int y => exact .base (.int y)
    | str y => exact .base (.str y)
    | flt y => exact .base (.flt y)
    | lst q => exact .base (.lst (e.lst q))
    | @frz a ob xs q => exact .base (.frz (e.flst q))
    | tup q => exact .base (.tup (e.tup q))
    | dK q => exact tyx_d (e.rd (.inl q))
    | dT q =>
      rcases e _ _ q with q | ⟨kk, q1, q2⟩
      · exact .base (.dT q)
      · rcases q1 with q1 | ⟨_, q1⟩ <;> cases q1
    | ins q c a n k m =>
      rcases e _ _ q with q | ⟨kk, q1, q2⟩
      · exact .base (.ins q c a n k m)
      · rcases q1 with q1 | ⟨_, q1⟩ <;> cases q1
  | byt b => exact .byt b
  | set q =>
    rcases e _ _ q with q | ⟨kk, q1, q2⟩
    · exact .set q
    · rcases q1 with q1 | ⟨_, q1⟩ <;> cases q1
  | kList q c => exact .kList q c
  | kTuple q c => exact .kTuple q c
  | kDict q c => exact .kDict q c
  | fTuple q => exact .fTuple (e.ftup q)
  | fDict q => exact tyx_d (e.rd (.inr ⟨_, q⟩))
theorem Er.whole {K : PySem.W.Frag} {H H' : Hp} {x : V} {b : Bool} (e : Er H H') (h : WholeJ K H x b) : WholeJ K H' x b := by
  obtain ⟨t, b1, b2, h1, h2⟩ := h
  exact ⟨t, b1, b2, e.ty h1, h2⟩
/-- len of a dict, locked or not -/
theorem call_lenDR {X : Cx} : CallR X (.builtin "len") (fun xs H Q => ∃ a kvs, xs = [V.ref a] ∧ Rd H a (.dK kvs) ∧ Q (.int (kvs : List (Key × V)).length) H) := by
  intro pins s σ H xs us Q I r h
  obtain ⟨a, kvs, rfl, ha, q⟩ := h
  obtain ⟨u, rfl, ru⟩ := vals1 r
  cases ru
  exact d_len I ha fun t s' I' => ⟨.int kvs.length, H, I', ⟨t, rfl⟩, q⟩
/-- d[k] of a dict by keys, locked or not -/
theorem dget_k {H : Hp} {a : Addr} {kvs : List (Key × V)} {k : Key} {v : V} (e : Rd H a (.dK kvs)) (h : valV kvs k = some v) : DGet H a (kV k) (some v) := .inl ⟨kvs, k, e, rfl, h.symm⟩
theorem dget_o {H : Hp} {a : Addr} {kvs : List (Key × V)} (k : Key) (e : Rd H a (.dK kvs)) : DGet H a (kV k) (valV kvs k) := .inl ⟨kvs, k, e, rfl, rfl⟩
/-! ### pages that are built by putting -/
def putAll (ps : List (Key × V)) : List (Key × V) := ps.foldl (fun acc p => putK acc p.1 p.2) []
theorem putAll_snoc (ps : List (Key × V)) (p : Key × V) : putAll (ps ++ [p]) = putK (putAll ps) p.1 p.2 := by unfold putAll; rw [List.foldl_append]; rfl
theorem nd_put {κ : Type} [DecidableEq κ] {kvs : List (κ × V)} {k : κ} (v : V) (hn : (kvs.map (·.1)).Nodup) : ((putK kvs k v).map (·.1)).Nodup := by
  unfold putK
  split
  · rw [List.map_map]
    have e : ((fun x : κ × V => x.1) ∘ fun kv : κ × V => if kv.1 = k then (kv.1, v) else kv) = fun x => x.1 := by
      funext x
      show (if x.1 = k then (x.1, v) else x).1 = x.1
      split <;> rfl
    rw [e]
    exact hn
  · rename_i h
    have : valV kvs k = none := by
      have q := valV_any k kvs
      cases z : valV kvs k with
      | none => rfl
      | some y => rw [z] at q; exact absurd q h
    have q := nd_putK v hn this
    unfold putK at q
    rw [if_neg h] at q
    exact q
theorem snoc_ind {α : Type} {P : List α → Prop} (h0 : P []) (h1 : ∀ l a, P l → P (l ++ [a])) : ∀ l, P l := by
  intro l
  have : ∀ n (l : List α), l.length = n → P l := by
    intro n
    induction n with
    | zero => intro l e; rw [List.eq_nil_of_length_eq_zero e]; exact h0
    | succ n ih =>
      intro l e
      have hl : l ≠ [] := by intro z; rw [z] at e; cases e
      rw [← List.dropLast_concat_getLast hl]
      exact h1 _ _ (ih _ (by rw [List.length_dropLast]; omega))
  exact this _ l rfl
theorem putAll_nd : ∀ ps : List (Key × V), ((putAll ps).map (·.1)).Nodup := by
  refine snoc_ind List.nodup_nil (fun l a h => ?_)
  rw [putAll_snoc]
  exact nd_put _ h
theorem putAll_len : ∀ ps : List (Key × V), (putAll ps).length ≤ ps.length := by
  refine snoc_ind (Nat.le_refl _) (fun l a h => ?_)
  rw [putAll_snoc, List.length_append]
  have := length_putK (putAll l) a.1 a.2
  show _ ≤ l.length + 1
  omega
theorem putAll_eq : ∀ ps : List (Key × V), (putAll ps).length = ps.length → putAll ps = ps := by
  refine snoc_ind (fun _ => rfl) (fun l a h hl => ?_)
  rw [putAll_snoc] at hl ⊢
  rw [List.length_append] at hl
  have h1 := length_putK (putAll l) a.1 a.2
  have h2 := putAll_len l
  have hl' : (putK (putAll l) a.1 a.2).length = l.length + 1 := hl
  have e := h (by omega)
  rw [e] at hl' ⊢
  unfold putK at hl' ⊢
  split
  · rename_i c
    rw [if_pos c, List.length_map] at hl'
    omega
  · rfl
theorem valV_mem {κ : Type} [DecidableEq κ] {kvs : List (κ × V)} {k : κ} {v : V} (h : valV kvs k = some v) : (k, v) ∈ kvs := by
  unfold valV at h
  cases z : kvs.find? fun kv => decide (kv.1 = k) with
  | none => rw [z] at h; cases h
  | some p =>
    rw [z] at h
    have e1 : p.2 = v := by simpa using h
    have e2 : p.1 = k := of_decide_eq_true (List.find?_some (p := fun kv : κ × V => decide (kv.1 = k)) z)
    rw [← e1, ← e2]
    exact List.mem_of_find?_eq_some z
theorem valV_some {κ : Type} [DecidableEq κ] {kvs : List (κ × V)} {p : κ × V} (h : p ∈ kvs) : ∃ v, valV kvs p.1 = some v := by
  have q := valV_any p.1 kvs
  have : (kvs.any fun kv => decide (kv.1 = p.1)) = true := List.any_eq_true.mpr ⟨p, h, decide_eq_true rfl⟩
  rw [this] at q
  cases z : valV kvs p.1 with
  | none => rw [z] at q; cases q
  | some v => exact ⟨v, rfl⟩
theorem rd_fz {H : Hp} {a : Addr} {o : Obj} {u : HO} (h : H a = some (.frz o u)) : Rd H a u := .inr ⟨o, h⟩
theorem isD_of {H : Hp} {a : Addr} {kvs : List (Key × V)} (h : Rd H a (.dK kvs)) : IsD H a := .inl ⟨kvs, h⟩
/-- a for whose body neither returns nor breaks: its goal is small -/
theorem for_go {J : It} {n : Nat} {G : Hp → Prop} {Y : Nat → Hp → V → Hp → Prop} (w : Walk J n G Y) {g : TG} {tb : TS} {D : Ends} {σ : L2.St} {H : Hp} (Pv : Nat → L2.St → Hp → Prop) (h0 : Pv 0 σ H) (hG : ∀ i σ H, i ≤ n → Pv i σ H → G H)
    (hs : ∀ (R : VK) (B : L2.St → Hp → Prop) i x σ H H', i < n → Pv i σ H → Y i H x H' → g x σ H' fun σ2 H2 => tb ⟨Pv (i + 1), R, B, Pv (i + 1)⟩ σ2 H2) (hd : ∀ σ H, Pv n σ H → D.nx σ H) :
    ∃ W : Nat → Nat → L2.St → Hp → Prop, (∃ m, W 0 m σ H) ∧ ∀ i m σ H, W i m σ H →
      (J.stop i H ∧ D.nx σ H) ∨ (J.go i H ∧ ∃ N : L2.St → Hp → Prop, (∀ σ' H', N σ' H' → ∃ m', m' < m ∧ W (i + 1) m' σ' H') ∧ ∀ x H', J.yld i H x H' → g x σ H' fun σ2 H2 => tb { D with nx := N, ct := N, bk := D.nx } σ2 H2) :=
  for_it w Pv h0 hG (fun i x σ H H' hi hp hy => hs D.rt D.nx i x σ H H' hi hp hy) hd
/-- a cut whose first statement neither returns nor breaks -/
theorem cut_go {t u : TS} {D : Ends} {σ : L2.St} {H : Hp} (Mid : L2.St → Hp → Prop) (h : ∀ (R : VK) (B E : L2.St → Hp → Prop), t ⟨Mid, R, B, E⟩ σ H) (h2 : ∀ σ' H', Mid σ' H' → u D σ' H') : C8.tCut t u D σ H := ⟨Mid, h D.rt D.bk D.ct, h2⟩
theorem er_mut {H H' : Hp} {p : Addr} {o : HO} (e : Er H H') (hp : H p = none) : Er H (upd H' p o) := fun a u q => by
  have c : a ≠ p := fun z => by rw [z, hp] at q; cases q
  rcases e a u q with z | ⟨kk, q1, q2⟩
  · exact .inl (by rw [upd_ne c]; exact z)
  · exact .inr ⟨kk, q1, q2.elim (fun z => .inl (by rw [upd_ne c]; exact z)) (fun ⟨od, z⟩ => .inr ⟨od, by rw [upd_ne c]; exact z⟩)⟩
/-- a statement with the rest of the program behind a name -/
theorem op_go {t u : TS} {D : Ends} {σ : L2.St} {H : Hp} (h : ∀ (N : L2.St → Hp → Prop) (R : VK) (B E : L2.St → Hp → Prop), (∀ σ' H', u D σ' H' → N σ' H') → (∀ v H', D.rt v H' → R v H') → t ⟨N, R, B, E⟩ σ H) : C8.tCut t u D σ H := ⟨u D, h _ D.rt D.bk D.ct (fun _ _ q => q) (fun _ _ q => q), fun _ _ q => q⟩
/-- the last statement -/
theorem end_go {t : TS} {D : Ends} {σ : L2.St} {H : Hp} (h : ∀ (N : L2.St → Hp → Prop) (R : VK) (B E : L2.St → Hp → Prop), (∀ σ' H', D.nx σ' H' → N σ' H') → (∀ v H', D.rt v H' → R v H') → t ⟨N, R, B, E⟩ σ H) : t D σ H := h _ _ D.bk D.ct (fun _ _ q => q) (fun _ _ q => q)
/-- types and tuples stay -/
structure Et (K : PySem.W.Frag) (H H' : Hp) : Prop where
  tp : ∀ a xs, SqT K H a xs → SqT K H' a xs
  ty : ∀ x t, TyX K H x t → TyX K H' x t
theorem Et.refl {K : PySem.W.Frag} (H : Hp) : Et K H H := ⟨fun _ _ h => h, fun _ _ h => h⟩
theorem Et.trans {K : PySem.W.Frag} {H H1 H2 : Hp} (e : Et K H H1) (f : Et K H1 H2) : Et K H H2 := ⟨fun a xs h => f.tp a xs (e.tp a xs h), fun x t h => f.ty x t (e.ty x t h)⟩
theorem Er.et {K : PySem.W.Frag} {H H' : Hp} (e : Er H H') : Et K H H' := ⟨fun _ _ h => e.sqT h, fun _ _ h => e.ty h⟩
theorem Et.of {K : PySem.W.Frag} {H H' : Hp} (e : Ex H H') : Et K H H' := (Er.of e).et
theorem Et.whole {K : PySem.W.Frag} {H H' : Hp} {x : V} {b : Bool} (e : Et K H H') (h : WholeJ K H x b) : WholeJ K H' x b := by
  obtain ⟨t, b1, b2, h1, h2⟩ := h
  exact ⟨t, b1, b2, e.ty _ _ h1, h2⟩
theorem et_mut {K : PySem.W.Frag} {H : Hp} {p : Addr} {o o' : HO} (h : H p = some o) (hk : (∃ xs ys, o = .lst xs ∧ o' = .lst ys) ∨ ∃ xs ys : List (Key × V), o = .dK xs ∧ o' = .dK ys) : Et K H (upd H p o') := by
  have nt : ∀ a xs, H a = some (.tup xs) → a ≠ p := fun a xs q z => by
    subst z
    rw [h] at q
    rcases hk with ⟨_, _, rfl, _⟩ | ⟨_, _, rfl, _⟩ <;> cases q
  have nf : ∀ a od u, H a = some (.frz od u) → a ≠ p := fun a od xs q z => by
    subst z
    rw [h] at q
    rcases hk with ⟨_, _, rfl, _⟩ | ⟨_, _, rfl, _⟩ <;> cases q
  refine ⟨fun a xs q => ?_, fun x t q => ?_⟩
  · rcases q with (q | ⟨od, q⟩) | q
    · exact .inl (.inl (by rw [upd_ne (nt _ _ q)]; exact q))
    · exact .inl (.inr ⟨od, by rw [upd_ne (nf _ _ _ q)]; exact q⟩)
    · exact .inr q
  · cases q with
    | base b =>
      cases b with
      | non => exact .base .non
      | bl y => exact .base (.bl y)
      | int y => exact .base (.int y)
      | str y => exact .base (.str y)
      | flt y => exact .base (.flt y)
      | @lst a xs q =>
        by_cases c : a = p
        · subst c
          rw [h] at q
          rcases hk with ⟨_, _, rfl, rfl⟩ | ⟨_, _, rfl, _⟩
          · exact .base (.lst upd_same)
          · cases q
        · exact .base (.lst (by rw [upd_ne c]; exact q))
      | frz q => exact .base (.frz (by rw [upd_ne (nf _ _ _ q)]; exact q))
      | tup q => exact .base (.tup (by rw [upd_ne (nt _ _ q)]; exact q))
      | @dK a xs q =>
        by_cases c : a = p
        · subst c
          rw [h] at q
          rcases hk with ⟨_, _, rfl, rfl⟩ | ⟨_, _, rfl, rfl⟩
          · cases q
          · exact .base (.dK upd_same)
        · exact .base (.dK (by rw [upd_ne c]; exact q))
      | @dT a xs q =>
        have c : a ≠ p := fun c => by subst c; rw [h] at q; rcases hk with ⟨_, _, rfl, _⟩ | ⟨_, _, rfl, _⟩ <;> cases q
        exact .base (.dT (by rw [upd_ne c]; exact q))
      | @ins a C dx fs q c1 a1 n1 k1 m1 =>
        have c : a ≠ p := fun c => by subst c; rw [h] at q; rcases hk with ⟨_, _, rfl, _⟩ | ⟨_, _, rfl, _⟩ <;> cases q
        exact .base (.ins (by rw [upd_ne c]; exact q) c1 a1 n1 k1 m1)
    | byt b => exact .byt b
    | @set a S n q =>
      have c : a ≠ p := fun c => by subst c; rw [h] at q; rcases hk with ⟨_, _, rfl, _⟩ | ⟨_, _, rfl, _⟩ <;> cases q
      exact .set (by rw [upd_ne c]; exact q)
    | kList q c => exact .kList q c
    | kTuple q c => exact .kTuple q c
    | kDict q c => exact .kDict q c
    | fTuple q => exact .fTuple (by rw [upd_ne (nf _ _ _ q)]; exact q)
    | fDict q => exact .fDict (by rw [upd_ne (nf _ _ _ q)]; exact q)
theorem Et.lst {K : PySem.W.Frag} {H : Hp} {p : Addr} {xs ys : List V} (h : H p = some (.lst xs)) : Et K H (upd H p (.lst ys)) := et_mut h (.inl ⟨_, _, rfl, rfl⟩)
theorem Et.dK {K : PySem.W.Frag} {H : Hp} {p : Addr} {xs ys : List (Key × V)} (h : H p = some (.dK xs)) : Et K H (upd H p (.dK ys)) := et_mut h (.inr ⟨_, _, rfl, rfl⟩)
/-- a loop over a dict -/
theorem lock_go {t : TS} {D : Ends} {σ : L2.St} {H : Hp} {d : Addr} {kvs : List (Key × V)} (hd : H d = some (.dK kvs))
    (h : ∀ od H1, H1 d = some (.frz od (.dK kvs)) → Er H H1 → (∀ H', Ex H1 H' → Ex H (upd H' d (.dK kvs))) → (∀ a, a ≠ d → H1 a = H a) →
      t ⟨fun σ' H' => H' d = some (.frz od (.dK kvs)) ∧ D.nx σ' (upd H' d (.dK kvs)), fun v H' => H' d = some (.frz od (.dK kvs)) ∧ D.rt v (upd H' d (.dK kvs)), fun σ' H' => H' d = some (.frz od (.dK kvs)) ∧ D.bk σ' (upd H' d (.dK kvs)), fun σ' H' => H' d = some (.frz od (.dK kvs)) ∧ D.ct σ' (upd H' d (.dK kvs))⟩ σ H1) :
    tLock t D σ H := ⟨d, _, hd, trivial, fun od => h od _ upd_same (Er.lock hd) (fun H' e => lock_ex e hd) (fun a c => upd_ne c)⟩
end Gc
/- reading facts along Ex and Er -/
local macro_rules | `(tactic| walk_at "gc_er") => `(tactic| first
  | assumption
  | exact Gc.Er.refl _
  | exact Gc.Er.of (by assumption)
  | (refine' Gc.Er.trans ?h (by assumption); (case h => walk_at "gc_er"))
  | (refine' Gc.Er.trans ?h (Gc.Er.of (by assumption)); (case h => walk_at "gc_er")))
local macro_rules | `(tactic| walk_at "gc_ra") => `(tactic| first
  | assumption
  | exact Evl.st_of (by assumption)
  | exact Evl.sq_of (by assumption)
  | exact L2.Rd.of (by assumption)
  | exact Gc.rd_fz (by assumption)
  | (refine' Gc.Er.sqT (by assumption) ?h; (case h => walk_at "gc_ra"))
  | (refine' Gc.Er.sqL (by assumption) ?h; (case h => walk_at "gc_ra"))
  | (refine' Gc.Er.rd (by assumption) ?h; (case h => walk_at "gc_ra"))
  | (refine' Gc.Er.sqT (Gc.Er.of (by assumption)) ?h; (case h => walk_at "gc_ra"))
  | (refine' Gc.Er.sqL (Gc.Er.of (by assumption)) ?h; (case h => walk_at "gc_ra"))
  | (refine' Gc.Er.rd (Gc.Er.of (by assumption)) ?h; (case h => walk_at "gc_ra")))
local macro_rules | `(tactic| walk_at "gc_et") => `(tactic| first
  | assumption
  | exact Gc.Et.refl _
  | exact Gc.Et.of (by assumption)
  | exact Gc.Er.et (by assumption)
  | exact Gc.Et.lst (by assumption)
  | exact Gc.Et.dK (by assumption)
  | (refine' Gc.Et.trans ?h (by assumption); (case h => walk_at "gc_et"))
  | (refine' Gc.Et.trans ?h (Gc.Et.of (by assumption)); (case h => walk_at "gc_et"))
  | (refine' Gc.Et.trans ?h (Gc.Er.et (by assumption)); (case h => walk_at "gc_et")))

namespace Gc
open PySem L2 Evl
def LIM : Int := 10 ^ 60
inductive NumJ (K : PySem.W.Frag) (H : Hp) : V → Option Int → Prop
  | int (i : Int) : NumJ K H (.int i) (some i)
  | odd {x : V} (h : WholeJ K H x false) : NumJ K H x none
def goodN : Option Int → Bool
  | some i => decide (0 ≤ i) && decide (i < LIM)
  | none => false
def pairB : Option Int → Option Int → Bool
  | some i, some j => goodN (some i) && (goodN (some j) && decide (0 < i + j))
  | _, _ => false
theorem NumJ.et {K : PySem.W.Frag} {H H' : Hp} (e : Et K H H') {x : V} {o : Option Int} (h : NumJ K H x o) : NumJ K H' x o := by
  cases h with
  | int i => exact .int i
  | odd h => exact .odd (e.whole h)
/-- what is_share answers of v -/
inductive ShJ (K : PySem.W.Frag) (H : Hp) : V → Bool → Prop
  | int (i : Int) : ShJ K H (.int i) false
  | oth {a : Addr} {t : String} (h : TyX K H (.ref a) (.type t)) (k : PySem.W.kitOne K (.type t) (.type "tuple") = some false) : ShJ K H (.ref a) false
  | len {a : Addr} {xs : List V} (h : SqT K H a xs) (n : ¬ xs.length = 2) : ShJ K H (.ref a) false
  | two {a : Addr} {x y : V} {o p : Option Int} (h : SqT K H a [x, y]) (hx : NumJ K H x o) (hy : NumJ K H y p) : ShJ K H (.ref a) (pairB o p)
theorem ShJ.et {K : PySem.W.Frag} {H H' : Hp} (e : Et K H H') {v : V} {b : Bool} (h : ShJ K H v b) : ShJ K H' v b := by
  cases h with
  | int i => exact .int i
  | oth h k => exact .oth (e.ty _ _ h) k
  | len h n => exact .len (e.tp _ _ h) n
  | two h hx hy => exact .two (e.tp _ _ h) (hx.et e) (hy.et e)
theorem ShJ.odd {K : PySem.W.Frag} {H : Hp} {a : Addr} {x y : V} {o p : Option Int} (h : SqT K H a [x, y]) (hx : NumJ K H x o) (hy : NumJ K H y p) (e : pairB o p = false) : ShJ K H (.ref a) false := e ▸ .two h hx hy
theorem ShJ.eqj {K : PySem.W.Frag} {H : Hp} {v : V} {b : Bool} (h : ShJ K H v b) : EqJ K H v v true := by
  cases h with
  | int i => exact .inr ⟨.int i, .int i, .int i, .int i, rfl, rfl, by simp [PyData.eqv]⟩
  | oth h k => exact .inl ⟨_, rfl, rfl, rfl⟩
  | len h n => exact .inl ⟨_, rfl, rfl, rfl⟩
  | two h hx hy => exact .inl ⟨_, rfl, rfl, rfl⟩
/-- keys -/
def keyB : Key → Bool
  | .inl _ => false
  | .inr z => nameB z
def keySz : Key → Prop
  | .inl _ => True
  | .inr z => z.length ≤ 100000
/-- a row: the tuple (k, v) -/
def RowAt (K : PySem.W.Frag) (H : Hp) (x : V) (p : Key × V) : Prop := ∃ r, x = .ref r ∧ SqT K H r [kV p.1, p.2]
theorem RowAt.et {K : PySem.W.Frag} {H H' : Hp} (e : Et K H H') {x : V} {p : Key × V} (h : RowAt K H x p) : RowAt K H' x p := by
  obtain ⟨r, h1, h2⟩ := h
  exact ⟨r, h1, e.tp _ _ h2⟩
def RowsAt (K : PySem.W.Frag) (H : Hp) (xs : List V) (ps : List (Key × V)) : Prop := xs.length = ps.length ∧ ∀ (i : Nat) (x : V) (p : Key × V), xs[i]? = some x → ps[i]? = some p → RowAt K H x p
theorem RowsAt.et {K : PySem.W.Frag} {H H' : Hp} (e : Et K H H') {xs : List V} {ps : List (Key × V)} (h : RowsAt K H xs ps) : RowsAt K H' xs ps := ⟨h.1, fun i x p h1 h2 => (h.2 i x p h1 h2).et e⟩
theorem RowsAt.nil {K : PySem.W.Frag} {H : Hp} : RowsAt K H [] [] := ⟨rfl, fun i x p h => by simp at h⟩
theorem RowsAt.snoc {K : PySem.W.Frag} {H : Hp} {xs : List V} {ps : List (Key × V)} {x : V} {p : Key × V} (h : RowsAt K H xs ps) (r : RowAt K H x p) : RowsAt K H (xs ++ [x]) (ps ++ [p]) := by
  refine ⟨by rw [List.length_append, List.length_append, h.1]; rfl, fun i y q h1 h2 => ?_⟩
  by_cases c : i < xs.length
  · rw [List.getElem?_append_left c] at h1
    rw [List.getElem?_append_left (by rw [← h.1]; exact c)] at h2
    exact h.2 i y q h1 h2
  · rw [List.getElem?_append_right (by omega)] at h1
    rw [List.getElem?_append_right (by rw [← h.1]; omega)] at h2
    rw [← h.1] at h2
    have e0 : i - xs.length = 0 := by
      cases z : i - xs.length with
      | zero => rfl
      | succ n => rw [z] at h1; simp at h1
    rw [e0] at h1 h2
    cases h1
    cases h2
    exact r
theorem RowsAt.set {K : PySem.W.Frag} {H : Hp} {xs : List V} {ps : List (Key × V)} {x : V} {p : Key × V} (h : RowsAt K H xs ps) (r : RowAt K H x p) (j : Nat) : RowsAt K H (xs.set j x) (ps.set j p) := by
  refine ⟨by rw [List.length_set, List.length_set, h.1], fun i y q h1 h2 => ?_⟩
  by_cases c : j = i
  · subst c
    rw [List.getElem?_set_self' ] at h1 h2
    cases z1 : xs[j]? with
    | none => rw [z1] at h1; cases h1
    | some a =>
      cases z2 : ps[j]? with
      | none => rw [z2] at h2; cases h2
      | some b =>
        rw [z1] at h1
        rw [z2] at h2
        cases h1
        cases h2
        exact r
  · rw [List.getElem?_set_ne c] at h1 h2
    exact h.2 i y q h1 h2
/-- good rows -/
def AllOk (K : PySem.W.Frag) (H : Hp) (ps : List (Key × V)) : Prop := ∀ p ∈ ps, keyB p.1 = true ∧ ShJ K H p.2 true
/-- one row is odd: its key or its share -/
def OneOdd (K : PySem.W.Frag) (H : Hp) (ps : List (Key × V)) : Prop := ∃ p0 ∈ ps, ∃ b : Bool, ShJ K H p0.2 b ∧ (keyB p0.1 && b) = false ∧ ∀ p ∈ ps, p = p0 ∨ ShJ K H p.2 true
theorem AllOk.et {K : PySem.W.Frag} {H H' : Hp} (e : Et K H H') {ps : List (Key × V)} (h : AllOk K H ps) : AllOk K H' ps := fun p hp => ⟨(h p hp).1, (h p hp).2.et e⟩
theorem OneOdd.et {K : PySem.W.Frag} {H H' : Hp} (e : Et K H H') {ps : List (Key × V)} (h : OneOdd K H ps) : OneOdd K H' ps := by
  obtain ⟨p0, h0, b, h1, h2, h3⟩ := h
  exact ⟨p0, h0, b, h1.et e, h2, fun p hp => (h3 p hp).imp_right fun q => q.et e⟩
/-- what is_page is told of a dict -/
def PageJ (K : PySem.W.Frag) (H : Hp) (kvs : List (Key × V)) (g : Bool) : Prop :=
  (∀ p ∈ kvs, keySz p.1) ∧ kvs.length ≤ 1000 ∧ ∃ f : Key → Bool, (∀ k v, valV kvs k = some v → ShJ K H v (f k)) ∧ g = (decide (((kvs.length : Nat) : Int) ≤ 200) && kvs.all fun p => keyB p.1 && f p.1)
theorem PageJ.et {K : PySem.W.Frag} {H H' : Hp} (e : Et K H H') {kvs : List (Key × V)} {g : Bool} (h : PageJ K H kvs g) : PageJ K H' kvs g := by
  obtain ⟨h1, h2, f, h3, h4⟩ := h
  exact ⟨h1, h2, f, fun k v q => (h3 k v q).et e, h4⟩
theorem pageJ_ok {K : PySem.W.Frag} {H : Hp} {ps : List (Key × V)} (hs : ∀ p ∈ ps, keySz p.1) (hl : ps.length ≤ 1000) (h : AllOk K H ps) : PageJ K H ps (decide (((ps.length : Nat) : Int) ≤ 200)) := by
  refine ⟨hs, hl, fun _ => true, fun k v q => (h _ (valV_mem q)).2, ?_⟩
  have : (ps.all fun p => keyB p.1 && true) = true := List.all_eq_true.mpr fun p hp => by rw [(h p hp).1]; rfl
  rw [this, Bool.and_true]
theorem pageJ_odd {K : PySem.W.Frag} {H : Hp} {ps : List (Key × V)} (hs : ∀ p ∈ ps, keySz p.1) (hl : ps.length ≤ 1000) (nd : (ps.map (·.1)).Nodup) (h : OneOdd K H ps) : PageJ K H ps false := by
  obtain ⟨p0, h0, b, h1, h2, h3⟩ := h
  refine ⟨hs, hl, fun k => if k = p0.1 then b else true, fun k v q => ?_, ?_⟩
  · show ShJ K H v (if k = p0.1 then b else true)
    by_cases c : k = p0.1
    · rw [if_pos c]
      rw [c, val_nodup nd p0 h0] at q
      cases q
      exact h1
    · rw [if_neg c]
      rcases h3 _ (valV_mem q) with z | z
      · exact absurd (congrArg Prod.fst z) c
      · exact z
  · have : (ps.all fun p => keyB p.1 && (if p.1 = p0.1 then b else true)) = false := by
      refine List.all_eq_false.mpr ⟨p0, h0, ?_⟩
      show ¬ (keyB p0.1 && (if p0.1 = p0.1 then b else true)) = true
      rw [if_pos rfl, h2]
      exact Bool.false_ne_true
    rw [this, Bool.and_false]
theorem dictEq_self {ps : List (Key × V)} : dictEqB ps ps (fun _ => true) = true := by
  unfold dictEqB
  have : (ps.all fun p => (valV ps p.1).isSome && true) = true := List.all_eq_true.mpr fun p hp => by
    obtain ⟨v, hv⟩ := valV_some hp
    rw [hv]; rfl
  rw [this, decide_eq_true rfl]
  rfl
def mixedI (c k : Int) : Int := (c % 1000000007 + 7919 * k + 11) * 48271 % 2147483647
theorem mixed_0 (c k : Int) : 0 ≤ mixedI c k := Int.emod_nonneg _ (by decide)
theorem numberBy_in {c : Int} (h : 0 ≤ c) : 0 ≤ numberBy c ∧ numberBy c < LIM := by
  unfold numberBy
  have e : LIM = 10 ^ 60 := rfl
  split
  · rename_i h1
    have a1 := Int.emod_nonneg (c / 5) (show (3 : Int) ≠ 0 by decide)
    have a2 := Int.emod_lt_of_pos (c / 5) (show (0 : Int) < 3 by decide)
    have b1 := Int.emod_nonneg c (show (5 : Int) ≠ 0 by decide)
    have hc : c % 5 = 0 ∨ c % 5 = 1 := by omega
    rcases hc with z | z <;> rw [z, e] <;> omega
  · split
    · rw [e]; omega
    · split
      · rw [e]
        exact ⟨Int.emod_nonneg _ (by decide), Int.emod_lt_of_pos _ (by decide)⟩
      · rw [e]; omega
theorem nameB_iff (z : Str) : nameB z = true ↔ (1 ≤ z.length ∧ z.length ≤ 8 ∧ ∀ c ∈ z.cps.toList, c ∈ LET.cps.toList) := by
  unfold nameB
  rw [Bool.and_eq_true, Bool.and_eq_true, decide_eq_true_eq, decide_eq_true_eq, List.all_eq_true]
  constructor
  · rintro ⟨h1, h2, h3⟩
    exact ⟨by omega, by omega, fun c hc => of_decide_eq_true (h3 c hc)⟩
  · rintro ⟨h1, h2, h3⟩
    exact ⟨by omega, by omega, fun c hc => decide_eq_true (h3 c hc)⟩
theorem app_tl (a b : Str) : (a ++ b).cps.toList = a.cps.toList ++ b.cps.toList := Array.toList_append
theorem app_len (a b : Str) : (a ++ b).length = a.length + b.length := Array.size_append
theorem cut_tl (z : Str) (n : Nat) : (cutS z none (some (n : Int))).cps.toList = z.cps.toList.take n := by
  show List.take (HT.sIx z.length z.length (some (n : Int)) - HT.sIx z.length 0 none) (List.drop (HT.sIx z.length 0 none) z.cps.toList) = _
  rw [HT.sIx_none, HT.sIx_nat, List.drop_zero, Nat.sub_zero]
  by_cases c : n ≤ z.length
  · rw [Nat.min_eq_left c]
  · rw [Nat.min_eq_right (by omega), List.take_of_length_le (by rw [tl_len]; omega), List.take_of_length_le (by rw [tl_len]; omega)]
theorem cut_len (z : Str) (n : Nat) : (cutS z none (some (n : Int))).length = min n z.length := by
  rw [← tl_len, cut_tl, List.length_take, tl_len]
theorem nameB_sg (cs : List Nat) (h1 : 1 ≤ cs.length) (h8 : cs.length ≤ 8) (h : ∀ c ∈ cs, c ∈ LET.cps.toList) : nameB ⟨cs.toArray⟩ = true :=
  (nameB_iff _).mpr ⟨h1, h8, h⟩
theorem nameB_mix {c1 c2 : Nat} {z : Str} (h1 : c1 ∈ LET.cps.toList) (h2 : c2 ∈ LET.cps.toList) (hz : nameB z = true) : nameB ((⟨#[c1]⟩ ++ ⟨#[c2]⟩ : Str) ++ cutS z none (some 6)) = true := by
  obtain ⟨a1, a2, a3⟩ := (nameB_iff _).mp hz
  have e6 := cut_len z 6
  refine (nameB_iff _).mpr ⟨?_, ?_, fun c hc => ?_⟩
  · rw [app_len, app_len]; show 1 ≤ 1 + 1 + _; omega
  · rw [app_len, app_len]
    show 1 + 1 + (cutS z none (some ((6 : Nat) : Int))).length ≤ 8
    omega
  · rw [app_tl, app_tl] at hc
    rcases List.mem_append.mp hc with hc | hc
    · rcases List.mem_append.mp hc with hc | hc
      · rw [List.mem_singleton.mp hc]; exact h1
      · rw [List.mem_singleton.mp hc]; exact h2
    · have hc' : c ∈ (cutS z none (some ((6 : Nat) : Int))).cps.toList := hc
      rw [cut_tl] at hc'
      exact a3 c (List.mem_of_mem_take hc')
theorem nameB_ab {c : Nat} (h : c ∈ (" A1-" : Str).cps.toList) : nameB (("ab" : Str) ++ ⟨#[c]⟩) = false := by
  cases q : nameB (("ab" : Str) ++ ⟨#[c]⟩) with
  | false => rfl
  | true =>
    obtain ⟨_, _, a3⟩ := (nameB_iff _).mp q
    have h3 := a3 c (by rw [app_tl]; exact List.mem_append_right _ (List.mem_singleton.mpr rfl))
    have : ∀ x ∈ (" A1-" : Str).cps.toList, ¬ x ∈ LET.cps.toList := by decide +kernel
    exact absurd h3 (this c h)
theorem nameB_cut {n : Nat} (h : 1 ≤ n) : nameB (cutS "abcdefgh" none (some (n : Int))) = true := by
  have e : ("abcdefgh" : Str).length = 8 := by decide +kernel
  refine (nameB_iff _).mpr ⟨?_, ?_, fun c hc => ?_⟩
  · rw [cut_len, e]; omega
  · rw [cut_len, e]; omega
  · rw [cut_tl] at hc
    have : ∀ x ∈ ("abcdefgh" : Str).cps.toList, x ∈ LET.cps.toList := by decide +kernel
    exact this c (List.mem_of_mem_take hc)
theorem pair_at {K : PySem.W.Frag} {H : Hp} {x y z : V} {o p : Option Int} {i : Nat} (hx : NumJ K H x o) (hy : NumJ K H y p) (h : [x, y][i]? = some z) :
    ∃ oz, NumJ K H z oz ∧ [goodN o, goodN p][i]? = some (goodN oz) ∧ (goodN oz = false → pairB o p = false) := by
  match i, h with
  | 0, h =>
    cases h
    refine ⟨o, hx, rfl, fun q => ?_⟩
    cases o with
    | none => rfl
    | some a =>
      cases p with
      | none => rfl
      | some b => show (goodN (some a) && (goodN (some b) && decide (0 < a + b))) = false; rw [q, Bool.false_and]
  | 1, h =>
    cases h
    refine ⟨p, hy, rfl, fun q => ?_⟩
    cases o with
    | none => rfl
    | some a =>
      cases p with
      | none => rfl
      | some b => show (goodN (some a) && (goodN (some b) && decide (0 < a + b))) = false; rw [q, Bool.false_and, Bool.and_false]
theorem pair_end {o p : Option Int} (h0 : goodN o = true) (h1 : goodN p = true) : ∃ i j, o = some i ∧ p = some j ∧ pairB o p = decide (0 < i + j) := by
  cases o with
  | none => cases h0
  | some i =>
    cases p with
    | none => cases h1
    | some j =>
      refine ⟨i, j, rfl, rfl, ?_⟩
      show (goodN (some i) && (goodN (some j) && decide (0 < i + j))) = _
      rw [h0, h1, Bool.true_and, Bool.true_and]
theorem pairL {i : Int} {p : Option Int} (h : i < 0 ∨ LIM ≤ i) : pairB (some i) p = false := by
  have e : goodN (some i) = false := by
    show (decide (0 ≤ i) && decide (i < LIM)) = false
    rcases h with h | h
    · rw [decide_eq_false (by omega), Bool.false_and]
    · rw [decide_eq_false (p := i < LIM) (by omega), Bool.and_false]
  cases p with
  | none => rfl
  | some b => show (goodN (some i) && _) = false; rw [e, Bool.false_and]
theorem pairR {i : Int} {p : Option Int} (h : i < 0 ∨ LIM ≤ i) : pairB p (some i) = false := by
  have e : goodN (some i) = false := by
    show (decide (0 ≤ i) && decide (i < LIM)) = false
    rcases h with h | h
    · rw [decide_eq_false (by omega), Bool.false_and]
    · rw [decide_eq_false (p := i < LIM) (by omega), Bool.and_false]
  cases p with
  | none => rfl
  | some b => show (goodN (some b) && (goodN (some i) && _)) = false; rw [e, Bool.false_and, Bool.and_false]
theorem allOk_set {K : PySem.W.Frag} {H : Hp} {ps : List (Key × V)} {p : Key × V} (h : AllOk K H ps) (hk : keyB p.1 = true) (hs : ShJ K H p.2 true) (j : Nat) : AllOk K H (ps.set j p) := fun q hq => by
  rcases List.mem_or_eq_of_mem_set hq with c | c
  · exact h q c
  · rw [c]; exact ⟨hk, hs⟩
theorem oneOdd_set {K : PySem.W.Frag} {H : Hp} {ps : List (Key × V)} {p : Key × V} (h : AllOk K H ps) {j : Nat} (hj : j < ps.length) (b : Bool) (hs : ShJ K H p.2 b) (e : (keyB p.1 && b) = false) : OneOdd K H (ps.set j p) :=
  ⟨p, List.mem_set hj p, b, hs, e, fun q hq => (List.mem_or_eq_of_mem_set hq).elim (fun c => .inr (h q c).2) .inl⟩
theorem keySz_set {ps : List (Key × V)} {p : Key × V} (h : ∀ p ∈ ps, keySz p.1) (hk : keySz p.1) (j : Nat) : ∀ q ∈ ps.set j p, keySz q.1 := fun q hq => by
  rcases List.mem_or_eq_of_mem_set hq with c | c
  · exact h q c
  · rw [c]; exact hk
theorem pageJ_nil {K : PySem.W.Frag} {H : Hp} : PageJ K H [] true := ⟨fun p hp => (by cases hp), Nat.zero_le _, fun _ => true, fun k v q => (by cases q), rfl⟩
theorem AllOk.eqj {K : PySem.W.Frag} {H : Hp} {ps : List (Key × V)} (nd : (ps.map (·.1)).Nodup) (h : ∀ p ∈ ps, ∃ b, ShJ K H p.2 b) : ∀ p ∈ ps, ∀ v', valV ps p.1 = some v' → EqJ K H p.2 v' true := fun p hp v' hv => by
  rw [val_nodup nd p hp] at hv
  cases hv
  obtain ⟨b, hb⟩ := h p hp
  exact hb.eqj
end Gc

namespace Gc
open PySem L2 Evl
/-! ### sorted texts: one order only -/
def leS (a b : Str) : Prop := a.cps.toList ≤ b.cps.toList
theorem leS_of {a b : Str} (h : PySem.Spec.ltCps b.cps.toList a.cps.toList = false) : leS a b := by
  rw [PyProof.Rows.ltCps_eq, decide_eq_false_iff_not] at h
  exact List.not_lt.mp h
theorem leS_trans {a b c : Str} (h1 : leS a b) (h2 : leS b c) : leS a c := List.le_trans h1 h2
theorem leS_anti {a b : Str} (h1 : leS a b) (h2 : leS b a) : a = b := by
  have e := List.le_antisymm h1 h2
  cases a with
  | mk x =>
    cases b with
    | mk y => exact congrArg Str.mk (Array.toList_inj.mp e)
theorem rising_le : ∀ (r : List Str) (x : Str), PyProof.Rows.risingS x r = true → (∀ y ∈ r, leS x y) ∧ r.Pairwise leS
  | [], x, _ => ⟨fun y h => (by cases h), .nil⟩
  | z :: r, x, h => by
    have h' : (!PySem.Spec.ltCps z.cps.toList x.cps.toList && PyProof.Rows.risingS z r) = true := h
    rw [Bool.and_eq_true, Bool.not_eq_true'] at h'
    obtain ⟨i1, i2⟩ := rising_le r z h'.2
    have hz := leS_of h'.1
    refine ⟨fun y hy => ?_, List.pairwise_cons.mpr ⟨i1, i2⟩⟩
    rcases List.mem_cons.mp hy with c | c
    · rw [c]; exact hz
    · exact leS_trans hz (i1 y c)
theorem sorted_pw : ∀ {l : List Str}, PyProof.Rows.sortedS l = true → l.Pairwise leS
  | [], _ => .nil
  | x :: r, h => by
    obtain ⟨i1, i2⟩ := rising_le r x h
    exact List.pairwise_cons.mpr ⟨i1, i2⟩
theorem pw_unique : ∀ {l1 l2 : List Str}, l1.Pairwise leS → l2.Pairwise leS → l1.Nodup → l2.Nodup → (∀ z, z ∈ l1 ↔ z ∈ l2) → l1 = l2
  | [], [], _, _, _, _, _ => rfl
  | [], y :: r, _, _, _, _, h => absurd ((h y).mpr List.mem_cons_self) (by simp)
  | x :: r, [], _, _, _, _, h => absurd ((h x).mp List.mem_cons_self) (by simp)
  | x :: r1, y :: r2, p1, p2, n1, n2, h => by
    obtain ⟨a1, a2⟩ := List.pairwise_cons.mp p1
    obtain ⟨b1, b2⟩ := List.pairwise_cons.mp p2
    obtain ⟨c1, c2⟩ := List.nodup_cons.mp n1
    obtain ⟨d1, d2⟩ := List.nodup_cons.mp n2
    have e : x = y := by
      rcases List.mem_cons.mp ((h x).mp List.mem_cons_self) with q | q
      · exact q
      · rcases List.mem_cons.mp ((h y).mpr List.mem_cons_self) with q' | q'
        · exact q'.symm
        · exact leS_anti (a1 y q') (b1 x q)
    subst e
    refine congrArg (x :: ·) (pw_unique a2 b2 c2 d2 fun z => ⟨fun hz => ?_, fun hz => ?_⟩)
    · rcases List.mem_cons.mp ((h z).mp (List.mem_cons_of_mem _ hz)) with q | q
      · subst q; exact absurd hz c1
      · exact q
    · rcases List.mem_cons.mp ((h z).mpr (List.mem_cons_of_mem _ hz)) with q | q
      · subst q; exact absurd hz d1
      · exact q
theorem sorted_unique {l1 l2 : List Str} (h1 : PyProof.Rows.sortedS l1 = true) (h2 : PyProof.Rows.sortedS l2 = true) (n1 : l1.Nodup) (n2 : l2.Nodup) (h : ∀ z, z ∈ l1 ↔ z ∈ l2) : l1 = l2 := pw_unique (sorted_pw h1) (sorted_pw h2) n1 n2 h
/-! ### lists of texts as data -/
theorem dpS {K : PySem.W.Frag} {H : Hp} : ∀ ss : List Str, DpAll K H (ss.map V.str) (ss.map PyData.str)
  | [] => .nil
  | x :: r => .cons (.str x) (dpS r)
/-- names are names -/
def NmOk (ks : List Str) : Prop := ∀ z ∈ ks, nameB z = true
theorem name_ok {z : Str} (h : nameB z = true) : PyData.strOk z = true := by
  have h3 := ((nameB_iff z).mp h).2.2
  have hl : ∀ c ∈ LET.cps.toList, c < 0x110000 := by decide +kernel
  show z.cps.all (· < 0x110000) = true
  rw [← Array.all_toList]
  exact List.all_eq_true.mpr fun c hc => decide_eq_true (hl c (h3 c hc))
theorem laysS : ∀ ss : List Str, NmOk ss → PyData.canLayAll0 (ss.map PyData.str) = true
  | [], _ => rfl
  | x :: r, h => by
    show (PyData.strOk x && PyData.canLayAll0 (r.map PyData.str)) = true
    rw [laysS r (fun z hz => h z (List.mem_cons_of_mem _ hz)), name_ok (h x List.mem_cons_self)]; rfl
theorem depthS : ∀ ss : List Str, PyData.depthAll (ss.map PyData.str) ≤ 1
  | [] => Nat.zero_le _
  | x :: r => Nat.max_le.mpr ⟨Nat.zero_le _, depthS r⟩
theorem shapedS (ss : List Str) (h : NmOk ss) : SeqAt.shaped (.list (ss.map PyData.str)) = true := by
  show (PyData.canLay0 (.list (ss.map PyData.str)) && decide (PyData.depth (.list (ss.map PyData.str)) ≤ 64)) = true
  have h1 : PyData.canLay0 (.list (ss.map PyData.str)) = true := laysS ss h
  have h2 : PyData.depth (.list (ss.map PyData.str)) ≤ 64 := by
    show PyData.depthAll (ss.map PyData.str) + 1 ≤ 64
    have := depthS ss
    omega
  rw [h1, decide_eq_true h2]
  rfl
theorem eqvS (ss : List Str) (h : NmOk ss) : PyData.eqv (.list (ss.map PyData.str)) (.list (ss.map PyData.str)) = true := PySem.SeqAt.eqv_refl _ (laysS ss h)
/-- list(..) != sorted(..) where both are the same texts -/
theorem neS_go {K : PySem.W.Frag} {H : Hp} {Q : VK} {a b : Addr} {ss : List Str} (h : NmOk ss) (ha : SqL K H a (ss.map V.str)) (hb : SqL K H b (ss.map V.str)) (q : Q (.bl false) H) : rNeD K (.ref a) (.ref b) H Q :=
  ⟨_, _, .lst ha (dpS ss), .lst hb (dpS ss), shapedS ss h, shapedS ss h, by rw [eqvS ss h]; exact q⟩
theorem eqS_go {K : PySem.W.Frag} {H : Hp} {Q : VK} {a b : Addr} {ss : List Str} (h : NmOk ss) (ha : SqL K H a (ss.map V.str)) (hb : SqL K H b (ss.map V.str)) (q : Q (.bl true) H) : rEqD K (.ref a) (.ref b) H Q :=
  ⟨_, _, .lst ha (dpS ss), .lst hb (dpS ss), shapedS ss h, shapedS ss h, by rw [eqvS ss h]; exact q⟩
/-- == and != of two shares -/
theorem shp2 (a b : Int) : SeqAt.shaped (.tuple [.int a, .int b]) = true := by simp [SeqAt.shaped, PyData.canLay0, PyData.canLayAll0, PyData.depth, PyData.depthAll]
theorem eqv2 (a b c d : Int) : PyData.eqv (.tuple [.int a, .int b]) (.tuple [.int c, .int d]) = (decide (a = c) && decide (b = d)) := by
  show (a == c && (b == d && true)) = _
  rw [Bool.and_true]
  rfl
theorem sheq_go {K : PySem.W.Frag} {H : Hp} {Q : VK} {t u : Addr} {a b c d : Int} (h1 : ShAt K H t a b) (h2 : ShAt K H u c d) (q : Q (.bl (decide (a = c) && decide (b = d))) H) : rEqD K (.ref t) (.ref u) H Q :=
  ⟨_, _, .tup h1 (.cons (.int a) (.cons (.int b) .nil)), .tup h2 (.cons (.int c) (.cons (.int d) .nil)), shp2 a b, shp2 c d, by rw [eqv2]; exact q⟩
theorem shne_go {K : PySem.W.Frag} {H : Hp} {Q : VK} {t u : Addr} {a b c d : Int} (h1 : ShAt K H t a b) (h2 : ShAt K H u c d) (q : Q (.bl (!(decide (a = c) && decide (b = d)))) H) : rNeD K (.ref t) (.ref u) H Q :=
  ⟨_, _, .tup h1 (.cons (.int a) (.cons (.int b) .nil)), .tup h2 (.cons (.int c) (.cons (.int d) .nil)), shp2 a b, shp2 c d, by rw [eqv2]; exact q⟩
/-! ### pages: names in their order, a share for every text ((0, 0) where there is none) -/
abbrev Sh := Str → Int × Int
structure PgK (K : PySem.W.Frag) (H : Hp) (kvs : List (Key × V)) (ks : List Str) (f : Sh) : Prop where
  keys : kvs.map (·.1) = ks.map Sum.inr
  nd : ks.Nodup
  at_ : ∀ z v, valV kvs (.inr z) = some v → ∃ t, v = .ref t ∧ ShAt K H t (f z).1 (f z).2
  out : ∀ z, ¬ z ∈ ks → f z = (0, 0)
section
variable {K : PySem.W.Frag} {H H' : Hp} {kvs : List (Key × V)} {ks : List Str} {f : Sh}
theorem PgK.et (e : Et K H H') (h : PgK K H kvs ks f) : PgK K H' kvs ks f :=
  ⟨h.keys, h.nd, fun z v q => let ⟨t, h1, h2⟩ := h.at_ z v q; ⟨t, h1, e.tp _ _ h2⟩, h.out⟩
theorem PgK.len (h : PgK K H kvs ks f) : kvs.length = ks.length := by
  have e := congrArg List.length h.keys
  rw [List.length_map, List.length_map] at e
  exact e
theorem PgK.mem (h : PgK K H kvs ks f) {z : Str} : z ∈ ks ↔ ∃ v, valV kvs (.inr z) = some v := by
  constructor
  · intro hz
    have : (Sum.inr z : Key) ∈ kvs.map (·.1) := by rw [h.keys]; exact List.mem_map.mpr ⟨z, hz, rfl⟩
    obtain ⟨p, hp, e⟩ := List.mem_map.mp this
    obtain ⟨v, hv⟩ := valV_some hp
    exact ⟨v, by rw [← e]; exact hv⟩
  · rintro ⟨v, hv⟩
    have := valV_in hv
    rw [h.keys] at this
    obtain ⟨y, hy, e⟩ := List.mem_map.mp this
    cases e
    exact hy
theorem PgK.there (h : PgK K H kvs ks f) {z : Str} (hz : z ∈ ks) : ∃ t, valV kvs (.inr z) = some (.ref t) ∧ ShAt K H t (f z).1 (f z).2 := by
  obtain ⟨v, hv⟩ := h.mem.mp hz
  obtain ⟨t, rfl, q⟩ := h.at_ z v hv
  exact ⟨t, hv, q⟩
theorem PgK.miss (h : PgK K H kvs ks f) {z : Str} (hz : ¬ z ∈ ks) : valV kvs (.inr z) = none := by
  cases q : valV kvs (.inr z) with
  | none => rfl
  | some v => exact absurd (h.mem.mpr ⟨v, q⟩) hz
theorem PgK.nil : PgK K H [] [] (fun _ => (0, 0)) := ⟨rfl, List.nodup_nil, fun z v q => (by cases q), fun _ _ => rfl⟩
def addK (ks : List Str) (z : Str) : List Str := if z ∈ ks then ks else ks ++ [z]
theorem mem_addK {ks : List Str} {z w : Str} : w ∈ addK ks z ↔ w ∈ ks ∨ w = z := by
  unfold addK
  split
  · rename_i h
    exact ⟨.inl, fun q => q.elim id fun e => e ▸ h⟩
  · rw [List.mem_append, List.mem_singleton]
theorem len_addK {ks : List Str} {z : Str} : (addK ks z).length ≤ ks.length + 1 := by
  unfold addK
  split
  · omega
  · rw [List.length_append]; exact Nat.le_refl _
def setF (f : Sh) (z : Str) (s : Int × Int) : Sh := fun w => if w = z then s else f w
theorem setF_same {f : Sh} {z : Str} {s : Int × Int} : setF f z s z = s := if_pos rfl
theorem setF_ne {f : Sh} {z w : Str} {s : Int × Int} (h : ¬ w = z) : setF f z s w = f w := if_neg h
theorem PgK.put (h : PgK K H kvs ks f) {z : Str} {t : Addr} {a b : Int} (ht : ShAt K H t a b) : PgK K H (putK kvs (.inr z) (.ref t)) (addK ks z) (setF f z (a, b)) := by
  refine ⟨?_, ?_, fun w v q => ?_, fun w hw => ?_⟩
  · by_cases c : z ∈ ks
    · unfold addK
      rw [if_pos c]
      obtain ⟨v, hv⟩ := h.mem.mp c
      have ha : (kvs.any fun kv => decide (kv.1 = (.inr z : Key))) = true := by rw [valV_any, hv]; rfl
      unfold putK
      rw [if_pos ha, List.map_map]
      have e : ((fun x : Key × V => x.1) ∘ fun kv : Key × V => if kv.1 = (.inr z : Key) then (kv.1, V.ref t) else kv) = fun x => x.1 := by
        funext x
        show (if x.1 = (.inr z : Key) then (x.1, V.ref t) else x).1 = x.1
        split <;> rfl
      rw [e]
      exact h.keys
    · unfold addK
      rw [if_neg c, putK_new _ (h.miss c), List.map_append, List.map_append, h.keys]
      rfl
  · unfold addK
    split
    · exact h.nd
    · rename_i c; exact nd_snoc h.nd c
  · rw [valV_put] at q
    by_cases c : w = z
    · subst c
      rw [if_pos rfl] at q
      cases q
      rw [setF_same]
      exact ⟨t, rfl, ht⟩
    · rw [if_neg (fun e => c (Sum.inr.inj e))] at q
      rw [setF_ne c]
      exact h.at_ w v q
  · have h1 : ¬ w ∈ ks := fun q => hw (mem_addK.mpr (.inl q))
    have h2 : ¬ w = z := fun q => hw (mem_addK.mpr (.inr q))
    rw [setF_ne h2]
    exact h.out w h1
theorem PgK.key_at (h : PgK K H kvs ks f) {i : Nat} {k : Key} {v : V} (q : kvs[i]? = some (k, v)) : ∃ z, k = .inr z ∧ ks[i]? = some z ∧ z ∈ ks := by
  have e := congrArg (fun l : List Key => l[i]?) h.keys
  simp only [List.getElem?_map] at e
  rw [q] at e
  cases c : ks[i]? with
  | none => rw [c] at e; cases e
  | some z =>
    rw [c] at e
    exact ⟨z, Option.some.inj e, rfl, List.mem_of_getElem? c⟩
theorem PgK.kst (h : PgK K H kvs ks f) : (kvs.map fun kv => kV kv.1) = ks.map V.str := by
  have e := congrArg (List.map kV) h.keys
  rw [List.map_map, List.map_map] at e
  exact e
/-- the same dict's values are the same objects -/
theorem PgK.eqj (h : PgK K H kvs ks f) (H' : Hp) : ∀ p ∈ kvs, ∀ v', valV kvs p.1 = some v' → EqJ K H' p.2 v' ((fun _ => true) p.1) := fun p hp v' hv => by
  have nd : (kvs.map (·.1)).Nodup := by
    rw [h.keys]
    exact List.Pairwise.map _ (fun a b n e => n (Sum.inr.inj e)) h.nd
  rw [val_nodup nd p hp] at hv
  cases hv
  have hk : p.1 ∈ ks.map (Sum.inr (α := Int)) := by rw [← h.keys]; exact List.mem_map.mpr ⟨p, hp, rfl⟩
  obtain ⟨z, hz, e⟩ := List.mem_map.mp hk
  obtain ⟨t, ht, _⟩ := h.there hz
  rw [e, val_nodup nd p hp] at ht
  have e2 : p.2 = .ref t := Option.some.inj ht
  rw [e2]
  exact .inl ⟨t, rfl, rfl, rfl⟩
end
theorem dictEq_self' {ps : List (Key × V)} : dictEqB ps ps (fun _ => true) = true := by
  unfold dictEqB
  have : (ps.all fun p => (valV ps p.1).isSome && true) = true := List.all_eq_true.mpr fun p hp => by
    obtain ⟨v, hv⟩ := valV_some hp
    rw [hv]; rfl
  rw [this, decide_eq_true rfl]
  rfl
/-- no number below 0 -/
def NN (f : Sh) : Prop := ∀ z, 0 ≤ (f z).1 ∧ 0 ≤ (f z).2
theorem NN.zero : NN (fun _ => (0, 0)) := fun _ => ⟨Int.le_refl _, Int.le_refl _⟩
theorem NN.set {f : Sh} (h : NN f) {z : Str} {a b : Int} (ha : 0 ≤ a) (hb : 0 ≤ b) : NN (setF f z (a, b)) := fun w => by
  unfold setF
  split
  · exact ⟨ha, hb⟩
  · exact h w
theorem NmOk.nil : NmOk [] := fun z h => (by cases h)
theorem NmOk.add {ks : List Str} (h : NmOk ks) {z : Str} (h1 : nameB z = true) : NmOk (addK ks z) := fun w hw => by
  rcases mem_addK.mp hw with c | c
  · exact h w c
  · rw [c]; exact h1
/-- two pages joined -/
def mxF (f g : Sh) : Sh := fun z => (gmax (f z).1 (g z).1, gmax (f z).2 (g z).2)
theorem mxF_comm (f g : Sh) : mxF f g = mxF g f := by
  funext z
  show (_, _) = (_, _)
  rw [gmax_comm (f z).1, gmax_comm (f z).2]
/-- all but what stands at d stays -/
def Exc (d : Addr) (H H' : Hp) : Prop := ∀ a o, a ≠ d → H a = some o → H' a = some o
theorem Exc.refl (d : Addr) (H : Hp) : Exc d H H := fun _ _ _ h => h
theorem Exc.of {d : Addr} {H H' : Hp} (e : Ex H H') : Exc d H H' := fun a o _ h => e a o h
theorem Exc.trans {d : Addr} {H H1 H2 : Hp} (e : Exc d H H1) (f : Exc d H1 H2) : Exc d H H2 := fun a o n h => f a o n (e a o n h)
theorem Exc.upd {d : Addr} {H : Hp} {o : HO} : Exc d H (upd H d o) := fun a _ n h => by rw [upd_ne n]; exact h
theorem Exc.new {d : Addr} {H H1 H2 : Hp} (hd : H d = none) (e : Ex H H1) (f : Exc d H1 H2) : Ex H H2 := fun a o h => f a o (fun z => by rw [z, hd] at h; cases h) (e a o h)
end Gc

namespace Gc
open PySem L2 Evl
/-- all but what stands where S holds stays -/
def Exs (S : Addr → Prop) (H H' : Hp) : Prop := ∀ a o, ¬ S a → H a = some o → H' a = some o
section
variable {S : Addr → Prop} {H H1 H2 H' : Hp}
theorem Exs.refl (S : Addr → Prop) (H : Hp) : Exs S H H := fun _ _ _ h => h
theorem Exs.of (e : Ex H H') : Exs S H H' := fun a o _ h => e a o h
theorem Exs.trans (e : Exs S H H1) (f : Exs S H1 H2) : Exs S H H2 := fun a o n h => f a o n (e a o n h)
theorem Exs.upd {d : Addr} {o : HO} (hd : S d) : Exs S H (upd H d o) := fun a _ n h => by rw [upd_ne (fun z => n (by rw [z]; exact hd))]; exact h
theorem Exs.mut {d : Addr} {o : HO} (e : Exs S H H') (hd : S d ∨ H d = none) : Exs S H (L2.upd H' d o) := fun a q n h => by
  have c : a ≠ d := fun z => by
    subst z
    rcases hd with hd | hd
    · exact n hd
    · rw [hd] at h; cases h
  rw [upd_ne c]
  exact e a q n h
/-- what was not there does not count -/
theorem Exs.new {T : Addr → Prop} (e : Exs T H H') (h : ∀ a, T a → S a ∨ H a = none) : Exs S H H' := fun a o n q => e a o (fun t => by
  rcases h a t with c | c
  · exact n c
  · rw [c] at q; cases q) q
theorem Exs.ex (e : Exs S H H') (h : ∀ a, S a → H a = none) : Ex H H' := fun a o q => e a o (fun t => by rw [h a t] at q; cases q) q
/-- behind the lock of d -/
theorem Exs.unlock {d : Addr} {kvs : List (Key × V)} (e : Exs S H H') (hd : H d = some (.dK kvs)) (hS : ∀ a, S a → a = d ∨ H a = none) : Ex H (L2.upd H' d (.dK kvs)) := fun a o q => by
  by_cases c : a = d
  · subst c
    rw [hd] at q
    cases q
    exact upd_same
  · rw [upd_ne c]
    refine e a o (fun t => ?_) q
    rcases hS a t with z | z
    · exact c z
    · rw [z] at q; cases q
end
/-- a comprehension over a dict -/
theorem lockE_go {t : TE} {Q : VK} {σ : L2.St} {H : Hp} {d : Addr} {kvs : List (Key × V)} (hd : H d = some (.dK kvs))
    (h : ∀ od H1, H1 d = some (.frz od (.dK kvs)) → Er H H1 → (∀ H', Ex H1 H' → Ex H (upd H' d (.dK kvs))) → t σ H1 fun v H' => H' d = some (.frz od (.dK kvs)) ∧ Q v (upd H' d (.dK kvs))) :
    tLockE t σ H Q := ⟨d, _, hd, trivial, fun od => h od _ upd_same (Er.lock hd) (fun H' e => lock_ex e hd)⟩
def capF (ks : List Str) (f : Sh) : Sh := fun z => if z ∈ ks then f z else (0, 0)
theorem nd_len {α : Type} [DecidableEq α] : ∀ {l m : List α}, l.Nodup → (∀ z ∈ l, z ∈ m) → l.length ≤ m.length
  | [], _, _, _ => Nat.zero_le _
  | x :: r, m, nd, h => by
    obtain ⟨n1, n2⟩ := List.nodup_cons.mp nd
    have hx := h x List.mem_cons_self
    have q := nd_len (m := m.erase x) n2 fun z hz => (List.mem_erase_of_ne (fun e => n1 (by rw [← e]; exact hz))).mpr (h z (List.mem_cons_of_mem _ hz))
    rw [List.length_erase_of_mem hx] at q
    have := List.length_pos_of_mem hx
    show r.length + 1 ≤ m.length
    omega
theorem capF_nil {f : Sh} : capF [] f = fun _ => (0, 0) := by
  funext z
  unfold capF
  rw [if_neg (by simp)]
theorem capF_all {ks : List Str} {f : Sh} (h : ∀ z, ¬ z ∈ ks → f z = (0, 0)) : capF ks f = f := by
  funext z
  unfold capF
  split
  · rfl
  · rename_i c; exact (h z c).symm
theorem not_take {ys : List Str} (nd : ys.Nodup) {i : Nat} {z : Str} (h : ys[i]? = some z) : ¬ z ∈ ys.take i := by
  intro hz
  obtain ⟨hi, e⟩ := List.getElem?_eq_some_iff.mp h
  obtain ⟨j, hj, e2⟩ := List.getElem_of_mem hz
  have hj2 : j < i := by rw [List.length_take] at hj; omega
  rw [List.getElem_take] at e2
  have := (List.nodup_iff_pairwise_ne.mp nd)
  have q := List.pairwise_iff_getElem.mp this j i (by omega) hi hj2
  exact q (e2.trans e.symm)
theorem take_snoc {α : Type} {ys : List α} {i : Nat} {z : α} (h : ys[i]? = some z) : ys.take (i + 1) = ys.take i ++ [z] := by
  rw [List.take_add_one, h]
  rfl
theorem addK_take {ys : List Str} (nd : ys.Nodup) {i : Nat} {z : Str} (h : ys[i]? = some z) : addK (ys.take i) z = ys.take (i + 1) := by
  unfold addK
  rw [if_neg (not_take nd h), take_snoc h]
theorem capF_take {ys : List Str} {i : Nat} {z : Str} {m : Sh} (h : ys[i]? = some z) : setF (capF (ys.take i) m) z (m z) = capF (ys.take (i + 1)) m := by
  rw [take_snoc h]
  funext w
  unfold setF capF
  by_cases c : w = z
  · rw [if_pos c, if_pos (by rw [c]; simp), c]
  · rw [if_neg c]
    by_cases d : w ∈ ys.take i
    · rw [if_pos d, if_pos (List.mem_append_left _ d)]
    · rw [if_neg d, if_neg (by simp [d, c])]
theorem mxF_out {f g : Sh} {z : Str} (hf : f z = (0, 0)) (hg : g z = (0, 0)) : mxF f g z = (0, 0) := by
  show (gmax (f z).1 (g z).1, gmax (f z).2 (g z).2) = _
  rw [hf, hg]
  rfl
/-- the first ones of the other joined to one -/
def partF (ls : List Str) (f g : Sh) : Sh := fun z => if z ∈ ls then mxF f g z else f z
theorem partF_nil {f g : Sh} : partF [] f g = f := by
  funext z
  unfold partF
  rw [if_neg (by simp)]
theorem gmax_0 {i : Int} (h : 0 ≤ i) : gmax i 0 = i := by unfold gmax; split <;> omega
theorem partF_all {ls : List Str} {f g : Sh} (hf : NN f) (hg : ∀ z, ¬ z ∈ ls → g z = (0, 0)) : partF ls f g = mxF f g := by
  funext z
  unfold partF
  split
  · rfl
  · rename_i c
    show f z = (gmax (f z).1 (g z).1, gmax (f z).2 (g z).2)
    rw [hg z c, gmax_0 (hf z).1, gmax_0 (hf z).2]
theorem partF_take {ys : List Str} {i : Nat} {z : Str} {f g : Sh} (h : ys[i]? = some z) : setF (partF (ys.take i) f g) z (mxF f g z) = partF (ys.take (i + 1)) f g := by
  rw [take_snoc h]
  funext w
  unfold setF partF
  by_cases c : w = z
  · rw [if_pos c, if_pos (by rw [c]; simp), c]
  · rw [if_neg c]
    by_cases d : w ∈ ys.take i
    · rw [if_pos d, if_pos (List.mem_append_left _ d)]
    · rw [if_neg d, if_neg (by simp [d, c])]
theorem partF_at {ys : List Str} (nd : ys.Nodup) {i : Nat} {z : Str} {f g : Sh} (h : ys[i]? = some z) : partF (ys.take i) f g z = f z := if_neg (not_take nd h)
/-- the sum of a page -/
def totF (ks : List Str) (f : Sh) : Int := (ks.map fun z => (f z).1 - (f z).2).sum
theorem totF_take {ks : List Str} {i : Nat} {z : Str} {f : Sh} (h : ks[i]? = some z) : totF (ks.take (i + 1)) f = totF (ks.take i) f + (f z).1 - (f z).2 := by
  unfold totF
  rw [take_snoc h, List.map_append, List.sum_append]
  simp only [List.map_cons, List.map_nil, List.sum_cons, List.sum_nil]
  omega
/-- one sign of a name changed -/
theorem nameB_twin {z : Str} {c : Nat} (hz : nameB z = true) (hc : c ∈ LET.cps.toList) {n : Nat} (hn : n < z.length) : nameB ((cutS z none (some (n : Int)) ++ ⟨#[c]⟩ : Str) ++ cutS z (some ((n + 1 : Nat) : Int)) none) = true := by
  obtain ⟨a1, a2, a3⟩ := (nameB_iff z).mp hz
  have e2 : (cutS z (some ((n + 1 : Nat) : Int)) none).cps.toList = z.cps.toList.drop (n + 1) := by
    show List.take (HT.sIx z.length z.length none - HT.sIx z.length 0 (some ((n + 1 : Nat) : Int))) (List.drop (HT.sIx z.length 0 (some ((n + 1 : Nat) : Int))) z.cps.toList) = _
    rw [HT.sIx_none, HT.sIx_nat, Nat.min_eq_left (by omega), List.take_of_length_le (by rw [List.length_drop, tl_len]; exact Nat.le_refl _)]
  have l2 : (cutS z (some ((n + 1 : Nat) : Int)) none).length = z.length - (n + 1) := by rw [← tl_len, e2, List.length_drop, tl_len]
  have l1 := cut_len z n
  refine (nameB_iff _).mpr ⟨?_, ?_, fun x hx => ?_⟩
  · rw [app_len, app_len]; show 1 ≤ _ + 1 + _; omega
  · rw [app_len, app_len, l1, l2]; show min n z.length + 1 + (z.length - (n + 1)) ≤ 8; omega
  · rw [app_tl, app_tl] at hx
    rcases List.mem_append.mp hx with hx | hx
    · rcases List.mem_append.mp hx with hx | hx
      · rw [cut_tl] at hx
        exact a3 x (List.mem_of_mem_take hx)
      · rw [List.mem_singleton.mp hx]; exact hc
    · rw [e2] at hx
      exact a3 x (List.mem_of_mem_drop hx)
theorem two_dp {K : PySem.W.Frag} {H : Hp} {t : Addr} {a b : Int} (h : ShAt K H t a b) : Dp K H (.ref t) (.tuple [.int a, .int b]) := .tup h (.cons (.int a) (.cons (.int b) .nil))
theorem min_0 {i j : Int} (hi : 0 ≤ i) (hj : 0 ≤ j) : 0 ≤ (if j < i then j else i) := by split <;> omega
/-- what stands at a heap of law k05 -/
structure C5 (K : PySem.W.Frag) (H0 H : Hp) (o1 o2 o4 c1 c2 D : Addr) (k1 k2 k4 : List (Key × V)) (n1 n2 n4 : List Str) (f1 f2 : Sh) : Prop where
  r1 : H o1 = some (.dK k1)
  r2 : H o2 = some (.dK k2)
  r4 : H o4 = some (.dK k4)
  x1 : H c1 = some (.dK k1)
  x2 : H c2 = some (.dK k2)
  xd : H D = some (.lst [.ref c1, .ref c2])
  p1 : PgK K H k1 n1 f1
  p2 : PgK K H k2 n2 f2
  p4 : PgK K H k4 n4 (mxF f1 f2)
  e : Ex H0 H
theorem C5.ex {K : PySem.W.Frag} {H0 H H' : Hp} {o1 o2 o4 c1 c2 D : Addr} {k1 k2 k4 : List (Key × V)} {n1 n2 n4 : List Str} {f1 f2 : Sh} (c : C5 K H0 H o1 o2 o4 c1 c2 D k1 k2 k4 n1 n2 n4 f1 f2) (e : Ex H H') : C5 K H0 H' o1 o2 o4 c1 c2 D k1 k2 k4 n1 n2 n4 f1 f2 :=
  ⟨e _ _ c.r1, e _ _ c.r2, e _ _ c.r4, e _ _ c.x1, e _ _ c.x2, e _ _ c.xd, c.p1.et (Et.of e), c.p2.et (Et.of e), c.p4.et (Et.of e), c.e.trans e⟩
/-- total(page) -/
def sp_total (K : PySem.W.Frag) : Sp := fun vs H Q _ => ∃ (d : Addr) (kvs : List (Key × V)) (ks : List Str) (f : Sh), vs = [.ref d] ∧ H d = some (.dK kvs) ∧ PgK K H kvs ks f ∧ ks.length ≤ 1000 ∧ ∀ H', Ex H H' → Q (.int (totF ks f)) H'
end Gc
local macro_rules | `(tactic| walk_at "gc_pg") => `(tactic| first
  | assumption
  | (refine' Gc.PgK.et ?e ?h; (case h => assumption); (case e => walk_at "gc_et")))
local macro_rules | `(tactic| walk_at "gc_y") => `(tactic| first
  | walk_at "gc_pg"
  | exact Exists.intro _ (Evl.sq_of (by assumption))
  | exact Exists.intro _ (Evl.st_of (by assumption))
  | (refine' Gc.isD_of ?h; (case h => walk_at "gc_at")))
local macro_rules | `(tactic| walk_at "gc_x") => `(tactic| walk_at "gc_ra")

namespace Gc
open PySem L2 Evl
/-! ### what a page lacks -/
def rchB (f g : Sh) (z : Str) : Bool := reachB (f z).1 (f z).2 (g z).1 (g z).2
/-- the shares of g that f does not reach -/
def lackF (f g : Sh) : Sh := fun z => if rchB f g z = true then (0, 0) else g z
def lackK (ls : List Str) (f g : Sh) : List Str := ls.filter fun z => !rchB f g z
theorem mem_lackK {ls : List Str} {f g : Sh} {z : Str} : z ∈ lackK ls f g ↔ z ∈ ls ∧ rchB f g z = false := by
  unfold lackK
  rw [List.mem_filter]
  cases rchB f g z <;> simp
theorem lackK_nd {ls : List Str} {f g : Sh} (h : ls.Nodup) : (lackK ls f g).Nodup := List.Pairwise.filter _ h
theorem lackK_len {ls : List Str} {f g : Sh} : (lackK ls f g).length ≤ ls.length := List.length_filter_le _ _
theorem lackK_snoc {ls : List Str} {f g : Sh} {z : Str} : lackK (ls ++ [z]) f g = if rchB f g z = true then lackK ls f g else lackK ls f g ++ [z] := by
  unfold lackK
  rw [List.filter_append]
  cases h : rchB f g z <;> simp [List.filter, h]
theorem lackF_at {f g : Sh} {z : Str} (h : rchB f g z = false) : lackF f g z = g z := by
  unfold lackF
  rw [h]
  rfl
theorem rch_self (f : Sh) (z : Str) : rchB f f z = true := reachB_self _ _
theorem lackK_self {ls : List Str} {f : Sh} : lackK ls f f = [] := by
  unfold lackK
  exact List.filter_eq_nil_iff.mpr fun z _ => by rw [rch_self]; simp
theorem lackF_self {f : Sh} : lackF f f = fun _ => (0, 0) := by
  funext z
  unfold lackF
  rw [if_pos (rch_self f z)]
/-- all are reached iff nothing is lacking -/
theorem all_rch {ls : List Str} {f g : Sh} : (ls.all fun z => rchB f g z) = decide ((lackK ls f g).length = 0) := by
  cases h : ls.all fun z => rchB f g z with
  | true =>
    have : lackK ls f g = [] := List.filter_eq_nil_iff.mpr fun z hz => by rw [List.all_eq_true.mp h z hz]; simp
    rw [this]
    rfl
  | false =>
    obtain ⟨z, hz, hb⟩ := List.all_eq_false.mp h
    have hm : z ∈ lackK ls f g := mem_lackK.mpr ⟨hz, by cases q : rchB f g z with | true => exact absurd q hb | false => rfl⟩
    rw [decide_eq_false (fun e => by rw [List.eq_nil_of_length_eq_zero e] at hm; cases hm)]
theorem dictEq_nil {ks : List (Key × V)} {e : Key → Bool} : dictEqB ks [] e = decide (ks.length = 0) := by
  unfold dictEqB
  cases ks with
  | nil => rfl
  | cons p r =>
    rw [show decide ((p :: r).length = ([] : List (Key × V)).length) = false from decide_eq_false (by simp), Bool.false_and]
    exact (decide_eq_false (by simp)).symm
/-- the part of lackF on the first ones -/
def lackP (ls : List Str) (f g : Sh) : Sh := fun z => if z ∈ lackK ls f g then g z else (0, 0)
theorem lackP_nil {f g : Sh} : lackP [] f g = fun _ => (0, 0) := by
  funext z
  unfold lackP lackK
  rw [if_neg (by simp)]
theorem lackP_all {ls : List Str} {f g : Sh} (hg : ∀ z, ¬ z ∈ ls → g z = (0, 0)) : lackP ls f g = lackF f g := by
  funext z
  unfold lackP lackF
  by_cases c : z ∈ ls
  · cases h : rchB f g z with
    | true => rw [if_neg (fun q => by have := (mem_lackK.mp q).2; rw [h] at this; cases this), if_pos rfl]
    | false => rw [if_pos (mem_lackK.mpr ⟨c, h⟩), if_neg Bool.false_ne_true]
  · rw [if_neg (fun q => c (mem_lackK.mp q).1), hg z c]
    split <;> rfl
theorem lackP_yes {ls : List Str} {f g : Sh} {z : Str} (h : rchB f g z = true) : lackP (ls ++ [z]) f g = lackP ls f g := by
  have e : lackK (ls ++ [z]) f g = lackK ls f g := by rw [lackK_snoc, h]; rfl
  unfold lackP
  rw [e]
theorem lackP_no {ls : List Str} {f g : Sh} {z : Str} (h : rchB f g z = false) : lackP (ls ++ [z]) f g = setF (lackP ls f g) z (g z) := by
  have e : lackK (ls ++ [z]) f g = lackK ls f g ++ [z] := by rw [lackK_snoc, h]; rfl
  funext w
  show (if w ∈ lackK (ls ++ [z]) f g then g w else (0, 0)) = if w = z then g z else if w ∈ lackK ls f g then g w else (0, 0)
  rw [e]
  by_cases c : w = z
  · rw [if_pos c, if_pos (by rw [c]; simp), c]
  · rw [if_neg c]
    by_cases d : w ∈ lackK ls f g
    · rw [if_pos d, if_pos (List.mem_append_left _ d)]
    · rw [if_neg d, if_neg (by simp [d, c])]
/-- names are names, and no share is (0, 0) -/
structure NmP (ks : List Str) (f : Sh) : Prop where
  nm : NmOk ks
  pos : ∀ z ∈ ks, 0 < (f z).1 ∨ 0 < (f z).2
  lim : ∀ z, (f z).1 < LIM ∧ (f z).2 < LIM
theorem lim_pos : (0 : Int) < LIM := by decide
theorem NmP.nil : NmP [] (fun _ => (0, 0)) := ⟨NmOk.nil, fun z h => (by cases h), fun _ => ⟨lim_pos, lim_pos⟩⟩
theorem NmP.add {ks : List Str} {f : Sh} (h : NmP ks f) {z : Str} {a b : Int} (hz : nameB z = true) (hp : 0 < a ∨ 0 < b) (hl : a < LIM ∧ b < LIM) : NmP (addK ks z) (setF f z (a, b)) := by
  refine ⟨h.nm.add hz, fun w hw => ?_, fun w => ?_⟩
  · unfold setF
    split
    · exact hp
    · rename_i c
      exact h.pos w ((mem_addK.mp hw).resolve_right c)
  · unfold setF
    split
    · exact hl
    · exact h.lim w
theorem lim_min (i : Int) : (if (10 ^ (60 : Int).toNat - 1 : Int) < i then (10 ^ (60 : Int).toNat - 1 : Int) else i) < LIM := by
  have e : LIM = 10 ^ (60 : Int).toNat := rfl
  split <;> omega
theorem pos_of {a b : Int} (ha : 0 ≤ a) (hb : 0 ≤ b) (h : (decide (a = 0) && decide (b = 0)) = false) : 0 < a ∨ 0 < b := by
  by_cases c : a = 0
  · by_cases d : b = 0
    · rw [decide_eq_true c, decide_eq_true d] at h; cases h
    · right; omega
  · left; omega
end Gc
namespace Gc
open PySem L2 Evl
theorem sorted_filter {l : List Str} (p : Str → Bool) (h : PyProof.Rows.sortedS l = true) : PyProof.Rows.sortedS (l.filter p) = true := by
  refine PyProof.Rows.sortedS_of_pairwise _ (List.Pairwise.filter _ ?_)
  refine List.Pairwise.imp (fun {a b} q => ?_) (sorted_pw h)
  rw [PyProof.Rows.ltCps_eq, decide_eq_false_iff_not]
  exact List.not_lt.mpr q
theorem lackK_take {ys : List Str} {f g : Sh} {i : Nat} {z : Str} (h : ys[i]? = some z) : lackK (ys.take (i + 1)) f g = if rchB f g z = true then lackK (ys.take i) f g else lackK (ys.take i) f g ++ [z] := by
  rw [take_snoc h, lackK_snoc]
theorem addK_lack {ys : List Str} (nd : ys.Nodup) {f g : Sh} {i : Nat} {z : Str} (h : ys[i]? = some z) : addK (lackK (ys.take i) f g) z = lackK (ys.take i) f g ++ [z] := if_neg fun q => not_take nd h (mem_lackK.mp q).1
/-- where it is reached nothing is put, else its share -/
theorem lack_yes {ys : List Str} {f g : Sh} {i : Nat} {z : Str} (h : ys[i]? = some z) (b : rchB f g z = true) : lackK (ys.take (i + 1)) f g = lackK (ys.take i) f g ∧ lackP (ys.take (i + 1)) f g = lackP (ys.take i) f g := by
  refine ⟨by rw [lackK_take h, if_pos b], ?_⟩
  rw [take_snoc h, lackP_yes b]
theorem lack_no {ys : List Str} (nd : ys.Nodup) {f g : Sh} {i : Nat} {z : Str} (h : ys[i]? = some z) (b : rchB f g z = false) : lackK (ys.take (i + 1)) f g = addK (lackK (ys.take i) f g) z ∧ lackP (ys.take (i + 1)) f g = setF (lackP (ys.take i) f g) z ((g z).1, (g z).2) := by
  refine ⟨by rw [lackK_take h, if_neg (by rw [b]; exact Bool.false_ne_true), addK_lack nd h], ?_⟩
  rw [take_snoc h, lackP_no b]
/-- of the page without names all is lacking -/
theorem rch_zero {g : Sh} {z : Str} (h : 0 < (g z).1 ∨ 0 < (g z).2) : rchB (fun _ => (0, 0)) g z = false := by
  show (decide ((g z).1 ≤ 0) && decide ((g z).2 ≤ 0)) = false
  rcases h with h | h
  · rw [decide_eq_false (by omega), Bool.false_and]
  · rw [decide_eq_false (p := (g z).2 ≤ 0) (by omega), Bool.and_false]
theorem lackK_zero {ls : List Str} {g : Sh} (h : ∀ z ∈ ls, 0 < (g z).1 ∨ 0 < (g z).2) : lackK ls (fun _ => (0, 0)) g = ls := by
  unfold lackK
  exact List.filter_eq_self.mpr fun z hz => by rw [rch_zero (h z hz)]; rfl
/-- not reached: one of both is greater -/
theorem rch_or {a b c d : Int} : (decide (a < c) || decide (b < d)) = !reachB a b c d := by
  show _ = !(decide (c ≤ a) && decide (d ≤ b))
  by_cases h : a < c
  · rw [decide_eq_true h, decide_eq_false (p := c ≤ a) (by omega)]; rfl
  · rw [decide_eq_false h, decide_eq_true (p := c ≤ a) (by omega)]
    by_cases q : b < d
    · rw [decide_eq_true q, decide_eq_false (p := d ≤ b) (by omega)]; rfl
    · rw [decide_eq_false q, decide_eq_true (p := d ≤ b) (by omega)]; rfl
theorem reach_both {a b c d : Int} (h : reachB a b c d = true) : c ≤ a ∧ d ≤ b := by
  unfold reachB at h
  rw [Bool.and_eq_true] at h
  exact ⟨of_decide_eq_true h.1, of_decide_eq_true h.2⟩
theorem reach_not {a b c d : Int} (h : reachB a b c d = false) (h1 : ¬ a < c) : b < d := by
  unfold reachB at h
  rw [decide_eq_true (p := c ≤ a) (by omega), Bool.true_and] at h
  have := of_decide_eq_false h
  omega
/-- what stands at a heap of law k06 -/
structure C6 (K : PySem.W.Frag) (H0 H : Hp) (o1 o2 c1 c2 D : Addr) (k1 k2 : List (Key × V)) (n1 n2 : List Str) (f1 f2 : Sh) : Prop where
  r1 : H o1 = some (.dK k1)
  r2 : H o2 = some (.dK k2)
  x1 : H c1 = some (.dK k1)
  x2 : H c2 = some (.dK k2)
  xd : H D = some (.lst [.ref c1, .ref c2])
  p1 : PgK K H k1 n1 f1
  p2 : PgK K H k2 n2 f2
  e : Ex H0 H
theorem C6.ex {K : PySem.W.Frag} {H0 H H' : Hp} {o1 o2 c1 c2 D : Addr} {k1 k2 : List (Key × V)} {n1 n2 : List Str} {f1 f2 : Sh} (c : C6 K H0 H o1 o2 c1 c2 D k1 k2 n1 n2 f1 f2) (e : Ex H H') : C6 K H0 H' o1 o2 c1 c2 D k1 k2 n1 n2 f1 f2 :=
  ⟨e _ _ c.r1, e _ _ c.r2, e _ _ c.x1, e _ _ c.x2, e _ _ c.xd, c.p1.et (Et.of e), c.p2.et (Et.of e), c.e.trans e⟩
/-- all but the old ones stays -/
theorem ex_of_none {H H' : Hp} {r : Addr} (e : Ex H H') (h : H' r = none) : H r = none := by
  cases z : H r with
  | none => rfl
  | some o => have := e _ _ z; rw [h] at this; cases this
end Gc

local macro_rules | `(tactic| walk_at "gc_pg") => `(tactic| exact Gc.PgK.nil)

namespace Gc
open PySem L2 Evl
theorem len0 {α : Type} : ([] : List α).length < 1000 := by show 0 < 1000; decide
theorem len1 {α : Type} {a : α} : [a].length < 1000 := by show 1 < 1000; decide
theorem len2 {α : Type} {a b : α} : [a, b].length < 1000 := by show 2 < 1000; decide
/-- a hand: its name z, its page at d -/
abbrev insH (C dx : Addr) (z : Str) (d : Addr) : HO := .ins C dx [("name", .str z), ("known", .ref d)]
def addAt (p : Int) (s : Int × Int) (m : Int) : Int × Int := if p = 0 then (s.1 + m, s.2) else (s.1, s.2 + m)
theorem all_getD {P : V → Prop} {xs : List V} {i : Int} (h0 : 0 ≤ i) (h1 : i < xs.length) (h : ∀ v ∈ xs, P v) : P (xs.getD i.toNat .non) := h _ (getD_mem h0 h1)
theorem amount_bad {m : Int} (h : m < 1 ∨ 1000000000 < m) : amountB m = false := by
  unfold amountB
  rcases h with h | h
  · rw [decide_eq_false (by omega), Bool.false_and]
  · rw [decide_eq_false (p := m ≤ 1000000000) (by omega), Bool.and_false]
theorem totF_one {z : Str} {f : Sh} : totF [z] f = (f z).1 - (f z).2 := by unfold totF; simp
/-- the page of one name -/
def oneF (z : Str) (s : Int × Int) : Sh := fun w => if w = z then s else (0, 0)
theorem oneF_at {z : Str} {s : Int × Int} : oneF z s z = s := if_pos rfl
theorem oneF_ne {z w : Str} {s : Int × Int} (h : ¬ w = z) : oneF z s w = (0, 0) := if_neg h
theorem PgK.one {K : PySem.W.Frag} {H : Hp} {z : Str} {t : Addr} {s : Int × Int} (h : ShAt K H t s.1 s.2) : PgK K H [(.inr z, .ref t)] [z] (oneF z s) := by
  refine ⟨rfl, List.nodup_cons.mpr ⟨by simp, List.nodup_nil⟩, fun w v q => ?_, fun w hw => oneF_ne (fun c => hw (by rw [c]; simp))⟩
  have hm := valV_mem q
  have e : ((.inr w : Key), v) = (.inr z, V.ref t) := by simpa using hm
  cases e
  exact ⟨t, rfl, by rw [oneF_at]; exact h⟩
theorem mxF_one {f : Sh} {z : Str} {s : Int × Int} (hf : NN f) (h1 : (f z).1 ≤ s.1) (h2 : (f z).2 ≤ s.2) : mxF f (oneF z s) = setF f z s := by
  funext w
  show (gmax (f w).1 (oneF z s w).1, gmax (f w).2 (oneF z s w).2) = if w = z then s else f w
  by_cases c : w = z
  · rw [if_pos c, c, oneF_at]
    have g : ∀ i j : Int, i ≤ j → gmax i j = j := fun i j h => by unfold gmax; split <;> omega
    rw [g _ _ h1, g _ _ h2]
  · rw [if_neg c, oneF_ne c, gmax_0 (hf w).1, gmax_0 (hf w).2]
theorem addAt_ge {p : Int} {s : Int × Int} {m : Int} (hm : 0 ≤ m) : s.1 ≤ (addAt p s m).1 ∧ s.2 ≤ (addAt p s m).2 := by
  unfold addAt
  split
  · exact ⟨by show s.1 ≤ s.1 + m; omega, Int.le_refl _⟩
  · exact ⟨Int.le_refl _, by show s.2 ≤ s.2 + m; omega⟩
theorem amount_pos {m : Int} (h : amountB m = true) : 1 ≤ m := by
  unfold amountB at h
  simp only [Bool.and_eq_true, decide_eq_true_eq] at h
  exact h.1
theorem sqT_ins {K : PySem.W.Frag} {H : Hp} {p C dx : Addr} {fs : List (Str × V)} {o : HO} (h : H p = some (.ins C dx fs)) {a : Addr} {xs : List V} (q : SqT K H a xs) : SqT K (upd H p o) a xs := by
  rcases q with (q | ⟨od, q⟩) | q
  · exact .inl (.inl (by rw [upd_ne (fun z => by rw [z, h] at q; cases q)]; exact q))
  · exact .inl (.inr ⟨od, by rw [upd_ne (fun z => by rw [z, h] at q; cases q)]; exact q⟩)
  · exact .inr q
theorem PgK.ins {K : PySem.W.Frag} {H : Hp} {p C dx : Addr} {fs : List (Str × V)} {o : HO} (h : H p = some (.ins C dx fs)) {kvs : List (Key × V)} {ks : List Str} {f : Sh} (g : PgK K H kvs ks f) : PgK K (upd H p o) kvs ks f :=
  ⟨g.keys, g.nd, fun z v q => let ⟨t, h1, h2⟩ := g.at_ z v q; ⟨t, h1, sqT_ins h h2⟩, g.out⟩
theorem sqT_exs {K : PySem.W.Frag} {S : Addr → Prop} {H H' : Hp} (e : Exs S H H') (hS : ∀ p, S p → (∃ C dx fs, H p = some (.ins C dx fs)) ∨ ∃ xs, H p = some (.lst xs)) {a : Addr} {xs : List V} (q : SqT K H a xs) : SqT K H' a xs := by
  rcases q with (q | ⟨od, q⟩) | q
  · exact .inl (.inl (e _ _ (fun z => by rcases hS _ z with ⟨_, _, _, h⟩ | ⟨_, h⟩ <;> (rw [q] at h; cases h)) q))
  · exact .inl (.inr ⟨od, e _ _ (fun z => by rcases hS _ z with ⟨_, _, _, h⟩ | ⟨_, h⟩ <;> (rw [q] at h; cases h)) q⟩)
  · exact .inr q
/-- the hand at x, of the name z, that has raised a and lowered b -/
structure HandAt (K : PySem.W.Frag) (C : Addr) (H : Hp) (x : Addr) (z : Str) (a b : Int) : Prop where
  it : ∃ dx d kvs ks f, H x = some (insH C dx z d) ∧ H d = some (.dK kvs) ∧ PgK K H kvs ks f ∧ NN f ∧ 0 ≤ a ∧ 0 ≤ b ∧ ((a = 0 ∧ b = 0 ∧ ks = []) ∨ (¬ (a = 0 ∧ b = 0) ∧ ks = [z] ∧ f z = (a, b)))
theorem HandAt.exs {K : PySem.W.Frag} {C : Addr} {H H' : Hp} {x : Addr} {z : Str} {a b : Int} {S : Addr → Prop} (h : HandAt K C H x z a b) (e : Exs S H H') (hS : ∀ p, S p → (∃ C dx fs, H p = some (.ins C dx fs)) ∨ ∃ xs, H p = some (.lst xs)) (hx : ¬ S x) : HandAt K C H' x z a b := by
  obtain ⟨dx, d, kvs, ks, f, h1, h2, h3, h4, h5, h6, h7⟩ := h.it
  refine ⟨dx, d, kvs, ks, f, e _ _ hx h1, e _ _ (fun z => ?_) h2, ⟨h3.keys, h3.nd, fun z v q => let ⟨t, g1, g2⟩ := h3.at_ z v q; ⟨t, g1, sqT_exs e hS g2⟩, h3.out⟩, h4, h5, h6, h7⟩
  rcases hS _ z with ⟨_, _, _, h⟩ | ⟨_, h⟩ <;> (rw [h2] at h; cases h)
theorem HandAt.ex {K : PySem.W.Frag} {C : Addr} {H H' : Hp} {x : Addr} {z : Str} {a b : Int} (h : HandAt K C H x z a b) (e : Ex H H') : HandAt K C H' x z a b := h.exs (S := fun _ => False) (Exs.of e) (fun _ q => q.elim) id
theorem only_one {z : Str} : ∀ {ys : List Str}, ys.Nodup → (∀ w, w ∈ ys ↔ w = z) → ys = [z]
  | [], _, h => absurd ((h z).mpr rfl) (by simp)
  | [y], _, h => by rw [(h y).mp (by simp)]
  | y1 :: y2 :: r, nd, h => by
    have e1 := (h y1).mp (by simp)
    have e2 := (h y2).mp (by simp)
    have := (List.nodup_cons.mp nd).1
    rw [e1, e2] at this
    exact absurd (by simp) this
theorem HandAt.grown {K : PySem.W.Frag} {C : Addr} {H' : Hp} {x dx d' : Addr} {z : Str} {a b p m : Int} {ks ys : List Str} {f : Sh} {kvs' : List (Key × V)} (hout : ∀ w, ¬ w ∈ ks → f w = (0, 0)) (hnn : NN f) (ha : 0 ≤ a) (hb : 0 ≤ b) (hm : amountB m = true)
    (hc : (a = 0 ∧ b = 0 ∧ ks = []) ∨ (¬ (a = 0 ∧ b = 0) ∧ ks = [z] ∧ f z = (a, b))) (h1 : H' x = some (insH C dx z d')) (h2 : H' d' = some (.dK kvs')) (h3 : PgK K H' kvs' ys (setF f z (addAt p (f z) m))) (h4 : ∀ w, w ∈ ys ↔ w ∈ ks ∨ w = z) :
    HandAt K C H' x z (addAt p (a, b) m).1 (addAt p (a, b) m).2 ∧ totF ys (setF f z (addAt p (f z) m)) = (addAt p (a, b) m).1 - (addAt p (a, b) m).2 := by
  have hm1 := amount_pos hm
  have hfz : f z = (a, b) := by
    rcases hc with ⟨rfl, rfl, rfl⟩ | ⟨_, _, e⟩
    · exact hout z (by simp)
    · exact e
  have hys : ys = [z] := by
    refine only_one h3.nd (fun w => (h4 w).trans ?_)
    rcases hc with ⟨_, _, rfl⟩ | ⟨_, rfl, _⟩ <;> simp
  rw [hfz] at h3
  have hge := addAt_ge (p := p) (s := (a, b)) (m := m) (by omega)
  have hne : ¬ ((addAt p (a, b) m).1 = 0 ∧ (addAt p (a, b) m).2 = 0) := by
    unfold addAt
    split
    · show ¬ (a + m = 0 ∧ b = 0); omega
    · show ¬ (a = 0 ∧ b + m = 0); omega
  have g1 : a ≤ (addAt p (a, b) m).1 := hge.1
  have g2 : b ≤ (addAt p (a, b) m).2 := hge.2
  refine ⟨⟨dx, d', kvs', ys, _, h1, h2, h3, hnn.set (a := (addAt p (a, b) m).1) (b := (addAt p (a, b) m).2) (by omega) (by omega), by omega, by omega, .inr ⟨hne, hys, setF_same⟩⟩, ?_⟩
  rw [hys, totF_one, hfz, setF_same]
theorem make_ex {H H' : Hp} {x dx C : Addr} (hx : H x = none) (hdx : H dx = none) (e : Exs (fun a => a = x) (upd (upd H dx (.own x)) x (.ins C dx [])) H') : Ex H H' :=
  Exs.ex (Exs.trans (Exs.of (Ex.mut (Ex.new hdx) hx)) e) (fun a q => by rw [q]; exact hx)
theorem HandAt.new {K : PySem.W.Frag} {C : Addr} {H : Hp} {x dx d : Addr} {z : Str} (h1 : H x = some (insH C dx z d)) (h2 : H d = some (.dK [])) : HandAt K C H x z 0 0 :=
  ⟨dx, d, [], [], fun _ => (0, 0), h1, h2, PgK.nil, NN.zero, Int.le_refl _, Int.le_refl _, .inl ⟨rfl, rfl, rfl⟩⟩
theorem name_len {z : Str} (h : nameB z = true) : z.length ≤ 100000 := by have := ((nameB_iff z).mp h).2.1; omega
/-- what stands at a heap of law k07 -/
structure C7 (K : PySem.W.Frag) (C : Addr) (H0 H : Hp) (L1 L2 L3 s0 s1 x0 x1 : Addr) (z0 z1 : Str) : Prop where
  e : Ex H0 H
  l1 : H L1 = some (.lst [.str z0, .str z1])
  l2 : H L2 = some (.lst [.ref x0, .ref x1])
  l3 : H L3 = some (.lst [.ref s0, .ref s1])
  w0 : ∃ a b, H s0 = some (.lst [.int a, .int b]) ∧ HandAt K C H x0 z0 a b
  w1 : ∃ a b, H s1 = some (.lst [.int a, .int b]) ∧ HandAt K C H x1 z1 a b
section
variable {K : PySem.W.Frag} {C : Addr} {H0 H H' : Hp} {L1 L2 L3 s0 s1 x0 x1 : Addr} {z0 z1 : Str}
theorem C7.ex (c : C7 K C H0 H L1 L2 L3 s0 s1 x0 x1 z0 z1) (e : Ex H H') : C7 K C H0 H' L1 L2 L3 s0 s1 x0 x1 z0 z1 := by
  obtain ⟨a0, b0, g0, k0⟩ := c.w0
  obtain ⟨a1, b1, g1, k1⟩ := c.w1
  exact ⟨c.e.trans e, e _ _ c.l1, e _ _ c.l2, e _ _ c.l3, ⟨a0, b0, e _ _ g0, k0.ex e⟩, ⟨a1, b1, e _ _ g1, k1.ex e⟩⟩
/-- one of both hands: what it is, and what is left to tell where it changed -/
theorem C7.pick (c : C7 K C H0 H L1 L2 L3 s0 s1 x0 x1 z0 z1) (hx : x0 ≠ x1) (hs : s0 ≠ s1) (n0 : H0 s0 = none) (n1 : H0 s1 = none) (m0 : H0 x0 = none) (m1 : H0 x1 = none) (g0 : nameB z0 = true) (g1 : nameB z1 = true) {i : Int} (hi : i = 0 ∨ i = 1) :
    ∃ s x z a b, atI [V.ref s0, .ref s1] i = some (.ref s) ∧ atI [V.ref x0, .ref x1] i = some (.ref x) ∧ atI [V.str z0, .str z1] i = some (.str z) ∧ nameB z = true ∧ H s = some (.lst [.int a, .int b]) ∧ HandAt K C H x z a b ∧ H0 s = none ∧ H0 x = none ∧
      ∀ H' a' b', Exs (fun b => b = x ∨ b = s) H H' → H' s = some (.lst [.int a', .int b']) → HandAt K C H' x z a' b' → C7 K C H0 H' L1 L2 L3 s0 s1 x0 x1 z0 z1 := by
  obtain ⟨a0, b0, t0, k0⟩ := c.w0
  obtain ⟨a1, b1, t1, k1⟩ := c.w1
  have key : ∀ {s x s' x' : Addr} {z z' : Str} {a b a' b' : Int}, x' ≠ x → s' ≠ s → H0 s = none → H0 x = none → H s = some (.lst [.int a, .int b]) → HandAt K C H x z a b → H s' = some (.lst [.int a', .int b']) → HandAt K C H x' z' a' b' →
      ∀ H', Exs (fun b => b = x ∨ b = s) H H' → Ex H0 H' ∧ H' L1 = some (.lst [.str z0, .str z1]) ∧ H' L2 = some (.lst [.ref x0, .ref x1]) ∧ H' L3 = some (.lst [.ref s0, .ref s1]) ∧ H' s' = some (.lst [.int a', .int b']) ∧ HandAt K C H' x' z' a' b' := by
    intro s x s' x' z z' a b a' b' hx hs ns nx hs1 hx1 hs2 hx2 H' e
    obtain ⟨dx, d, kvs, ks, f, q1, _⟩ := hx1.it
    have nl : ∀ L y r, H L = some (.lst (y :: r)) → (∀ i, y ≠ .int i) → ¬ (L = x ∨ L = s) := fun L y r q hy z => by
      rcases z with rfl | rfl
      · rw [q1] at q; cases q
      · rw [hs1] at q; cases q; exact hy _ rfl
    refine ⟨fun b o q => e b o (fun z => by rcases z with rfl | rfl <;> simp_all) (c.e b o q), e _ _ (nl _ _ _ c.l1 (by intro i z; cases z)) c.l1, e _ _ (nl _ _ _ c.l2 (by intro i z; cases z)) c.l2, e _ _ (nl _ _ _ c.l3 (by intro i z; cases z)) c.l3, e _ _ (fun z => ?_) hs2, hx2.exs e (fun p hp => ?_) (fun z => ?_)⟩
    · rcases z with rfl | z
      · rw [q1] at hs2; cases hs2
      · exact hs z
    · rcases hp with rfl | rfl
      · exact .inl ⟨_, _, _, q1⟩
      · exact .inr ⟨_, hs1⟩
    · rcases z with z | rfl
      · exact hx z
      · obtain ⟨_, _, _, _, _, q2, _⟩ := hx2.it
        rw [hs1] at q2; cases q2
  rcases hi with rfl | rfl
  · refine ⟨s0, x0, z0, a0, b0, rfl, rfl, rfl, g0, t0, k0, n0, m0, fun H' a' b' e h1 h2 => ?_⟩
    obtain ⟨q0, q1, q2, q3, q4, q5⟩ := key (Ne.symm hx) (Ne.symm hs) n0 m0 t0 k0 t1 k1 H' e
    exact ⟨q0, q1, q2, q3, ⟨_, _, h1, h2⟩, ⟨_, _, q4, q5⟩⟩
  · refine ⟨s1, x1, z1, a1, b1, rfl, rfl, rfl, g1, t1, k1, n1, m1, fun H' a' b' e h1 h2 => ?_⟩
    obtain ⟨q0, q1, q2, q3, q4, q5⟩ := key hx hs n1 m1 t1 k1 t0 k0 H' e
    exact ⟨q0, q1, q2, q3, ⟨_, _, q4, q5⟩, ⟨_, _, h1, h2⟩⟩
end
/-- how the five classes of errors answer isinstance, and what kind tells -/
inductive KindOf : Bool → Bool → Bool → Bool → Bool → Str → Prop
  | name : KindOf true false false false false "name"
  | amount : KindOf false true false false false "amount"
  | page : KindOf false false true false false "page"
  | forged : KindOf false false false true false "forged"
  | note : KindOf false false false false true "note"
end Gc
local macro_rules | `(tactic| walk_at "gc_pg") => `(tactic| first
  | exact fun _ h => h
  | with_reducible exact Gc.len0
  | with_reducible exact Gc.len1
  | with_reducible exact Gc.len2
  | exact L2.upd_same
  | exact Or.inl (Evl.sq_of L2.upd_same)
  | exact Exists.intro _ (Evl.sq_of L2.upd_same)
  | exact Evl.sq_of L2.upd_same)

namespace Gc
open PySem L2 Evl
/-! ### who calls whom, and what they know -/
def beyondP (n : Nat) : List (Nat × Nat) := (List.range (n - 4)).map fun j => (0, 4 + j)
def pairsP (n : Nat) : List (Nat × Nat) :=
  if n < 2 then [] else if n = 2 then [(0, 1)] else if n = 3 then [(0, 1), (0, 2), (0, 1)] else beyondP n ++ [(0, 1), (2, 3), (0, 2), (1, 3)] ++ beyondP n
def stepM (ms : List Nat) (p : Nat × Nat) : List Nat := (ms.set p.1 (ms.getD p.1 0 ||| ms.getD p.2 0)).set p.2 (ms.getD p.1 0 ||| ms.getD p.2 0)
def startM (n : Nat) : List Nat := (List.range n).map fun j => 2 ^ j
theorem stepM_len {ms : List Nat} {p : Nat × Nat} : (stepM ms p).length = ms.length := by unfold stepM; rw [List.length_set, List.length_set]
theorem runM_len {n : Nat} : ∀ (ps : List (Nat × Nat)) {ms : List Nat}, ms.length = n → (ps.foldl stepM ms).length = n
  | [], _, h => h
  | p :: ps, _, h => runM_len ps (stepM_len.trans h)
theorem stepM_at {ms : List Nat} {a b j : Nat} (ha : a < ms.length) (hb : b < ms.length) : (stepM ms (a, b)).getD j 0 = if j = a ∨ j = b then ms.getD a 0 ||| ms.getD b 0 else ms.getD j 0 := by
  unfold stepM
  simp only [List.getD_eq_getElem?_getD, List.getElem?_set, List.length_set]
  by_cases h1 : b = j
  · subst h1; simp [hb]
  · by_cases h2 : a = j
    · subst h2; simp [h1, ha]
    · rw [if_neg h1, if_neg h2, if_neg (fun c => c.elim (fun e => h2 e.symm) (fun e => h1 e.symm))]
end Gc
namespace Gc
open PySem L2 Evl
/-- a letter by its place -/
theorem let_inj {i j : Int} {s : Nat} (h1 : atI LET.cps.toList i = some s) (h2 : atI LET.cps.toList j = some s) (i0 : 0 ≤ i) (i1 : i < 26) (j0 : 0 ≤ j) (j1 : j < 26) : i = j := by
  have nd : LET.cps.toList.Nodup := by decide +kernel
  have hl : LET.cps.toList.length = 26 := by decide +kernel
  have key : ∀ k : Int, 0 ≤ k → k < 26 → ∀ s, atI LET.cps.toList k = some s → LET.cps.toList[k.toNat]? = some s := fun k k0 k1 s h => by
    have hk : k.toNat < LET.cps.toList.length := by omega
    have q : atI LET.cps.toList ((k.toNat : Nat) : Int) = some LET.cps.toList[k.toNat] := atI_nat (List.getElem?_eq_getElem hk)
    rw [show ((k.toNat : Nat) : Int) = k by omega, h] at q
    rw [List.getElem?_eq_getElem hk, Option.some.inj q]
  have g1 := key i i0 i1 s h1
  have g2 := key j j0 j1 s h2
  obtain ⟨hi, e1⟩ := List.getElem?_eq_some_iff.mp g1
  obtain ⟨hj, e2⟩ := List.getElem?_eq_some_iff.mp g2
  have pw := List.pairwise_iff_getElem.mp (List.nodup_iff_pairwise_ne.mp nd)
  rcases Nat.lt_trichotomy i.toNat j.toNat with c | c | c
  · exact absurd (e1.trans e2.symm) (pw _ _ hi hj c)
  · omega
  · exact absurd (e2.trans e1.symm) (pw _ _ hj hi c)
/-- the j-th name begins with the j-th two letters -/
def Mark (c : Int) (j : Nat) (z : Str) : Prop := ∃ s1 s2 rest, atI LET.cps.toList (((j : Int) * 17 + c) % 26) = some s1 ∧ atI LET.cps.toList ((j : Int) / 26) = some s2 ∧ z.cps.toList = s1 :: s2 :: rest
theorem mark_inj {c : Int} {i j : Nat} {z : Str} (h1 : Mark c i z) (h2 : Mark c j z) (hi : i < 71) (hj : j < 71) : i = j := by
  obtain ⟨a1, a2, ar, x1, x2, x3⟩ := h1
  obtain ⟨b1, b2, br, y1, y2, y3⟩ := h2
  rw [x3] at y3
  have e1 : a1 = b1 := (List.cons.inj y3).1
  have e2 : a2 = b2 := (List.cons.inj (List.cons.inj y3).2).1
  subst e1 e2
  have q1 := let_inj x1 y1 (by omega) (by omega) (by omega) (by omega)
  have q2 := let_inj x2 y2 (by omega) (by omega) (by omega) (by omega)
  omega
structure Nms (c : Int) (zs : List Str) : Prop where
  mark : ∀ j z, zs[j]? = some z → Mark c j z
  nm : NmOk zs
theorem Nms.nd {c : Int} {zs : List Str} (h : Nms c zs) (hl : zs.length < 72) : zs.Nodup := by
  refine List.nodup_iff_pairwise_ne.mpr (List.pairwise_iff_getElem.mpr fun i j hi hj hij e => ?_)
  have := mark_inj (h.mark i _ (List.getElem?_eq_getElem hi)) (by rw [e]; exact h.mark j _ (List.getElem?_eq_getElem hj)) (by omega) (by omega)
  omega
theorem Nms.snoc {c : Int} {zs : List Str} {z : Str} (h : Nms c zs) (h1 : Mark c zs.length z) (h2 : nameB z = true) : Nms c (zs ++ [z]) := by
  refine ⟨fun j w q => ?_, fun w hw => ?_⟩
  · by_cases d : j < zs.length
    · rw [List.getElem?_append_left d] at q
      exact h.mark j w q
    · rw [List.getElem?_append_right (by omega)] at q
      cases e : j - zs.length with
      | zero => rw [e] at q; cases q; rw [show j = zs.length by omega]; exact h1
      | succ n => rw [e] at q; simp at q
  · rcases List.mem_append.mp hw with d | d
    · exact h.nm w d
    · rw [List.mem_singleton.mp d]; exact h2
theorem name_of_mark {s1 s2 : Nat} {w : Str} (h1 : s1 ∈ LET.cps.toList) (h2 : s2 ∈ LET.cps.toList) (hw : nameB w = true) : nameB ((⟨#[s1]⟩ ++ ⟨#[s2]⟩ : Str) ++ cutS w none (some ((6 : Nat) : Int))) = true ∧ ((⟨#[s1]⟩ ++ ⟨#[s2]⟩ : Str) ++ cutS w none (some ((6 : Nat) : Int))).cps.toList = s1 :: s2 :: (cutS w none (some ((6 : Nat) : Int))).cps.toList := by
  have e : ((⟨#[s1]⟩ ++ ⟨#[s2]⟩ : Str) ++ cutS w none (some ((6 : Nat) : Int))).cps.toList = s1 :: s2 :: (cutS w none (some ((6 : Nat) : Int))).cps.toList := by
    rw [app_tl, app_tl]; rfl
  obtain ⟨a1, a2, a3⟩ := (nameB_iff w).mp hw
  refine ⟨(nameB_iff _).mpr ⟨?_, ?_, fun x hx => ?_⟩, e⟩
  · rw [app_len, app_len]; show 1 ≤ 1 + 1 + _; omega
  · rw [app_len, app_len, cut_len]; show 1 + 1 + _ ≤ 8; omega
  · rw [e] at hx
    rcases List.mem_cons.mp hx with c | hx
    · rw [c]; exact h1
    · rcases List.mem_cons.mp hx with c | hx
      · rw [c]; exact h2
      · rw [cut_tl] at hx
        exact a3 x (List.mem_of_mem_take hx)
/-- the rows tell the pairs ps of the names zs -/
def Prs (K : PySem.W.Frag) (H : Hp) (xs : List V) (ps : List (Nat × Nat)) (zs : List Str) : Prop := xs.length = ps.length ∧ ∀ (i : Nat) (x : V) (p : Nat × Nat), xs[i]? = some x → ps[i]? = some p → ∃ t z w, x = .ref t ∧ SqT K H t [.str z, .str w] ∧ zs[p.1]? = some z ∧ zs[p.2]? = some w
theorem Prs.tp {K : PySem.W.Frag} {H H' : Hp} (e : ∀ a xs, SqT K H a xs → SqT K H' a xs) {xs : List V} {ps : List (Nat × Nat)} {zs : List Str} (h : Prs K H xs ps zs) : Prs K H' xs ps zs := ⟨h.1, fun i x p h1 h2 => by
  obtain ⟨t, z, w, q1, q2, q3⟩ := h.2 i x p h1 h2
  exact ⟨t, z, w, q1, e _ _ q2, q3⟩⟩
theorem Prs.nil {K : PySem.W.Frag} {H : Hp} {zs : List Str} : Prs K H [] [] zs := ⟨rfl, fun i x p h => by simp at h⟩
theorem Prs.app {K : PySem.W.Frag} {H : Hp} {xs ys : List V} {ps qs : List (Nat × Nat)} {zs : List Str} (h : Prs K H xs ps zs) (g : Prs K H ys qs zs) : Prs K H (xs ++ ys) (ps ++ qs) zs := by
  refine ⟨by rw [List.length_append, List.length_append, h.1, g.1], fun i x p h1 h2 => ?_⟩
  by_cases c : i < xs.length
  · rw [List.getElem?_append_left c] at h1
    rw [List.getElem?_append_left (by rw [← h.1]; exact c)] at h2
    exact h.2 i x p h1 h2
  · rw [List.getElem?_append_right (by omega)] at h1
    rw [List.getElem?_append_right (by rw [← h.1]; omega), ← h.1] at h2
    exact g.2 _ x p h1 h2
theorem Prs.one {K : PySem.W.Frag} {H : Hp} {t : Addr} {a b : Nat} {z w : Str} {zs : List Str} (h : SqT K H t [.str z, .str w]) (h1 : zs[a]? = some z) (h2 : zs[b]? = some w) : Prs K H [.ref t] [(a, b)] zs := by
  refine ⟨rfl, fun i x p q1 q2 => ?_⟩
  cases i with
  | zero => cases q1; cases q2; exact ⟨t, z, w, rfl, h, h1, h2⟩
  | succ n => simp at q1
def PrsF (K : PySem.W.Frag) (D : Addr) (H : Hp) (xs : List V) (ps : List (Nat × Nat)) (zs : List Str) : Prop := ∀ ys, Prs K (upd H D (.lst ys)) xs ps zs
end Gc
namespace Gc
open PySem L2 Evl
theorem cutV_from {xs : List V} {c : Nat} (h : c ≤ xs.length) : cutV xs (some (c : Int)) none = xs.drop c := by
  unfold cutV
  rw [HT.sIx_none, HT.sIx_nat, Nat.min_eq_left h, List.take_of_length_le (by rw [List.length_drop]; exact Nat.le_refl _)]
theorem upd_two {H : Hp} {D : Addr} {o o' : HO} : upd (upd H D o) D o' = upd H D o' := by
  funext a
  by_cases c : a = D
  · subst c; rw [upd_same, upd_same]
  · rw [upd_ne c, upd_ne c, upd_ne c]
theorem upd_self {H : Hp} {D : Addr} {o : HO} (h : H D = some o) : upd H D o = H := by
  funext a
  by_cases c : a = D
  · subst c; rw [upd_same, h]
  · rw [upd_ne c]
theorem PrsF.upd {K : PySem.W.Frag} {D : Addr} {H : Hp} {xs : List V} {ps : List (Nat × Nat)} {zs : List Str} {o : HO} (h : PrsF K D H xs ps zs) : PrsF K D (L2.upd H D o) xs ps zs := fun ys => by rw [upd_two]; exact h ys
theorem PrsF.of {K : PySem.W.Frag} {D : Addr} {H : Hp} {xs ys : List V} {ps : List (Nat × Nat)} {zs : List Str} (h : Prs K H xs ps zs) (hD : H D = some (.lst ys)) : PrsF K D H xs ps zs := fun ys => h.tp (Et.lst hD).tp
theorem PrsF.it {K : PySem.W.Frag} {D : Addr} {H : Hp} {xs ys : List V} {ps : List (Nat × Nat)} {zs : List Str} (h : PrsF K D H xs ps zs) (hD : H D = some (.lst ys)) : Prs K H xs ps zs := by
  have q := h ys
  rw [upd_self hD] at q
  exact q
theorem beyond_snoc {i : Nat} : ((List.range (i + 1)).map fun j => ((0 : Nat), 4 + j)) = ((List.range i).map fun j => (0, 4 + j)) ++ [(0, 4 + i)] := by
  rw [List.range_succ, List.map_append]
  rfl
theorem pairsP_many {n : Nat} (h : 4 ≤ n) : pairsP n = beyondP n ++ [(0, 1), (2, 3), (0, 2), (1, 3)] ++ beyondP n := by
  unfold pairsP
  rw [if_neg (by omega), if_neg (by omega), if_neg (by omega)]
end Gc
namespace Gc
open PySem L2 Evl
theorem key_iff {kvs : List (Key × V)} {k : Key} : k ∈ kvs.map (·.1) ↔ (valV kvs k).isSome = true := by
  constructor
  · intro h
    obtain ⟨p, hp, e⟩ := List.mem_map.mp h
    obtain ⟨v, hv⟩ := valV_some hp
    rw [← e, hv]
    rfl
  · intro h
    cases q : valV kvs k with
    | none => rw [q] at h; cases h
    | some v => exact valV_in q
theorem key_put {kvs : List (Key × V)} {k k0 : Key} {v : V} : k ∈ (putK kvs k0 v).map (·.1) ↔ k ∈ kvs.map (·.1) ∨ k = k0 := by
  rw [key_iff, key_iff, valV_put]
  by_cases c : k = k0
  · rw [if_pos c]; simp [c]
  · rw [if_neg c]; simp [c]
/-- the keys tell the names of the mask m -/
def Msk (zs : List Str) (ks : List (Key × V)) (m : Nat) : Prop := (ks.map (·.1)).Nodup ∧ ∀ k, k ∈ ks.map (·.1) ↔ ∃ l z, zs[l]? = some z ∧ k = .inr z ∧ m.testBit l = true
/-- what each of the names xs knows -/
structure DK11 (H : Hp) (kn : Addr) (kvs : List (Key × V)) (xs zs : List Str) (ms : List Nat) : Prop where
  at_ : H kn = some (.dK kvs)
  keys : kvs.map (·.1) = xs.map Sum.inr
  val : ∀ j z, xs[j]? = some z → ∃ d ks, valV kvs (.inr z) = some (.ref d) ∧ H d = some (.dK ks) ∧ d ≠ kn ∧ Msk zs ks (ms.getD j 0)
theorem DK11.ex {H H' : Hp} {kn : Addr} {kvs : List (Key × V)} {xs zs : List Str} {ms : List Nat} (h : DK11 H kn kvs xs zs ms) (e : Ex H H') : DK11 H' kn kvs xs zs ms := ⟨e _ _ h.at_, h.keys, fun j z q => by
  obtain ⟨d, ks, h1, h2, h3⟩ := h.val j z q
  exact ⟨d, ks, h1, e _ _ h2, h3⟩⟩
theorem DK11.snoc {H : Hp} {kn d : Addr} {kvs ks : List (Key × V)} {xs zs : List Str} {ms : List Nat} {z : Str} (h : DK11 H kn kvs xs zs ms) (hz : ¬ z ∈ xs) (hd : H d = some (.dK ks)) (hn : d ≠ kn) (hm : Msk zs ks (ms.getD xs.length 0)) : DK11 (upd H kn (.dK (putK kvs (.inr z) (.ref d)))) kn (putK kvs (.inr z) (.ref d)) (xs ++ [z]) zs ms := by
  have hv : valV kvs (.inr z) = none := by
    cases q : valV kvs (.inr z) with
    | none => rfl
    | some v =>
      have := valV_in q
      rw [h.keys] at this
      obtain ⟨w, hw, e⟩ := List.mem_map.mp this
      cases e
      exact absurd hw hz
  refine ⟨upd_same, by rw [putK_new _ hv, List.map_append, List.map_append, h.keys]; rfl, fun j w q => ?_⟩
  rw [valV_put]
  by_cases c : j < xs.length
  · rw [List.getElem?_append_left c] at q
    obtain ⟨d', ks', h1, h2, h3, h4⟩ := h.val j w q
    rw [if_neg (fun e => hz (by cases e; exact List.mem_of_getElem? q))]
    exact ⟨d', ks', h1, (upd_ne h3).trans h2, h3, h4⟩
  · rw [List.getElem?_append_right (by omega)] at q
    cases e : j - xs.length with
    | zero =>
      rw [e] at q
      cases q
      rw [if_pos rfl, show j = xs.length by omega]
      exact ⟨d, ks, rfl, (upd_ne hn).trans hd, hn, hm⟩
    | succ n => rw [e] at q; simp at q
theorem DK11.put {H : Hp} {kn d : Addr} {kvs ks : List (Key × V)} {zs : List Str} {ms : List Nat} {z : Str} {a m : Nat} (h : DK11 H kn kvs zs zs ms) (nd : zs.Nodup) (hz : zs[a]? = some z) (ha : a < ms.length) (hd : H d = some (.dK ks)) (hn : d ≠ kn) (hm : Msk zs ks m) :
    DK11 (upd H kn (.dK (putK kvs (.inr z) (.ref d)))) kn (putK kvs (.inr z) (.ref d)) zs zs (ms.set a m) := by
  have hs : (valV kvs (.inr z)).isSome = true := key_iff.mp (by rw [h.keys]; exact List.mem_map.mpr ⟨z, List.mem_of_getElem? hz, rfl⟩)
  refine ⟨upd_same, ?_, fun j w q => ?_⟩
  · rw [← h.keys]
    have ha2 : (kvs.any fun kv => decide (kv.1 = (.inr z : Key))) = true := by rw [valV_any]; exact hs
    unfold putK
    rw [if_pos ha2, List.map_map]
    have e : ((fun x : Key × V => x.1) ∘ fun kv : Key × V => if kv.1 = (.inr z : Key) then (kv.1, V.ref d) else kv) = fun x => x.1 := by
      funext x
      show (if x.1 = (.inr z : Key) then (x.1, V.ref d) else x).1 = x.1
      split <;> rfl
    rw [e]
  · rw [valV_put]
    by_cases c : w = z
    · subst c
      have ej : j = a := by
        obtain ⟨hj, e1⟩ := List.getElem?_eq_some_iff.mp q
        obtain ⟨hi, e2⟩ := List.getElem?_eq_some_iff.mp hz
        have pw := List.pairwise_iff_getElem.mp (List.nodup_iff_pairwise_ne.mp nd)
        rcases Nat.lt_trichotomy j a with c | c | c
        · exact absurd (e1.trans e2.symm) (pw _ _ hj hi c)
        · exact c
        · exact absurd (e2.trans e1.symm) (pw _ _ hi hj c)
      subst ej
      rw [if_pos rfl]
      refine ⟨d, ks, rfl, (upd_ne hn).trans hd, hn, ?_⟩
      rw [List.getD_eq_getElem?_getD, List.getElem?_set_self ha]
      exact hm
    · rw [if_neg (fun e => c (Sum.inr.inj e))]
      have ej : a ≠ j := fun e => c (by subst e; rw [hz] at q; exact (Option.some.inj q).symm)
      obtain ⟨d', ks', h1, h2, h3, h4⟩ := h.val j w q
      refine ⟨d', ks', h1, (upd_ne h3).trans h2, h3, ?_⟩
      rw [List.getD_eq_getElem?_getD, List.getElem?_set_ne ej, ← List.getD_eq_getElem?_getD]
      exact h4
theorem Msk.or {zs : List Str} {ks ls bs : List (Key × V)} {m p : Nat} (h1 : Msk zs ks m) (h2 : Msk zs ls p) (nd : (bs.map (·.1)).Nodup) (h : ∀ k, k ∈ bs.map (·.1) ↔ k ∈ ks.map (·.1) ∨ k ∈ ls.map (·.1)) : Msk zs bs (m ||| p) := by
  refine ⟨nd, fun k => ?_⟩
  rw [h k, h1.2 k, h2.2 k]
  constructor
  · rintro (⟨l, z, q1, q2, q3⟩ | ⟨l, z, q1, q2, q3⟩)
    · exact ⟨l, z, q1, q2, by rw [Nat.testBit_or, q3]; rfl⟩
    · exact ⟨l, z, q1, q2, by rw [Nat.testBit_or, q3, Bool.or_true]⟩
  · rintro ⟨l, z, q1, q2, q3⟩
    rw [Nat.testBit_or, Bool.or_eq_true] at q3
    exact q3.imp (fun q => ⟨l, z, q1, q2, q⟩) (fun q => ⟨l, z, q1, q2, q⟩)
theorem Msk.one {zs : List Str} {z : Str} {j : Nat} (hz : zs[j]? = some z) : Msk zs [(.inr z, .bl true)] (2 ^ j) := by
  refine ⟨List.nodup_cons.mpr ⟨by simp, List.nodup_nil⟩, fun k => ?_⟩
  simp only [List.map_cons, List.map_nil, List.mem_singleton]
  constructor
  · intro e
    exact ⟨j, z, hz, e, by rw [Nat.testBit_two_pow]; simp⟩
  · rintro ⟨l, z', q1, q2, q3⟩
    rw [Nat.testBit_two_pow] at q3
    have : j = l := of_decide_eq_true q3
    subst this
    rw [hz] at q1
    cases q1
    exact q2
theorem Msk.full {zs : List Str} {ks : List (Key × V)} (nd : zs.Nodup) (h : Msk zs ks (2 ^ zs.length - 1)) : ks.length = zs.length := by
  have hk : ∀ k, k ∈ ks.map (·.1) ↔ k ∈ zs.map (Sum.inr (α := Int)) := fun k => by
    rw [h.2 k, List.mem_map]
    constructor
    · rintro ⟨l, z, q1, q2, _⟩
      exact ⟨z, List.mem_of_getElem? q1, q2.symm⟩
    · rintro ⟨z, hz, e⟩
      obtain ⟨l, hl, e2⟩ := List.getElem_of_mem hz
      exact ⟨l, z, by rw [List.getElem?_eq_getElem hl, e2], e.symm, by rw [Nat.testBit_two_pow_sub_one]; exact decide_eq_true hl⟩
  have nd2 : (zs.map (Sum.inr (α := Int))).Nodup := List.Pairwise.map _ (fun a b n e => n (Sum.inr.inj e)) nd
  have e := Nat.le_antisymm (nd_len h.1 fun k hk' => (hk k).mp hk') (nd_len nd2 fun k hk' => (hk k).mpr hk')
  rw [List.length_map, List.length_map] at e
  exact e
theorem startM_at {n j : Nat} (h : j < n) : (startM n).getD j 0 = 2 ^ j := by
  unfold startM
  rw [List.getD_eq_getElem?_getD, List.getElem?_map, List.getElem?_range h]
  rfl
end Gc

namespace Gc
theorem runM : ∀ n, n < 71 → (pairsP n).foldl stepM (startM n) = List.replicate n (2 ^ n - 1) := by decide +kernel
theorem pairs_in : ∀ n, n < 71 → ∀ p ∈ pairsP n, p.1 < n ∧ p.2 < n ∧ p.1 ≠ p.2 := by decide +kernel
theorem pairs_len : ∀ n, n < 71 → (pairsP n).length = if n < 4 then [0, 0, 1, 3].getD n 0 else 2 * n - 4 := by decide +kernel
end Gc

namespace Gc
open PySem L2 Evl
def top (i : Nat) : Stmt := PySem.Challenge.pw_gossipcount_k11_whole_calls.main.body.getD i (.Pass ⟨0, 0, 0, 0⟩)
abbrev s_l_name_by : Stmt := top 4
abbrev s_l_cell_at : Stmt := top 3
abbrev s_l_names : Stmt := top 5
abbrev s_calls : Stmt := top 1
abbrev s_l_pair : Stmt := top 6
abbrev s_law_k11 : Stmt := top 7
theorem sc_l_name_by : FnScope ["_law_cell", "_law_signs", "_law_step", "_law_word", "_law_k"] ["_law_cell"] (defScope s_l_name_by) := ⟨rfl, rfl, rfl, by decide +kernel, rfl, by decide +kernel, by decide +kernel⟩
theorem sc_l_cell_at : FnScope ["_law_script", "_law_k"] ["_law_script", "_law_k"] (defScope s_l_cell_at) := ⟨rfl, rfl, rfl, by decide +kernel, rfl, by decide +kernel, by decide +kernel⟩
theorem sc_l_names : FnScope ["_law_script", "_law_size", "_law_found", "_law_k", "_law_letters", "_law_word"] ["_law_script", "_law_size"] (defScope s_l_names) := ⟨rfl, rfl, rfl, by decide +kernel, rfl, by decide +kernel, by decide +kernel⟩
theorem sc_calls : FnScope ["names", "beyond", "name", "middle"] ["names"] (defScope s_calls) := ⟨rfl, rfl, rfl, by decide +kernel, rfl, by decide +kernel, by decide +kernel⟩
theorem sc_l_pair : FnScope ["_law_pair_here", "_law_known", "_law_name"] ["_law_pair_here", "_law_known"] (defScope s_l_pair) := ⟨rfl, rfl, rfl, by decide +kernel, rfl, by decide +kernel, by decide +kernel⟩
theorem sc_law_k11 : FnScope ["_law_script", "_law_size", "_law_names_here", "_law_handed", "_law_row", "_law_due", "_law_known", "_law_name", "_law_pair_here", "_law_both"] ["_law_script"] (defScope s_law_k11) := ⟨rfl, rfl, rfl, by decide +kernel, rfl, by decide +kernel, by decide +kernel⟩
structure Tx (K : PySem.W.Frag) (mg : Str → Option Value) where
  f_l_name_by : Addr
  fd_l_name_by : FuncData
  f_l_cell_at : Addr
  fd_l_cell_at : FuncData
  f_l_names : Addr
  fd_l_names : FuncData
  f_calls : Addr
  fd_calls : FuncData
  f_l_pair : Addr
  fd_l_pair : FuncData
  f_law_k11 : Addr
  fd_law_k11 : FuncData
  F_l_name_by : Fun K "_law_name_by" "_law_name_by" s_l_name_by f_l_name_by fd_l_name_by
  b_l_name_by : Binds K fd_l_name_by ["_law_cell"] []
  m_l_name_by : mg "_law_name_by" = some (.ref f_l_name_by)
  F_l_cell_at : Fun K "_law_cell_at" "_law_cell_at" s_l_cell_at f_l_cell_at fd_l_cell_at
  b_l_cell_at : Binds K fd_l_cell_at ["_law_script", "_law_k"] []
  m_l_cell_at : mg "_law_cell_at" = some (.ref f_l_cell_at)
  F_l_names : Fun K "_law_names" "_law_names" s_l_names f_l_names fd_l_names
  b_l_names : Binds K fd_l_names ["_law_script", "_law_size"] []
  m_l_names : mg "_law_names" = some (.ref f_l_names)
  F_calls : Fun K "calls" "calls" s_calls f_calls fd_calls
  b_calls : Binds K fd_calls ["names"] []
  m_calls : mg "calls" = some (.ref f_calls)
  F_l_pair : Fun K "_law_pair" "_law_pair" s_l_pair f_l_pair fd_l_pair
  b_l_pair : Binds K fd_l_pair ["_law_pair_here", "_law_known"] []
  m_l_pair : mg "_law_pair" = some (.ref f_l_pair)
  F_law_k11 : Fun K "law" "law" s_law_k11 f_law_k11 fd_law_k11
  b_law_k11 : Binds K fd_law_k11 ["_law_script"] []
  m_law_k11 : mg "law" = some (.ref f_law_k11)
  n_dict : mg "dict" = none
  n_isinstance : mg "isinstance" = none
  n_len : mg "len" = none
  n_list : mg "list" = none
  n_range : mg "range" = none
  n_str : mg "str" = none
  n_tuple : mg "tuple" = none
section
variable {P : Program} {w : World} {K : PySem.W.Frag} {mg : Str → Option Value} {base : Heap}
/-- name_by(c): some name -/
def sp_name_by : Sp := fun vs H Q _ => ∃ c : Int, vs = [.int c] ∧ ∀ z : Str, nameB z = true → ∀ H', Ex H H' → Q (.str z) H'
theorem ok_l_name_by (T : Tx K mg) : FnOk P w K mg base CX0 1 T.f_l_name_by T.fd_l_name_by ["_law_cell"] (sp_name_by) := by
  refine T.F_l_name_by.ok sc_l_name_by (fun vs H Q E h => ?_) (fun cdv A outer s H vs Q E hr h => ?_)
  · first | (obtain ⟨rfl, _⟩ := h; rfl) | (obtain ⟨_, rfl, _⟩ := h; rfl) | (obtain ⟨_, _, rfl, _⟩ := h; rfl) | (obtain ⟨_, _, _, rfl, _⟩ := h; rfl) | (obtain ⟨_, _, _, _, rfl, _⟩ := h; rfl) | (obtain ⟨_, _, _, _, _, rfl, _⟩ := h; rfl) | (obtain ⟨_, _, _, _, _, _, rfl, _⟩ := h; rfl) | (obtain ⟨_, _, _, _, _, _, _, rfl, _⟩ := h; rfl) | (obtain ⟨_, _, _, _, _, _, _, _, rfl, _⟩ := h; rfl)
  · obtain ⟨c, rfl, k⟩ := h
    refine ⟨_, (pss_cons (ps_set (i := 1) sc_l_name_by.nd rfl (Or.inr rfl) pe_str) (pss_cons (ps_set (i := 2) sc_l_name_by.nd rfl (Or.inr rfl) (pe_op op_add pe_int (pe_op op_mod (pe_op op_fdiv (pv 0) pe_int) pe_int))) (pss_cons (ps_setLc (i := 3) (own := [("_law_k", 4)]) (g := gName 4) (tt := tYes) rfl sc_l_name_by.nd rfl rfl (sw_true rfl rfl rfl (by decide +kernel)) (pi_range1 rfl T.n_range (pa_cons (pe_op op_add pe_int (pe_op op_mod (pv 0) pe_int)) pa_nil)) (blkOk_by (own := [("_law_k", 4)]) (N := ["_law_cell", "_law_signs", "_law_step", "_law_word", "_law_k"]) (sc := defScope s_l_name_by) (by decide +kernel)) (fun _ _ _ _ _ => pg_name (i := 4) sc_l_name_by.nd rfl (Or.inl rfl)) (fun _ _ _ _ _ => pts_nil) (fun _ _ _ _ _ => (pe_ix ix_str (pv 1) (pe_op op_mod (pe_op op_add (pe_op op_fdiv (pv 0) pe_int) (pe_op op_mul (pv 4) (pv 2))) pe_int) (fun _ _ => rfl)))) (pss_cut (ps_if (pt_cmpR op_eq (pe_op op_mod (pe_op op_fdiv (pv 0) pe_int) pe_int) pe_int (nomark _)) (pss_one (ps_asg (pe_ix ix_str (pv 1) (pe_op op_mod (pe_op op_fdiv (pv 0) pe_int) pe_int) (fun _ _ => rfl)) (pg_sub (pv 3) (pe_op op_mod (pe_op op_fdiv (pv 0) pe_int) (pe_callB call_len_seq (by rfl) T.n_len PySem.boot_len (pa_cons (pv 3) pa_nil))) set_list))) pss_nil) (pss_one (ps_ret (pe_join pe_str (pv 3)))))))), ?_⟩
    have m8 := mod_in (a := c) (b := 8) (by decide)
    walk_at "gc"
    rename_i D hD
    refine Gc.lc_go (walk_range (lo := 0) (n := (1 + c % 8).toNat)) (fun i acc _ => Signs (fun x => x ∈ LET.cps.toList) acc ∧ acc.length = i) (by omega) hD (fun _ _ => trivial) (fun _ _ _ _ h => h) (fun _ _ => ⟨Signs.nil, rfl⟩) (fun i x acc H2 Kk Nn hi hy e hD2 p hK hN => ?_) (fun acc H2 e hD2 p => ?_)
    · have ex : x = .int (0 + (i : Int)) := hy
      subst ex
      have m := mod_in (a := c / 8 + (0 + (i : Int)) * (1 + c / 208 % 25)) (b := 26) (by decide)
      obtain ⟨s, hs, hmem⟩ := atI_in (xs := LET.cps.toList) m.1 m.2
      walk_at "gc"
      exact hK _ _ (Ex.refl _) ⟨p.1.one hmem, by rw [List.length_append, List.length_singleton, p.2]⟩
    refine ⟨fun σ' H' => Hold (∃ xs v1 v2 v3, σ' = [v1, v2, v3, some (.ref D), none] ∧ Signs (fun x => x ∈ LET.cps.toList) xs ∧ xs.length = (1 + c % 8).toNat ∧ H' D = some (.lst xs) ∧ Ex H H'), ?_, fun σ' H' hm => ?_⟩
    · walk_at "gc"
      refine Gc.eqI_2 (fun c1 => ?_) (fun c1 => ?_)
      · have m1 := mod_in (a := c / 83200) (b := 26) (by decide)
        have m2 := mod_in (a := c / 10400) (b := ((acc.length : Nat) : Int)) (by have := p.2; omega)
        obtain ⟨s, hs, hmem⟩ := atI_in (xs := LET.cps.toList) m1.1 m1.2
        have q := ixN_in (n := acc.length) m2.1 m2.2
        walk_at "gc"
        exact ⟨⟨_, _, _, _, rfl, p.1.put hmem _, by rw [List.length_set]; exact p.2, upd_same, Ex.mut e hD⟩⟩
      · exact ⟨⟨_, _, _, _, rfl, p.1, p.2, hD2, e⟩⟩
    obtain ⟨⟨xs, v1, v2, v3, rfl, hS, hl, hx, he⟩⟩ := hm
    obtain ⟨cs, rfl, hc⟩ := hS
    rw [List.length_map, List.length_map] at hl
    have hsz := sg_size cs (by omega)
    walk_at "gc"
    rw [join_sg]
    exact k ⟨cs.toArray⟩ (nameB_sg cs (by omega) (by omega) hc) _ he
/-- cell_at(script, k) -/
def sp_cell_at (K : PySem.W.Frag) : Sp := fun vs H Q _ => ∃ (a : Addr) (ns : List Int) (j : Int), vs = [.ref a, .int j] ∧ SqL K H a (ns.map V.int) ∧ 0 ≤ j ∧ Q (.int (cellI ns j)) H
theorem ok_l_cell_at (T : Tx K mg) : FnOk P w K mg base CX0 1 T.f_l_cell_at T.fd_l_cell_at ["_law_script", "_law_k"] (sp_cell_at K) := by
  refine T.F_l_cell_at.ok sc_l_cell_at (fun vs H Q E h => ?_) (fun cdv A outer s H vs Q E hr h => ?_)
  · first | (obtain ⟨rfl, _⟩ := h; rfl) | (obtain ⟨_, rfl, _⟩ := h; rfl) | (obtain ⟨_, _, rfl, _⟩ := h; rfl) | (obtain ⟨_, _, _, rfl, _⟩ := h; rfl) | (obtain ⟨_, _, _, _, rfl, _⟩ := h; rfl) | (obtain ⟨_, _, _, _, _, rfl, _⟩ := h; rfl) | (obtain ⟨_, _, _, _, _, _, rfl, _⟩ := h; rfl) | (obtain ⟨_, _, _, _, _, _, _, rfl, _⟩ := h; rfl) | (obtain ⟨_, _, _, _, _, _, _, _, rfl, _⟩ := h; rfl)
  · obtain ⟨a, ns, j, rfl, hs, h0, k⟩ := h
    refine ⟨_, (pss_cons (ps_if (pt_cmpR op_lt (pv 1) (pe_callB call_len_seq (by rfl) T.n_len PySem.boot_len (pa_cons (pv 0) pa_nil)) (nomark _)) (pss_one (ps_ret (pe_ix ix_list (pv 0) (pv 1) (fun _ _ => rfl)))) pss_nil) (pss_one (ps_ret pe_int))), ?_⟩
    walk_at "gc"
    rw [List.length_map]
    refine Gc.lt_2 (fun hc => ?_) (fun hc => ?_)
    · have hj : j.toNat < ns.length := by omega
      have ej : j = ((j.toNat : Nat) : Int) := by omega
      refine ⟨_, rfl, _, rfl, _, _, _, _, rfl, rfl, hs, (by rw [ej]; exact atI_nat (by rw [List.getElem?_map, List.getElem?_eq_getElem hj]; rfl)), ?_⟩
      have e : cellI ns j = ns[j.toNat] := by unfold cellI; simp [hj]
      rw [e] at k
      exact k
    · have hj : ns.length ≤ j.toNat := by omega
      have e : cellI ns j = 0 := by unfold cellI; simp [hj]
      rw [e] at k
      exact k
/-- names(script, size): names that differ -/
def sp_names11 (K : PySem.W.Frag) : Sp := fun vs H Q _ => ∃ (a : Addr) (ns : List Int) (s : Int), vs = [.ref a, .int s] ∧ SqL K H a (ns.map V.int) ∧ ns.length ≤ 63 ∧ 0 ≤ s ∧ s ≤ 70 ∧
  ∀ p zs H', H p = none → Ex H H' → H' p = some (.lst (zs.map V.str)) → Nms (cellI ns 2) zs → (zs.length : Int) = s → Q (.ref p) H'
theorem ok_l_names (T : Tx K mg) : FnOk P w K mg base CX0 2 T.f_l_names T.fd_l_names ["_law_script", "_law_size"] (sp_names11 K) := by
  refine T.F_l_names.ok sc_l_names (fun vs H Q E h => ?_) (fun cdv A outer s H vs Q E hr h => ?_)
  · first | (obtain ⟨rfl, _⟩ := h; rfl) | (obtain ⟨_, rfl, _⟩ := h; rfl) | (obtain ⟨_, _, rfl, _⟩ := h; rfl) | (obtain ⟨_, _, _, rfl, _⟩ := h; rfl) | (obtain ⟨_, _, _, _, rfl, _⟩ := h; rfl) | (obtain ⟨_, _, _, _, _, rfl, _⟩ := h; rfl) | (obtain ⟨_, _, _, _, _, _, rfl, _⟩ := h; rfl) | (obtain ⟨_, _, _, _, _, _, _, rfl, _⟩ := h; rfl) | (obtain ⟨_, _, _, _, _, _, _, _, rfl, _⟩ := h; rfl)
  · obtain ⟨a, ns, s, rfl, hs, hl, s0, s1, k⟩ := h
    refine ⟨_, (pss_cons (ps_set (i := 2) sc_l_names.nd rfl (Or.inl rfl) (pe_lst pa_nil)) (pss_cons (ps_for PassesOwn.never rfl (pi_range1 rfl T.n_range (pa_cons (pv 1) pa_nil)) (pg_name (i := 3) sc_l_names.nd rfl (Or.inl rfl)) (pss_cons (ps_set (i := 4) sc_l_names.nd rfl (Or.inl rfl) pe_str) (pss_cons (ps_set (i := 5) sc_l_names.nd rfl (Or.inl rfl) (pe_slice sl_str (pe_call (ok_l_name_by T) (hr.mono (by decide)) rfl T.m_l_name_by T.F_l_name_by.kp T.b_l_name_by .nil pass0 (pa_cons (pe_op op_add (pe_call (ok_l_cell_at T) (hr.mono (by decide)) rfl T.m_l_cell_at T.F_l_cell_at.kp T.b_l_cell_at .nil pass0 (pa_cons (pv 0) (pa_cons pe_int pa_nil))) (pe_op op_mul pe_int (pv 3))) pa_nil)) po_none (po_some pe_int))) (pss_one (ps_expr (pe_bm PySem.F.plainAttrs_list PySem.F.slot_list_append PySem.F.type_list_append mt_append (pv 2) (pa_cons (pe_op op_add_str (pe_op op_add_str (pe_ix ix_str (pv 4) (pe_op op_mod (pe_op op_add (pe_op op_mul (pv 3) pe_int) (pe_call (ok_l_cell_at T) (hr.mono (by decide)) rfl T.m_l_cell_at T.F_l_cell_at.kp T.b_l_cell_at .nil pass0 (pa_cons (pv 0) (pa_cons pe_int pa_nil)))) pe_int) (fun _ _ => rfl)) (pe_ix ix_str (pv 4) (pe_op op_fdiv (pv 3) pe_int) (fun _ _ => rfl))) (pv 5)) pa_nil))))))) (pss_one (ps_ret (pv 2))))), ?_⟩
    walk_at "gc"
    rename_i L hL H1 e1 f1
    refine for_it (walk_range (lo := 0)) (fun i σ' H' => Hold (∃ v3 v4 v5 zs, σ' = [some (.ref a), some (.int s), some (.ref L), v3, v4, v5] ∧ H' L = some (.lst (zs.map V.str)) ∧ Nms (cellI ns 2) zs ∧ zs.length = i ∧ Ex H H')) ⟨⟨_, _, _, [], rfl, f1, ⟨fun j z q => (by simp at q), NmOk.nil⟩, rfl, e1⟩⟩ (fun _ _ _ _ _ => trivial) (fun i x σ' H2 H3 hi hp' hy => ?_) (fun σ' H2 hp' => ?_)
    · obtain ⟨⟨v3, v4, v5, zs, rfl, hLL, hz, hzl, he⟩⟩ := hp'
      obtain ⟨rfl, rfl⟩ := hy
      have hs3 : SqL K H3 a (ns.map V.int) := (Er.of he).sqL hs
      have m1 := mod_in (a := (0 + (i : Int)) * 17 + cellI ns 2) (b := 26) (by decide)
      obtain ⟨s1', hs1', hm1⟩ := atI_in (xs := LET.cps.toList) m1.1 m1.2
      obtain ⟨s2', hs2', hm2⟩ := atI_in (xs := LET.cps.toList) (i := (0 + (i : Int)) / 26) (by omega) (by show _ < ((26 : Nat) : Int); omega)
      walk_at "gc"
      rename_i w hw H4 e4
      refine And.intro (Evl.sz_of (name_len hw)) ?_
      have hLL4 := e4 _ _ hLL
      walk_at "gc"
      obtain ⟨g1, g2⟩ := name_of_mark hm1 hm2 hw
      refine And.intro (Evl.sz_of (by rw [app_len]; show 1 + 1 + (cutS w none (some ((6 : Nat) : Int))).length ≤ 100000; rw [cut_len]; omega)) ?_
      walk_at "gc"
      refine And.intro (Evl.sz_lt (by rw [List.length_map]; omega)) ?_
      rw [Int.zero_add] at hs1' hs2'
      refine ⟨⟨_, _, _, zs ++ [(⟨#[s1']⟩ ++ ⟨#[s2']⟩ : Str) ++ cutS w none (some ((6 : Nat) : Int))], rfl, ?_, hz.snoc ⟨s1', s2', _, by rw [hzl]; exact hs1', by rw [hzl]; exact hs2', g2⟩ g1, by rw [List.length_append, hzl]; rfl, Ex.mut (he.trans e4) hL⟩⟩
      rw [upd_same, List.map_append]
      rfl
    · obtain ⟨⟨v3, v4, v5, zs, rfl, hLL, hz, hzl, he⟩⟩ := hp'
      walk_at "gc"
      exact k L zs H2 hL he hLL hz (by omega)
/-- calls(names) -/
def sp_calls (K : PySem.W.Frag) : Sp := fun vs H Q _ => ∃ (L : Addr) (zs : List Str), vs = [.ref L] ∧ H L = some (.lst (zs.map V.str)) ∧ zs.length ≤ 70 ∧ ∀ p xs H', H p = none → Ex H H' → H' p = some (.lst xs) → Prs K H' xs (pairsP zs.length) zs → Q (.ref p) H'
theorem ok_calls (T : Tx K mg) : FnOk P w K mg base CX0 1 T.f_calls T.fd_calls ["names"] (sp_calls K) := by
  refine T.F_calls.ok sc_calls (fun vs H Q E h => ?_) (fun cdv A outer s H vs Q E hr h => ?_)
  · first | (obtain ⟨rfl, _⟩ := h; rfl) | (obtain ⟨_, rfl, _⟩ := h; rfl) | (obtain ⟨_, _, rfl, _⟩ := h; rfl) | (obtain ⟨_, _, _, rfl, _⟩ := h; rfl) | (obtain ⟨_, _, _, _, rfl, _⟩ := h; rfl) | (obtain ⟨_, _, _, _, _, rfl, _⟩ := h; rfl) | (obtain ⟨_, _, _, _, _, _, rfl, _⟩ := h; rfl) | (obtain ⟨_, _, _, _, _, _, _, rfl, _⟩ := h; rfl) | (obtain ⟨_, _, _, _, _, _, _, _, rfl, _⟩ := h; rfl)
  · obtain ⟨L, zs, rfl, hL, hlen, k⟩ := h
    refine ⟨_, (pss_cons (ps_if (pt_cmpR op_lt (pe_callB call_len_seq (by rfl) T.n_len PySem.boot_len (pa_cons (pv 0) pa_nil)) pe_int (nomark _)) (pss_one (ps_ret (pe_lst pa_nil))) pss_nil) (pss_cons (ps_if (pt_cmpR op_eq (pe_callB call_len_seq (by rfl) T.n_len PySem.boot_len (pa_cons (pv 0) pa_nil)) pe_int (nomark _)) (pss_one (ps_ret (pe_lst (pa_cons (pe_tup (pa_cons (pe_ix ix_list (pv 0) pe_int (fun _ _ => rfl)) (pa_cons (pe_ix ix_list (pv 0) pe_int (fun _ _ => rfl)) pa_nil))) pa_nil)))) pss_nil) (pss_cons (ps_if (pt_cmpR op_eq (pe_callB call_len_seq (by rfl) T.n_len PySem.boot_len (pa_cons (pv 0) pa_nil)) pe_int (nomark _)) (pss_one (ps_ret (pe_lst (pa_cons (pe_tup (pa_cons (pe_ix ix_list (pv 0) pe_int (fun _ _ => rfl)) (pa_cons (pe_ix ix_list (pv 0) pe_int (fun _ _ => rfl)) pa_nil))) (pa_cons (pe_tup (pa_cons (pe_ix ix_list (pv 0) pe_int (fun _ _ => rfl)) (pa_cons (pe_ix ix_list (pv 0) pe_int (fun _ _ => rfl)) pa_nil))) (pa_cons (pe_tup (pa_cons (pe_ix ix_list (pv 0) pe_int (fun _ _ => rfl)) (pa_cons (pe_ix ix_list (pv 0) pe_int (fun _ _ => rfl)) pa_nil))) pa_nil)))))) pss_nil) (pss_cut (ps_setLc (i := 1) (own := [("name", 2)]) (g := gName 2) (tt := tYes) rfl sc_calls.nd rfl rfl (sw_true rfl rfl rfl (by decide +kernel)) (pi_list (pe_slice sl_list (pv 0) (po_some pe_int) po_none)) (blkOk_by (own := [("name", 2)]) (N := ["names", "beyond", "name", "middle"]) (sc := defScope s_calls) (by decide +kernel)) (fun _ _ _ _ _ => pg_name (i := 2) sc_calls.nd rfl (Or.inl rfl)) (fun _ _ _ _ _ => pts_nil) (fun _ _ _ _ _ => (pe_tup (pa_cons (pe_ix (show IxR _ (rIxL K) from ix_list) (pv 0) pe_int (fun _ _ => rfl)) (pa_cons (pv 2) pa_nil))))) (pss_cut (ps_set (i := 3) sc_calls.nd rfl (Or.inl rfl) (pe_lst (pa_cons (pe_tup (pa_cons (pe_ix ix_list (pv 0) pe_int (fun _ _ => rfl)) (pa_cons (pe_ix ix_list (pv 0) pe_int (fun _ _ => rfl)) pa_nil))) (pa_cons (pe_tup (pa_cons (pe_ix ix_list (pv 0) pe_int (fun _ _ => rfl)) (pa_cons (pe_ix ix_list (pv 0) pe_int (fun _ _ => rfl)) pa_nil))) (pa_cons (pe_tup (pa_cons (pe_ix ix_list (pv 0) pe_int (fun _ _ => rfl)) (pa_cons (pe_ix ix_list (pv 0) pe_int (fun _ _ => rfl)) pa_nil))) (pa_cons (pe_tup (pa_cons (pe_ix ix_list (pv 0) pe_int (fun _ _ => rfl)) (pa_cons (pe_ix ix_list (pv 0) pe_int (fun _ _ => rfl)) pa_nil))) pa_nil)))))) (pss_one (ps_ret (pe_op op_cat (pe_op op_cat (pv 1) (pv 3)) (pv 1))))))))), ?_⟩
    have hml : (zs.map V.str).length = zs.length := List.length_map _
    walk_at "gc"
    refine Gc.lt_2 (fun c1 => ?_) (fun c1 => ?_)
    · rw [hml] at c1
      walk_at "gc"
      rename_i p hp H1 e1 f1
      refine k p [] H1 hp e1 f1 ?_
      rw [show pairsP zs.length = [] from if_pos (by omega)]
      exact Prs.nil
    rw [hml] at c1
    obtain ⟨z0, z1, zr, rfl⟩ : ∃ z0 z1 zr, zs = z0 :: z1 :: zr := by
      match zs, c1 with
      | z0 :: z1 :: zr, _ => exact ⟨z0, z1, zr, rfl⟩
      | [_], h => exact absurd (by show ((1 : Nat) : Int) < 2; decide) h
      | [], h => exact absurd (by decide) h
    clear hml
    cases zr with
    | nil =>
      walk_at "gc"
      rename_i t ht H1 e1 f1 p hp H2 e2 f2
      exact k p _ H2 (ex_of_none e1 hp) (e1.trans e2) f2 (Prs.one (Er.sqT (Er.of e2) (Evl.st_of f1)) rfl rfl)
    | cons z2 zr =>
    cases zr with
    | nil =>
      walk_at "gc"
      rename_i t ht H1 e1 f1 t2 ht2 H2 e2 f2 t3 ht3 H3 e3 f3 p hp H4 e4 f4
      have s1 := Er.sqT (Er.of ((e2.trans e3).trans e4)) (Evl.st_of (K := K) f1)
      have s2 := Er.sqT (Er.of (e3.trans e4)) (Evl.st_of (K := K) f2)
      have s3 := Er.sqT (Er.of e4) (Evl.st_of (K := K) f3)
      exact k p _ H4 (ex_of_none ((e1.trans e2).trans e3) hp) (((e1.trans e2).trans e3).trans e4) f4 ((Prs.one s1 (a := 0) (b := 1) rfl rfl).app ((Prs.one s2 (a := 0) (b := 2) rfl rfl).app (Prs.one s3 (a := 0) (b := 1) rfl rfl)))
    | cons z3 zr =>
      have hq : (((z0 :: z1 :: z2 :: z3 :: zr).map V.str).length : Int) = (zr.length : Int) + 4 := by simp only [List.map_cons, List.length_cons, List.length_map]; omega
      walk_at "gc"
      refine L2.iteF ?_
      walk_at "gc"
      have hn4 : 4 ≤ (z0 :: z1 :: z2 :: z3 :: zr).length := by simp
      have hml : ((z0 :: z1 :: z2 :: z3 :: zr).map V.str).length = (z0 :: z1 :: z2 :: z3 :: zr).length := List.length_map _
      have at0 : atI ((z0 :: z1 :: z2 :: z3 :: zr).map V.str) 0 = some (.str z0) := atI_nat (j := 0) rfl
      have at1 : atI ((z0 :: z1 :: z2 :: z3 :: zr).map V.str) 1 = some (.str z1) := atI_nat (j := 1) rfl
      have at2 : atI ((z0 :: z1 :: z2 :: z3 :: zr).map V.str) 2 = some (.str z2) := atI_nat (j := 2) rfl
      have at3 : atI ((z0 :: z1 :: z2 :: z3 :: zr).map V.str) 3 = some (.str z3) := atI_nat (j := 3) rfl
      refine Gc.op_go fun N9 R9 B9 E9 hN9 hR9 => ?_
      walk_at "gc"
      rename_i S hS H1 e1 f1 D hD
      rw [show (4 : Int) = ((4 : Nat) : Int) from rfl, cutV_from (by rw [hml]; exact hn4)] at f1
      have hdl : ((z0 :: z1 :: z2 :: z3 :: zr).map V.str).drop 4 = zr.map V.str := rfl
      rw [hdl] at f1
      have hL1 := e1 _ _ hL
      have hzr : ∀ i z, zr[i]? = some z → (z0 :: z1 :: z2 :: z3 :: zr)[4 + i]? = some z := fun i z h => by
        rw [show 4 + i = i + 1 + 1 + 1 + 1 by omega]; exact h
      refine Gc.lc_go (walk_list (K := K) (xs := zr.map V.str)) (fun i acc H9 => PrsF K D H9 acc ((List.range i).map fun j => (0, 4 + j)) (z0 :: z1 :: z2 :: z3 :: zr)) (by rw [List.length_map]; omega) hD (fun H' e => Evl.sq_of (e _ _ f1)) (fun i acc H9 o hp => hp.upd) (fun H9 e ys => Prs.nil) (fun i x acc H2 Kk Nn hi hy e hD2 hp hK hN => ?_) (fun acc H2 e hD2 hp => ?_)
      · obtain ⟨z, hz, rfl⟩ : ∃ z, zr[i]? = some z ∧ x = .str z := by
          have hy' : (zr.map V.str)[i]? = some x := hy
          rw [List.getElem?_map] at hy'
          cases q : zr[i]? with
          | none => rw [q] at hy'; cases hy'
          | some z => rw [q] at hy'; cases hy'; exact ⟨z, rfl, rfl⟩
        have hL2 := e _ _ hL1
        walk_at "gc"
        rename_i t ht H3 e3 f3
        have q := ((hp.it hD2).tp (Et.of e3).tp).app (Prs.one (a := 0) (b := 4 + i) (Evl.st_of f3) rfl (hzr i z hz))
        rw [← beyond_snoc] at q
        exact hK _ _ e3 (PrsF.of q (e3 _ _ hD2))
      have hp2 := hp.it hD2
      rw [List.length_map, show zr.length = (z0 :: z1 :: z2 :: z3 :: zr).length - 4 from rfl] at hp2
      have hL2 := e _ _ hL1
      have hal : acc.length ≤ 70 := by
        have := hp2.1
        rw [List.length_map, List.length_range] at this
        omega
      have hD1 : H D = none := ex_of_none e1 hD
      have e02 := e1.trans e
      refine hN9 _ _ ?_
      clear hN9 hR9
      refine Gc.op_go fun N9 R9 B9 E9 hN9 hR9 => ?_
      walk_at "gc"
      rename_i t1 h1 H3 e3 f3 t2 h2 H4 e4 f4 t3 h3 H5 e5 f5 t4 h4 H6 e6 f6 M hM H7 e7 f7
      refine hN9 _ _ ?_
      clear hN9 hR9
      have e27 := (((e3.trans e4).trans e5).trans e6).trans e7
      have hD7 := e27 _ _ hD2
      have s1 := Er.sqT (Er.of (((e4.trans e5).trans e6).trans e7)) (Evl.st_of (K := K) f3)
      have s2 := Er.sqT (Er.of ((e5.trans e6).trans e7)) (Evl.st_of (K := K) f4)
      have s3 := Er.sqT (Er.of (e6.trans e7)) (Evl.st_of (K := K) f5)
      have s4 := Er.sqT (Er.of e7) (Evl.st_of (K := K) f6)
      have hp7 := hp2.tp (Et.of e27).tp
      have hm7 := ((Prs.one s1 (a := 0) (b := 1) (zs := z0 :: z1 :: z2 :: z3 :: zr) rfl rfl).app ((Prs.one s2 (a := 2) (b := 3) rfl rfl).app ((Prs.one s3 (a := 0) (b := 2) rfl rfl).app (Prs.one s4 (a := 1) (b := 3) rfl rfl))))
      have e07 := e02.trans e27
      clear f3 f4 f5 f6 e3 e4 e5 e6 e7 e27 s1 s2 s3 s4 e02 e
      refine Gc.end_go fun N9 R9 B9 E9 hN9 hR9 => ?_
      walk_at "gc"
      refine And.intro (Evl.sz_of (by show acc.length + 4 ≤ 100000; omega)) ?_
      walk_at "gc"
      rename_i p1 hp1 H8 e8 f8
      refine And.intro (Evl.sz_of (by rw [List.length_append]; show acc.length + 4 + acc.length ≤ 100000; omega)) ?_
      walk_at "gc"
      rename_i p2 hp2' H9 e9 f9
      refine hR9 _ _ (k p2 _ H9 (ex_of_none (e07.trans e8) hp2') ((e07.trans e8).trans e9) f9 ?_)
      rw [pairsP_many hn4]
      exact ((hp7.app hm7).app hp7).tp (Et.of (e8.trans e9)).tp
/-- pair(pair, known) -/
def sp_pair (K : PySem.W.Frag) : Sp := fun vs H Q _ => ∃ (t : Addr) (z w : Str) (kn : Addr) (kvs : List (Key × V)), vs = [.ref t, .ref kn] ∧ SqT K H t [.str z, .str w] ∧ H kn = some (.dK kvs) ∧ (valV kvs (.inr z)).isSome = true ∧ (valV kvs (.inr w)).isSome = true ∧ Q (.bl true) H
theorem ok_l_pair (T : Tx K mg) : FnOk P w K mg base CX0 1 T.f_l_pair T.fd_l_pair ["_law_pair_here", "_law_known"] (sp_pair K) := by
  refine T.F_l_pair.ok sc_l_pair (fun vs H Q E h => ?_) (fun cdv A outer s H vs Q E hr h => ?_)
  · first | (obtain ⟨rfl, _⟩ := h; rfl) | (obtain ⟨_, rfl, _⟩ := h; rfl) | (obtain ⟨_, _, rfl, _⟩ := h; rfl) | (obtain ⟨_, _, _, rfl, _⟩ := h; rfl) | (obtain ⟨_, _, _, _, rfl, _⟩ := h; rfl) | (obtain ⟨_, _, _, _, _, rfl, _⟩ := h; rfl) | (obtain ⟨_, _, _, _, _, _, rfl, _⟩ := h; rfl) | (obtain ⟨_, _, _, _, _, _, _, rfl, _⟩ := h; rfl) | (obtain ⟨_, _, _, _, _, _, _, _, rfl, _⟩ := h; rfl)
  · obtain ⟨t, z, w, kn, kvs, rfl, ht, hk, hz, hw, k⟩ := h
    refine ⟨_, (pss_cons (ps_if (PW.pt (pw_or (pt_not (pt_val (pe_callB call_isi (by rfl) T.n_isinstance PyProof.Rows.boot_isinstance (pa_cons (pv 0) (pa_cons (pe_bltn (v := .ty "tuple") (by rfl) T.n_tuple PyProof.Rows.boot_tuple rfl) pa_nil))))) (pw_or1 (pt_cmpR op_ne (pe_callB call_len_seq (by rfl) T.n_len PySem.boot_len (pa_cons (pv 0) pa_nil)) pe_int (nomark _))))) (pss_one (ps_ret pe_bl)) pss_nil) (pss_cons (ps_for PassesOwn.never rfl (pi_tup (pv 0)) (pg_name (i := 2) sc_l_pair.nd rfl (Or.inl rfl)) (pss_one (ps_if (PW.pt (pw_or (pt_not (pt_val (pe_callB call_isi (by rfl) T.n_isinstance PyProof.Rows.boot_isinstance (pa_cons (pv 2) (pa_cons (pe_bltn (v := .ty "str") (by rfl) T.n_str PyProof.Rows.boot_str rfl) pa_nil))))) (pw_or1 (pt_cmp (pc_dnotin (hu_of hr) (pv 2) (pv 1)) (by with_unfolding_all rfl))))) (pss_one (ps_ret pe_bl)) pss_nil))) (pss_one (ps_ret pe_bl)))), ?_⟩
    walk_at "gc"
    refine for_it (walk_tup (K := K) (xs := [V.str z, .str w])) (fun i σ' H' => Hold (∃ v, σ' = [some (.ref t), some (.ref kn), v] ∧ H' = H)) ⟨⟨_, rfl, rfl⟩⟩ (fun _ _ _ _ hp => by obtain ⟨⟨_, _, rfl⟩⟩ := hp; exact ht) (fun i x σ' H1 H2 hi hp hy => ?_) (fun σ' H1 hp => ?_)
    · obtain ⟨⟨v, rfl, rfl⟩⟩ := hp
      obtain ⟨rfl, hxi⟩ := hy
      obtain ⟨y, rfl, hy⟩ : ∃ y : Str, x = .str y ∧ (valV kvs (.inr y)).isSome = true := by
        have := List.mem_of_getElem? hxi
        simp only [List.mem_cons, List.not_mem_nil, or_false] at this
        rcases this with rfl | rfl
        · exact ⟨_, rfl, hz⟩
        · exact ⟨_, rfl, hw⟩
      walk_at "gc"
      refine And.intro (Gc.dget_o (.inr y) (.inl hk)) ?_
      refine Exists.intro false (And.intro (show V.bl (!(valV kvs (.inr y)).isSome) = V.bl false by rw [hy]; rfl) ?_)
      walk_at "gc"
      exact ⟨⟨_, rfl, rfl⟩⟩
    obtain ⟨⟨v, rfl, rfl⟩⟩ := hp
    walk_at "gc"
    exact k
theorem ok_law_k11 (T : Tx K mg) : FnOk P w K mg base CX0 3 T.f_law_k11 T.fd_law_k11 ["_law_script"] (sp_law K) := by
  refine T.F_law_k11.ok sc_law_k11 (fun vs H Q E h => ?_) (fun cdv A outer s H vs Q E hr h => ?_)
  · first | (obtain ⟨rfl, _⟩ := h; rfl) | (obtain ⟨_, rfl, _⟩ := h; rfl) | (obtain ⟨_, _, rfl, _⟩ := h; rfl) | (obtain ⟨_, _, _, rfl, _⟩ := h; rfl) | (obtain ⟨_, _, _, _, rfl, _⟩ := h; rfl) | (obtain ⟨_, _, _, _, _, rfl, _⟩ := h; rfl) | (obtain ⟨_, _, _, _, _, _, rfl, _⟩ := h; rfl) | (obtain ⟨_, _, _, _, _, _, _, rfl, _⟩ := h; rfl) | (obtain ⟨_, _, _, _, _, _, _, _, rfl, _⟩ := h; rfl)
  · obtain ⟨a, ns, rfl, hs, hl, k⟩ := h
    refine ⟨_, (pss_cut (ps_set (i := 1) sc_law_k11.nd rfl (Or.inl rfl) (pe_op op_mod (pe_call (ok_l_cell_at T) (hr.mono (by decide)) rfl T.m_l_cell_at T.F_l_cell_at.kp T.b_l_cell_at .nil pass0 (pa_cons (pv 0) (pa_cons pe_int pa_nil))) pe_int)) (pss_cut (ps_if (pt_cmpR op_eq (pe_op op_mod (pe_op op_fdiv (pe_call (ok_l_cell_at T) (hr.mono (by decide)) rfl T.m_l_cell_at T.F_l_cell_at.kp T.b_l_cell_at .nil pass0 (pa_cons (pv 0) (pa_cons pe_int pa_nil))) pe_int) pe_int) pe_int (nomark _)) (pss_one (ps_set (i := 1) sc_law_k11.nd rfl (Or.inl rfl) (pe_op op_add pe_int (pe_op op_mod (pe_op op_fdiv (pe_call (ok_l_cell_at T) (hr.mono (by decide)) rfl T.m_l_cell_at T.F_l_cell_at.kp T.b_l_cell_at .nil pass0 (pa_cons (pv 0) (pa_cons pe_int pa_nil))) pe_int) pe_int)))) pss_nil) (pss_cut (ps_set (i := 2) sc_law_k11.nd rfl (Or.inl rfl) (pe_call (ok_l_names T) (hr.mono (by decide)) rfl T.m_l_names T.F_l_names.kp T.b_l_names .nil pass0 (pa_cons (pv 0) (pa_cons (pv 1) pa_nil)))) (pss_cut (ps_set (i := 3) sc_law_k11.nd rfl (Or.inl rfl) (pe_callTy call_list_of (by rfl) T.n_list PyProof.Rows.boot_list (pa_cons (pv 2) pa_nil))) (pss_cut (ps_set (i := 4) sc_law_k11.nd rfl (Or.inl rfl) (pe_call (ok_calls T) (hr.mono (by decide)) rfl T.m_calls T.F_calls.kp T.b_calls .nil pass0 (pa_cons (pv 3) pa_nil))) (pss_cut (ps_set (i := 5) sc_law_k11.nd rfl (Or.inl rfl) (pe_op op_sub (pe_op op_mul pe_int (pv 1)) pe_int)) (pss_cut (ps_if (pt_cmpR op_lt (pv 1) pe_int (nomark _)) (pss_one (ps_set (i := 5) sc_law_k11.nd rfl (Or.inl rfl) (pe_ix ix_list (pe_lst (pa_cons pe_int (pa_cons pe_int (pa_cons pe_int (pa_cons pe_int pa_nil))))) (pv 1) (fun _ _ => rfl)))) pss_nil) (pss_cut (ps_if (PW.pt (pw_or (pt_not (pt_val (pe_callB call_isi (by rfl) T.n_isinstance PyProof.Rows.boot_isinstance (pa_cons (pv 4) (pa_cons (pe_bltn (v := .ty "list") (by rfl) T.n_list PyProof.Rows.boot_list rfl) pa_nil))))) (pw_or (pt_cmpR op_ne (pe_callB call_len_seq (by rfl) T.n_len PySem.boot_len (pa_cons (pv 4) pa_nil)) (pv 5) (nomark _)) (pw_or1 (pt_cmpR (op_neD hr.units) (pv 3) (pv 2) (nomark _)))))) (pss_one (ps_ret pe_bl)) pss_nil) (pss_cut (ps_set (i := 6) sc_law_k11.nd rfl (Or.inl rfl) pe_dnewK) (pss_cut (ps_for PassesOwn.never rfl (pi_list (pv 2)) (pg_name (i := 7) sc_law_k11.nd rfl (Or.inl rfl)) (pss_one (ps_dput (hu_of hr) (pv 6) (pv 7) (pe_disp (pps_cons (pv 7) pe_bl pps_nil) (by rfl) (by rfl) (fun z => by cases z) (by decide)) rfl))) (pss_cut (ps_for PassesOwn.never rfl (pi_list (pv 4)) (pg_name (i := 8) sc_law_k11.nd rfl (Or.inl rfl)) (pss_cut (ps_if (pt_not (pt_val (pe_call (ok_l_pair T) (hr.mono (by decide)) rfl T.m_l_pair T.F_l_pair.kp T.b_l_pair .nil pass0 (pa_cons (pv 8) (pa_cons (pv 6) pa_nil))))) (pss_one (ps_ret pe_bl)) pss_nil) (pss_cut (ps_set (i := 9) sc_law_k11.nd rfl (Or.inl rfl) (pe_callTy call_dictD (by rfl) T.n_dict PyProof.Rows.boot_dict (pa_cons (pe_dget (hu_of hr) (pv 6) (pe_ix ix_tup (pv 8) pe_int (fun _ _ => rfl)) (fun _ _ => rfl)) pa_nil))) (pss_cut (ps_lock (ps_for PassesOwn.never rfl (pi_keys (pe_dget (hu_of hr) (pv 6) (pe_ix ix_tup (pv 8) pe_int (fun _ _ => rfl)) (fun _ _ => rfl))) (pg_name (i := 7) sc_law_k11.nd rfl (Or.inl rfl)) (pss_one (ps_dput (hu_of hr) (pv 9) (pv 7) pe_bl rfl)))) (pss_cut (ps_dput (hu_of hr) (pv 6) (pe_ix ix_tup (pv 8) pe_int (fun _ _ => rfl)) (pv 9) rfl) (pss_one (ps_dput (hu_of hr) (pv 6) (pe_ix ix_tup (pv 8) pe_int (fun _ _ => rfl)) (pe_callTy call_dictD (by rfl) T.n_dict PyProof.Rows.boot_dict (pa_cons (pv 9) pa_nil)) rfl))))))) (pss_cut (ps_for PassesOwn.never rfl (pi_list (pv 2)) (pg_name (i := 7) sc_law_k11.nd rfl (Or.inl rfl)) (pss_one (ps_if (pt_cmpR op_ne (pe_callB call_lenDR (by rfl) T.n_len PySem.boot_len (pa_cons (pe_dget (hu_of hr) (pv 6) (pv 7) (fun _ _ => rfl)) pa_nil)) (pv 1) (nomark _)) (pss_one (ps_ret pe_bl)) pss_nil))) (pss_one (ps_ret pe_bl)))))))))))))), ?_⟩
    have m9 := mod_in (a := cellI ns 0) (b := 9) (by decide)
    have m62 := mod_in (a := cellI ns 0 / 36) (b := 62) (by decide)
    refine Gc.op_go fun N9 R9 B9 E9 hN9 hR9 => ?_
    walk_at "gc"
    refine hN9 _ _ ?_
    clear hN9 hR9
    refine Gc.cut_go (fun σ' H' => Hold (∃ n : Nat, σ' = [some (.ref a), some (.int n), none, none, none, none, none, none, none, none] ∧ H' = H ∧ n ≤ 70)) (fun R9 B9 E9 => ?_) (fun σ' H' hm => ?_)
    · walk_at "gc"
      refine Gc.eqI_2 (fun c1 => ?_) (fun c1 => ?_)
      · walk_at "gc"
        refine ⟨⟨(9 + cellI ns 0 / 36 % 62).toNat, ?_, rfl, by omega⟩⟩
        rw [Int.toNat_of_nonneg (by omega)]
        rfl
      · refine ⟨⟨(cellI ns 0 % 9).toNat, ?_, rfl, by omega⟩⟩
        rw [Int.toNat_of_nonneg (by omega)]
        rfl
    obtain ⟨⟨n, rfl, rfl, hn⟩⟩ := hm
    refine Gc.op_go fun N9 R9 B9 E9 hN9 hR9 => ?_
    walk_at "gc"
    rename_i L zs H1 hL0 e1 hL hz hzl
    refine hN9 _ _ ?_
    clear hN9 hR9
    have hzn : zs.length = n := by omega
    have hnd := hz.nd (by omega)
    refine Gc.op_go fun N9 R9 B9 E9 hN9 hR9 => ?_
    walk_at "gc"
    rename_i M hM H2 e2 f2
    refine hN9 _ _ ?_
    clear hN9 hR9
    refine Gc.op_go fun N9 R9 B9 E9 hN9 hR9 => ?_
    walk_at "gc"
    rename_i R rows H3 hR0 e3 f3 hrows
    refine hN9 _ _ ?_
    clear hN9 hR9
    have hL3 := e3 _ _ (e2 _ _ hL)
    have hM3 := e3 _ _ f2
    rw [hzn] at hrows
    refine Gc.op_go fun N9 R9 B9 E9 hN9 hR9 => ?_
    walk_at "gc"
    refine hN9 _ _ ?_
    clear hN9 hR9
    refine Gc.cut_go (fun σ' H' => Hold (σ' = [some (.ref a), some (.int n), some (.ref L), some (.ref M), some (.ref R), some (.int (pairsP n).length), none, none, none, none] ∧ Ex H3 H')) (fun R9 B9 E9 => ?_) (fun σ' H4 hm => ?_)
    · have hpl := pairs_len n (by omega)
      walk_at "gc"
      refine Gc.lt_2 (fun c1 => ?_) (fun c1 => ?_)
      · have h4 : n = 0 ∨ n = 1 ∨ n = 2 ∨ n = 3 := by omega
        have hat : atI [V.int 0, .int 0, .int 1, .int 3] (n : Int) = some (.int (pairsP n).length) := by
          rcases h4 with rfl | rfl | rfl | rfl
          · exact atI_nat (j := 0) rfl
          · exact atI_nat (j := 1) rfl
          · exact atI_nat (j := 2) rfl
          · exact atI_nat (j := 3) rfl
        walk_at "gc"
        exact ⟨⟨rfl, by walk_at "gc_ex"⟩⟩
      · have h4 : ((pairsP n).length : Int) = 2 * (n : Int) - 4 := by rw [hpl, if_neg (by omega)]; omega
        rw [h4]
        exact ⟨⟨rfl, Ex.refl _⟩⟩
    obtain ⟨⟨rfl, e4⟩⟩ := hm
    have hL4 := e4 _ _ hL3
    have hM4 := e4 _ _ hM3
    have hR4 := e4 _ _ f3
    have hrows4 := hrows.tp (Et.of e4).tp
    clear hrows hL3 hM3 f3 f2 hL e1 e2 e3 e4 hL0 hM hR0
    refine Gc.op_go fun N9 R9 B9 E9 hN9 hR9 => ?_
    walk_at "gc"
    refine Gc.neI_f (by rw [hrows4.1]) ?_
    walk_at "gc"
    refine Gc.neS_go hz.nm (by walk_at "gc_at") (by walk_at "gc_at") ?_
    walk_at "gc"
    refine hN9 _ _ ?_
    clear hN9 hR9
    refine Gc.op_go fun N9 R9 B9 E9 hN9 hR9 => ?_
    walk_at "gc"
    rename_i kn hkn H5 e5 f5
    refine hN9 _ _ ?_
    clear hN9 hR9
    have hkL : kn ≠ L := fun q => by rw [q, hL4] at hkn; cases hkn
    have hkR : kn ≠ R := fun q => by rw [q, hR4] at hkn; cases hkn
    have hL5 := e5 _ _ hL4
    have hR5 := e5 _ _ hR4
    have hrows5 := hrows4.tp (Et.of e5).tp
    clear hL4 hM4 hR4 hrows4 e5
    have vL := Evl.sq_of (K := K) hL5
    refine Gc.op_go fun N9 R9 B9 E9 hN9 hR9 => ?_
    walk_at "gc"
    refine Gc.for_go (walk_list (K := K) (xs := zs.map V.str)) (fun i σ' H9 => Hold (∃ v kvs, σ' = [some (.ref a), some (.int n), some (.ref L), some (.ref M), some (.ref R), some (.int (pairsP n).length), some (.ref kn), v, none, none] ∧ DK11 H9 kn kvs (zs.take i) zs (startM n) ∧ H9 L = some (.lst (zs.map V.str)) ∧ H9 R = some (.lst rows) ∧ Prs K H9 rows (pairsP n) zs)) ⟨⟨_, [], rfl, ⟨f5, rfl, fun j z q => (by simp at q)⟩, hL5, hR5, hrows5⟩⟩ (fun _ _ _ _ hp => by obtain ⟨⟨_, _, _, _, e, _⟩⟩ := hp; exact Evl.sq_of e) (fun R9 B9 i x σ' H7 H8 hi hp' hy => ?_) (fun σ' H7 hp' => ?_)
    · obtain ⟨⟨v, kvs, rfl, hD, hLi, hRi, hPi⟩⟩ := hp'
      obtain ⟨rfl, hxi⟩ := hy
      obtain ⟨z, hzi, rfl⟩ : ∃ z, zs[i]? = some z ∧ x = .str z := by
        rw [List.getElem?_map] at hxi
        cases q : zs[i]? with
        | none => rw [q] at hxi; cases hxi
        | some z => rw [q] at hxi; cases hxi; exact ⟨z, rfl, rfl⟩
      have hin : i < zs.length := (List.getElem?_eq_some_iff.mp hzi).1
      have hkk := hD.at_
      walk_at "gc"
      rename_i p0 hp0 H9 e9 f9
      refine ⟨[(.inr z, .bl true)], rfl, by show 1 ≤ 15; decide, ?_⟩
      have f10 : upd H9 p0 (.dK (mergeK [] [((.inr z : Key), V.bl true)])) p0 = some (.dK [(.inr z, .bl true)]) := upd_same
      have e10 : Ex H8 (upd H9 p0 (.dK (mergeK [] [((.inr z : Key), V.bl true)]))) := Ex.mut e9 hp0
      generalize upd H9 p0 (.dK (mergeK [] [((.inr z : Key), V.bl true)])) = H10 at *
      have hpk : p0 ≠ kn := fun q => by rw [q, hkk] at hp0; cases hp0
      have hkk10 := e10 _ _ hkk
      have hkl : kvs.length < sizeLine := Evl.sz_lt (by have := congrArg List.length hD.keys; rw [List.length_map, List.length_map, List.length_take] at this; omega)
      walk_at "gc"
      refine ⟨DPut.k (k := .inr z) hkk10 hkl, ?_⟩
      have q := (hD.ex e10).snoc (not_take hnd hzi) f10 hpk (by
        rw [show (zs.take i).length = i by rw [List.length_take]; omega, startM_at (by omega)]
        exact Msk.one hzi)
      rw [← take_snoc hzi] at q
      exact ⟨⟨_, _, rfl, q, (upd_ne (Ne.symm hkL)).trans (e10 _ _ hLi), (upd_ne (Ne.symm hkR)).trans (e10 _ _ hRi), hPi.tp (fun a xs h => (Et.dK hkk10).tp _ _ ((Et.of e10).tp _ _ h))⟩⟩
    obtain ⟨⟨v, kvs, rfl, hD, hLi, hRi, hPi⟩⟩ := hp'
    rw [List.length_map, List.take_length] at hD
    refine hN9 _ _ ?_
    clear hN9 hR9
    clear hL5 hR5 hrows5 vL f5
    have vR := Evl.sq_of (K := K) hRi
    refine Gc.op_go fun N9 R9 B9 E9 hN9 hR9 => ?_
    walk_at "gc"
    refine Gc.for_go (walk_list (K := K) (xs := rows)) (fun i σ' H9 => Hold (∃ v7 v8 v9 kvs, σ' = [some (.ref a), some (.int n), some (.ref L), some (.ref M), some (.ref R), some (.int (pairsP n).length), some (.ref kn), v7, v8, v9] ∧ DK11 H9 kn kvs zs zs (((pairsP n).take i).foldl stepM (startM n)) ∧ H9 L = some (.lst (zs.map V.str)) ∧ H9 R = some (.lst rows) ∧ Prs K H9 rows (pairsP n) zs)) ⟨⟨_, _, _, kvs, rfl, hD, hLi, hRi, hPi⟩⟩ (fun _ _ _ _ hp => by obtain ⟨⟨_, _, _, _, _, _, _, e, _⟩⟩ := hp; exact Evl.sq_of e) (fun R9 B9 i x σ' H7 H8 hi hp' hy => ?_) (fun σ' H7 hp' => ?_)
    · clear hD hLi hRi hPi vR
      obtain ⟨⟨v7, v8, v9, kvs, rfl, hD, hLi, hRi, hPi⟩⟩ := hp'
      obtain ⟨rfl, hxi⟩ := hy
      have hip : i < (pairsP n).length := by rw [← hPi.1]; exact hi
      obtain ⟨pq, hpq⟩ : ∃ pq, (pairsP n)[i]? = some pq := ⟨_, List.getElem?_eq_getElem hip⟩
      obtain ⟨pa, pb⟩ := pq
      obtain ⟨t, z, w, rfl, ht, hza, hwb⟩ := hPi.2 i x _ hxi hpq
      obtain ⟨ra, rb, rab⟩ := pairs_in n (by omega) _ (List.mem_of_getElem? hpq)
      generalize hms : ((pairsP n).take i).foldl stepM (startM n) = ms at hD
      have hml : ms.length = n := by rw [← hms]; exact runM_len _ (by unfold startM; rw [List.length_map, List.length_range])
      obtain ⟨da, ka, va, hda, hdak, hma⟩ := hD.val pa z hza
      obtain ⟨db, kb, vb, hdb, hdbk, hmb⟩ := hD.val pb w hwb
      have hkk := hD.at_
      have sz : (valV kvs (.inr z)).isSome = true := by rw [va]; rfl
      have sw : (valV kvs (.inr w)).isSome = true := by rw [vb]; rfl
      walk_at "gc"
      refine Gc.op_go fun N9 R9 B9 E9 hN9 hR9 => ?_
      walk_at "gc"
      refine hN9 _ _ ?_
      clear hN9 hR9
      have hlen : ∀ ks m, Msk zs ks m → ks.length ≤ 70 := fun ks m h => by
        have := nd_len h.1 (m := zs.map (Sum.inr (α := Int))) (fun k hk => by obtain ⟨l, z', q1, q2, _⟩ := (h.2 k).mp hk; rw [q2]; exact List.mem_map.mpr ⟨z', List.mem_of_getElem? q1, rfl⟩)
        rw [List.length_map, List.length_map] at this
        omega
      have hal := hlen _ _ hma
      have hbl := hlen _ _ hmb
      refine Gc.op_go fun N9 R9 B9 E9 hN9 hR9 => ?_
      walk_at "gc"
      refine And.intro (Gc.dget_k (k := .inr z) (.inl hkk) va) ?_
      walk_at "gc"
      rename_i B hB H9 e9 f9
      refine hN9 _ _ ?_
      clear hN9 hR9
      have hkk9 := e9 _ _ hkk
      have hdb9 := e9 _ _ hdb
      have hBk : B ≠ kn := fun q => by rw [q, hkk] at hB; cases hB
      have hBd : B ≠ db := fun q => by rw [q, hdb] at hB; cases hB
      refine Gc.op_go fun N9 R9 B9 E9 hN9 hR9 => ?_
      refine Gc.lock_go hdb9 (fun od H10 h10 er ul oth => ?_)
      walk_at "gc"
      refine And.intro (Gc.dget_k (k := .inr w) (er.rd (.inl hkk9)) vb) ?_
      walk_at "gc"
      refine Or.inl ⟨kb, h10, ?_⟩
      refine Gc.for_go walk_keys (fun j σ' H' => Hold (∃ v7 bs, σ' = [some (.ref a), some (.int n), some (.ref L), some (.ref M), some (.ref R), some (.int (pairsP n).length), some (.ref kn), v7, some (.ref t), some (.ref B)] ∧ H' B = some (.dK bs) ∧ (bs.map (·.1)).Nodup ∧ (∀ k, k ∈ bs.map (·.1) ↔ k ∈ ka.map (·.1) ∨ k ∈ (kb.take j).map (·.1)) ∧ Hold (bs.length ≤ ka.length + j) ∧ Exs (fun b => b = B) H10 H')) ⟨⟨_, ka, rfl, (oth B hBd).trans f9, hma.1, fun k => by simp, ⟨Nat.le_refl _⟩, Exs.refl _ _⟩⟩ (fun _ _ _ _ hp => by obtain ⟨⟨_, _, _, _, _, _, _, e⟩⟩ := hp; exact e _ _ (fun q => hBd q.symm) h10) (fun R9 B9 j x σ' H5 H6 hj hp' hy => ?_) (fun σ' H11 hp' => ?_)
      · obtain ⟨⟨v7', bs, rfl, hBB, hbn, hbm, hbl', hxs⟩⟩ := hp'
        obtain ⟨rfl, key, y, hky, rfl⟩ := hy
        walk_at "gc"
        refine ⟨DPut.k (k := key) hBB (Evl.sz_lt (by have := hbl'.it; omega)), ?_⟩
        refine ⟨⟨_, _, rfl, upd_same, nd_put _ hbn, fun k => ?_, ⟨by have := length_putK bs key (.bl true); have := hbl'.it; omega⟩, hxs.mut (.inl rfl)⟩⟩
        rw [key_put, hbm k, take_snoc hky, List.map_append, List.mem_append, or_assoc]
        simp
      obtain ⟨⟨v7', bs, rfl, hBB, hbn, hbm, hbl', hxs⟩⟩ := hp'
      rw [List.take_length] at hbm
      have hdl : H11 db = some (.frz od (.dK kb)) := hxs _ _ (fun q => hBd q.symm) h10
      refine ⟨hdl, ?_⟩
      refine hN9 _ _ ?_
      clear hN9 hR9
      have e12 : Ex H8 (upd H11 db (.dK kb)) := fun b o q => by
        by_cases c : b = db
        · subst c
          rw [hdb] at q
          cases q
          exact upd_same
        · rw [upd_ne c]
          exact hxs b o (fun z => by rw [z, hB] at q; cases q) ((oth b c).trans (e9 _ _ q))
      have hB12 : upd H11 db (.dK kb) B = some (.dK bs) := (upd_ne hBd).trans hBB
      have hM12 : Msk zs bs (ms.getD pa 0 ||| ms.getD pb 0) := Msk.or hma hmb hbn hbm
      have hD12 := hD.ex e12
      have hL12 := e12 _ _ hLi
      have hR12 := e12 _ _ hRi
      have hP12 := hPi.tp (Et.of e12).tp
      have ht12 := (Et.of (K := K) e12).tp _ _ ht
      have hbl2 : bs.length ≤ 70 := hlen _ _ hM12
      clear hBB hbn hbm hbl' hxs hdl er ul oth h10 e9 f9 hkk9 hdb9 hD hLi hRi hPi ht e12 hkk hda hdb va vb hma hmb
      generalize upd H11 db (.dK kb) = H12 at *
      have hkl : kvs.length < sizeLine := Evl.sz_lt (by have := congrArg List.length hD12.keys; rw [List.length_map, List.length_map] at this; omega)
      have hkk12 := hD12.at_
      refine Gc.op_go fun N9 R9 B9 E9 hN9 hR9 => ?_
      walk_at "gc"
      refine ⟨DPut.k (k := .inr z) hkk12 hkl, ?_⟩
      refine hN9 _ _ ?_
      clear hN9 hR9
      have q1 := hD12.put hnd hza (by omega) hB12 hBk hM12
      have hB13 : upd H12 kn (.dK (putK kvs (.inr z) (.ref B))) B = some (.dK bs) := (upd_ne hBk).trans hB12
      have hL13 : upd H12 kn (.dK (putK kvs (.inr z) (.ref B))) L = some (.lst (zs.map V.str)) := (upd_ne (Ne.symm hkL)).trans hL12
      have hR13 : upd H12 kn (.dK (putK kvs (.inr z) (.ref B))) R = some (.lst rows) := (upd_ne (Ne.symm hkR)).trans hR12
      have hP13 : Prs K (upd H12 kn (.dK (putK kvs (.inr z) (.ref B)))) rows (pairsP n) zs := hP12.tp (Et.dK hkk12).tp
      have ht13 : SqT K (upd H12 kn (.dK (putK kvs (.inr z) (.ref B)))) t [.str z, .str w] := (Et.dK hkk12).tp _ _ ht12
      clear hB12 hL12 hR12 hP12 ht12 hD12 hkk12 hkl
      generalize upd H12 kn (.dK (putK kvs (.inr z) (.ref B))) = H13 at *
      have hkk13 := q1.at_
      walk_at "gc"
      rename_i B2 hB2 H14 e14 f14
      have hkl2 : (putK kvs (.inr z) (.ref B)).length < sizeLine := Evl.sz_lt (by have := congrArg List.length q1.keys; rw [List.length_map, List.length_map] at this; omega)
      have hkk14 := e14 _ _ hkk13
      have hB2k : B2 ≠ kn := fun q => by rw [q, hkk13] at hB2; cases hB2
      refine ⟨DPut.k (k := .inr w) hkk14 hkl2, ?_⟩
      have q2 := (q1.ex e14).put hnd hwb (m := ms.getD pa 0 ||| ms.getD pb 0) (by rw [List.length_set]; omega) f14 hB2k hM12
      have hst : ((pairsP n).take (i + 1)).foldl stepM (startM n) = (ms.set pa (ms.getD pa 0 ||| ms.getD pb 0)).set pb (ms.getD pa 0 ||| ms.getD pb 0) := by
        rw [take_snoc hpq, List.foldl_append, hms]
        rfl
      rw [← hst] at q2
      exact ⟨⟨_, _, _, _, rfl, q2, (upd_ne (Ne.symm hkL)).trans (e14 _ _ hL13), (upd_ne (Ne.symm hkR)).trans (e14 _ _ hR13), (hP13.tp (Et.of e14).tp).tp (Et.dK hkk14).tp⟩⟩
    clear hD hLi hRi hPi vR
    obtain ⟨⟨v7, v8, v9, kvs, rfl, hD, hLi, hRi, hPi⟩⟩ := hp'
    rw [hPi.1, List.take_length, runM n (by omega)] at hD
    refine hN9 _ _ ?_
    clear hN9 hR9
    have vL := Evl.sq_of (K := K) hLi
    have hkk := hD.at_
    refine Gc.op_go fun N9 R9 B9 E9 hN9 hR9 => ?_
    walk_at "gc"
    refine Gc.for_go (walk_list (K := K) (xs := zs.map V.str)) (fun i σ' H9 => Hold (∃ v7, σ' = [some (.ref a), some (.int n), some (.ref L), some (.ref M), some (.ref R), some (.int (pairsP n).length), some (.ref kn), v7, v8, v9] ∧ H9 = H7)) ⟨⟨_, rfl, rfl⟩⟩ (fun _ _ _ _ hp => by obtain ⟨⟨_, _, rfl⟩⟩ := hp; exact vL) (fun R9 B9 i x σ' H8 H9 hi hp' hy => ?_) (fun σ' H8 hp' => ?_)
    · obtain ⟨⟨v7', rfl, rfl⟩⟩ := hp'
      obtain ⟨rfl, hxi⟩ := hy
      obtain ⟨z, hzi, rfl⟩ : ∃ z, zs[i]? = some z ∧ x = .str z := by
        rw [List.getElem?_map] at hxi
        cases q : zs[i]? with
        | none => rw [q] at hxi; cases hxi
        | some z => rw [q] at hxi; cases hxi; exact ⟨z, rfl, rfl⟩
      have hin : i < n := by have := (List.getElem?_eq_some_iff.mp hzi).1; omega
      obtain ⟨da, ka, va, hda, hdak, hma⟩ := hD.val i z hzi
      have hfull : ka.length = n := by
        rw [List.getD_eq_getElem?_getD, List.getElem?_replicate, if_pos hin, ← hzn] at hma
        rw [← hzn]
        exact Msk.full hnd hma
      walk_at "gc"
      refine And.intro (Gc.dget_k (k := .inr z) (.inl hkk) va) ?_
      walk_at "gc"
      refine Gc.neI_f (by rw [hfull]) ?_
      exact ⟨⟨_, rfl, rfl⟩⟩
    obtain ⟨⟨v7', rfl, rfl⟩⟩ := hp'
    refine hN9 _ _ ?_
    clear hN9 hR9
    refine Gc.end_go fun N9 R9 B9 E9 hN9 hR9 => ?_
    walk_at "gc"
    exact hR9 _ _ (k _)
end
section
theorem all_mk {l : PySem.W.OpenLaw} {w : World} {K : PySem.W.Frag} {h : Heap} {mg : Str → Option Value} {fa : Addr} (X : K.In h) (G : h.Ns mainGlobals mg) (hfa : mg "law" = some (.ref fa))
    {f_l_name_by f_l_cell_at f_l_names f_calls f_l_pair f_law_k11 : Addr}
    {od_l_name_by an_l_name_by od_l_cell_at an_l_cell_at od_l_names an_l_names od_calls an_calls od_l_pair an_l_pair od_law_k11 an_law_k11 : Option Addr} {sl_l_name_by sl_l_cell_at sl_l_names sl_calls sl_l_pair sl_law_k11 : Array (Option Value)} {oc_l_name_by kV_l_name_by dc_l_name_by pm_l_name_by cd_l_name_by ct_l_name_by oc_l_cell_at kV_l_cell_at dc_l_cell_at pm_l_cell_at cd_l_cell_at ct_l_cell_at oc_l_names kV_l_names dc_l_names pm_l_names cd_l_names ct_l_names oc_calls kV_calls dc_calls pm_calls cd_calls ct_calls oc_l_pair kV_l_pair dc_l_pair pm_l_pair cd_l_pair ct_l_pair oc_law_k11 kV_law_k11 dc_law_k11 pm_law_k11 cd_law_k11 ct_law_k11 : Value}
    (a_l_name_by : PySem.W.nsIn K mainGlobals "_law_name_by" = some (some (.ref f_l_name_by)))
    (l_l_name_by : K.lookup f_l_name_by = some ⟨oc_l_name_by, od_l_name_by, .func (PySem.W.fnOf "_law_name_by" "_law_name_by" (defArgs s_l_name_by) (defBody s_l_name_by) (defScope s_l_name_by) .none kV_l_name_by dc_l_name_by pm_l_name_by an_l_name_by cd_l_name_by ct_l_name_by), sl_l_name_by⟩)
    (cI_l_name_by : PySem.W.codeIn K cd_l_name_by "_law_name_by" = true)
    (kk_l_name_by : PySem.W.keepIn K (.ref f_l_name_by) = true)
    (a_l_cell_at : PySem.W.nsIn K mainGlobals "_law_cell_at" = some (some (.ref f_l_cell_at)))
    (l_l_cell_at : K.lookup f_l_cell_at = some ⟨oc_l_cell_at, od_l_cell_at, .func (PySem.W.fnOf "_law_cell_at" "_law_cell_at" (defArgs s_l_cell_at) (defBody s_l_cell_at) (defScope s_l_cell_at) .none kV_l_cell_at dc_l_cell_at pm_l_cell_at an_l_cell_at cd_l_cell_at ct_l_cell_at), sl_l_cell_at⟩)
    (cI_l_cell_at : PySem.W.codeIn K cd_l_cell_at "_law_cell_at" = true)
    (kk_l_cell_at : PySem.W.keepIn K (.ref f_l_cell_at) = true)
    (a_l_names : PySem.W.nsIn K mainGlobals "_law_names" = some (some (.ref f_l_names)))
    (l_l_names : K.lookup f_l_names = some ⟨oc_l_names, od_l_names, .func (PySem.W.fnOf "_law_names" "_law_names" (defArgs s_l_names) (defBody s_l_names) (defScope s_l_names) .none kV_l_names dc_l_names pm_l_names an_l_names cd_l_names ct_l_names), sl_l_names⟩)
    (cI_l_names : PySem.W.codeIn K cd_l_names "_law_names" = true)
    (kk_l_names : PySem.W.keepIn K (.ref f_l_names) = true)
    (a_calls : PySem.W.nsIn K mainGlobals "calls" = some (some (.ref f_calls)))
    (l_calls : K.lookup f_calls = some ⟨oc_calls, od_calls, .func (PySem.W.fnOf "calls" "calls" (defArgs s_calls) (defBody s_calls) (defScope s_calls) .none kV_calls dc_calls pm_calls an_calls cd_calls ct_calls), sl_calls⟩)
    (cI_calls : PySem.W.codeIn K cd_calls "calls" = true)
    (kk_calls : PySem.W.keepIn K (.ref f_calls) = true)
    (a_l_pair : PySem.W.nsIn K mainGlobals "_law_pair" = some (some (.ref f_l_pair)))
    (l_l_pair : K.lookup f_l_pair = some ⟨oc_l_pair, od_l_pair, .func (PySem.W.fnOf "_law_pair" "_law_pair" (defArgs s_l_pair) (defBody s_l_pair) (defScope s_l_pair) .none kV_l_pair dc_l_pair pm_l_pair an_l_pair cd_l_pair ct_l_pair), sl_l_pair⟩)
    (cI_l_pair : PySem.W.codeIn K cd_l_pair "_law_pair" = true)
    (kk_l_pair : PySem.W.keepIn K (.ref f_l_pair) = true)
    (a_law_k11 : PySem.W.nsIn K mainGlobals "law" = some (some (.ref f_law_k11)))
    (l_law_k11 : K.lookup f_law_k11 = some ⟨oc_law_k11, od_law_k11, .func (PySem.W.fnOf "law" "law" (defArgs s_law_k11) (defBody s_law_k11) (defScope s_law_k11) .none kV_law_k11 dc_law_k11 pm_law_k11 an_law_k11 cd_law_k11 ct_law_k11), sl_law_k11⟩)
    (cI_law_k11 : PySem.W.codeIn K cd_law_k11 "law" = true)
    (kk_law_k11 : PySem.W.keepIn K (.ref f_law_k11) = true)
    (z_dict : PySem.W.nsIn K mainGlobals "dict" = some none)
    (z_isinstance : PySem.W.nsIn K mainGlobals "isinstance" = some none)
    (z_len : PySem.W.nsIn K mainGlobals "len" = some none)
    (z_list : PySem.W.nsIn K mainGlobals "list" = some none)
    (z_range : PySem.W.nsIn K mainGlobals "range" = some none)
    (z_str : PySem.W.nsIn K mainGlobals "str" = some none)
    (z_tuple : PySem.W.nsIn K mainGlobals "tuple" = some none)
    : ∃ fd : FuncData, (∀ (s : Shared) (v : Value), BindsTo s fd ⟨[v], []⟩ [("_law_script", v)]) ∧ ∀ base : Heap, K.In base → base.Ns mainGlobals mg → FnOk l.prog w K mg base CX0 3 fa fd ["_law_script"] (sp_law K) := by
  have e := hfa.symm.trans (PySem.W.mg_of X G a_law_k11)
  cases e
  have F_l_name_by := fun_mk (st := s_l_name_by) l_l_name_by cI_l_name_by kk_l_name_by
  have b_l_name_by := F_l_name_by.binds (ps := ["_law_cell"]) fun _ _ _ _ _ _ us hl => match us, hl with | [_], _ => rfl
  have F_l_cell_at := fun_mk (st := s_l_cell_at) l_l_cell_at cI_l_cell_at kk_l_cell_at
  have b_l_cell_at := F_l_cell_at.binds (ps := ["_law_script", "_law_k"]) fun _ _ _ _ _ _ us hl => match us, hl with | [_, _], _ => rfl
  have F_l_names := fun_mk (st := s_l_names) l_l_names cI_l_names kk_l_names
  have b_l_names := F_l_names.binds (ps := ["_law_script", "_law_size"]) fun _ _ _ _ _ _ us hl => match us, hl with | [_, _], _ => rfl
  have F_calls := fun_mk (st := s_calls) l_calls cI_calls kk_calls
  have b_calls := F_calls.binds (ps := ["names"]) fun _ _ _ _ _ _ us hl => match us, hl with | [_], _ => rfl
  have F_l_pair := fun_mk (st := s_l_pair) l_l_pair cI_l_pair kk_l_pair
  have b_l_pair := F_l_pair.binds (ps := ["_law_pair_here", "_law_known"]) fun _ _ _ _ _ _ us hl => match us, hl with | [_, _], _ => rfl
  have F_law_k11 := fun_mk (st := s_law_k11) l_law_k11 cI_law_k11 kk_law_k11
  have b_law_k11 := F_law_k11.binds (ps := ["_law_script"]) fun _ _ _ _ _ _ us hl => match us, hl with | [_], _ => rfl
  let T : Tx K mg := { f_l_name_by := f_l_name_by, fd_l_name_by := _, F_l_name_by := F_l_name_by, b_l_name_by := b_l_name_by, m_l_name_by := PySem.W.mg_of X G a_l_name_by, f_l_cell_at := f_l_cell_at, fd_l_cell_at := _, F_l_cell_at := F_l_cell_at, b_l_cell_at := b_l_cell_at, m_l_cell_at := PySem.W.mg_of X G a_l_cell_at, f_l_names := f_l_names, fd_l_names := _, F_l_names := F_l_names, b_l_names := b_l_names, m_l_names := PySem.W.mg_of X G a_l_names, f_calls := f_calls, fd_calls := _, F_calls := F_calls, b_calls := b_calls, m_calls := PySem.W.mg_of X G a_calls, f_l_pair := f_l_pair, fd_l_pair := _, F_l_pair := F_l_pair, b_l_pair := b_l_pair, m_l_pair := PySem.W.mg_of X G a_l_pair, f_law_k11 := fa, fd_law_k11 := _, F_law_k11 := F_law_k11, b_law_k11 := b_law_k11, m_law_k11 := PySem.W.mg_of X G a_law_k11, n_dict := PySem.W.mg_none_of X G z_dict, n_isinstance := PySem.W.mg_none_of X G z_isinstance, n_len := PySem.W.mg_none_of X G z_len, n_list := PySem.W.mg_none_of X G z_list, n_range := PySem.W.mg_none_of X G z_range, n_str := PySem.W.mg_none_of X G z_str, n_tuple := PySem.W.mg_none_of X G z_tuple }
  exact ⟨T.fd_law_k11, fun s v => .of_eq rfl, fun base _ _ => ok_law_k11 T⟩
end
theorem walk {l : PySem.W.OpenLaw} {q : Program} {loose : List Str} {XP : (Str → Option Value) → Heap → Prop} {YP : World → Heap → Prop} {d : DefRec} {K : Params → PySem.W.Frag} (hn : l.most = some 63) (hdf : d.params.defaults = [])
    (hY : ∀ (w : World) (h : Heap), YP w h → (K w.params).In h)
    (F : ∀ (w : World) (mg : Str → Option Value) (fa : Addr) (h : Heap), (K w.params).In h → h.Ns mainGlobals mg → mg d.name = some (.ref fa) →
      ∃ fd : FuncData, (∀ (s : Shared) (u : Value), BindsTo s fd ⟨[u], []⟩ [("_law_script", u)]) ∧ ∀ base : Heap, (K w.params).In base → base.Ns mainGlobals mg → FnOk l.prog w (K w.params) mg base CX0 3 fa fd ["_law_script"] (sp_law (K w.params))) :
    PySem.W.WalkO q loose XP YP l.row.toRowW d [] (fun f vs => PySem.call f vs) :=
  L2.walk_of (n := 63) (k := 3) (x := "_law_script") (CX := fun _ => CX0) (sp := fun w => sp_law (K w.params)) hn (by decide) hdf ⟨rfl, by decide, by decide⟩ hY F (fun _ _ a ns hl _ hS => ⟨a, ns, rfl, hS, hl, fun _ => rfl⟩) fun _ _ _ _ _ z => z
end Gc

open PySem PySem.W PyProof.Rows in
set_option maxRecDepth 100000 in
set_option maxHeartbeats 0 in
theorem PySem.Challenge.cw_gossipcount_k11_whole_calls_holds : PySem.Challenge.rw_gossipcount_k11_whole_calls.Holds := by
  w_on; o_law; k_head; (case hw => w_witness2)
  k_fill
  refine Gc.walk (l := PySem.Challenge.rw_gossipcount_k11_whole_calls) rfl rfl (fun w h Y => PySem.W.kIn_of Y) ?F
  case F =>
    intro w mg fa h KX G hmg
    refine' Gc.all_mk KX G hmg ?a_l_name_by ?l_l_name_by ?cI_l_name_by ?kk_l_name_by ?a_l_cell_at ?l_l_cell_at ?cI_l_cell_at ?kk_l_cell_at ?a_l_names ?l_l_names ?cI_l_names ?kk_l_names ?a_calls ?l_calls ?cI_calls ?kk_calls ?a_l_pair ?l_l_pair ?cI_l_pair ?kk_l_pair ?a_law_k11 ?l_law_k11 ?cI_law_k11 ?kk_law_k11 ?z_dict ?z_isinstance ?z_len ?z_list ?z_range ?z_str ?z_tuple
    (case a_l_name_by => first | k_is | rfl | decide)
    (case l_l_name_by => first | k_is | rfl | decide)
    (case cI_l_name_by => first | k_is | rfl | decide)
    (case kk_l_name_by => first | k_is | rfl | decide)
    (case a_l_cell_at => first | k_is | rfl | decide)
    (case l_l_cell_at => first | k_is | rfl | decide)
    (case cI_l_cell_at => first | k_is | rfl | decide)
    (case kk_l_cell_at => first | k_is | rfl | decide)
    (case a_l_names => first | k_is | rfl | decide)
    (case l_l_names => first | k_is | rfl | decide)
    (case cI_l_names => first | k_is | rfl | decide)
    (case kk_l_names => first | k_is | rfl | decide)
    (case a_calls => first | k_is | rfl | decide)
    (case l_calls => first | k_is | rfl | decide)
    (case cI_calls => first | k_is | rfl | decide)
    (case kk_calls => first | k_is | rfl | decide)
    (case a_l_pair => first | k_is | rfl | decide)
    (case l_l_pair => first | k_is | rfl | decide)
    (case cI_l_pair => first | k_is | rfl | decide)
    (case kk_l_pair => first | k_is | rfl | decide)
    (case a_law_k11 => first | k_is | rfl | decide)
    (case l_law_k11 => first | k_is | rfl | decide)
    (case cI_law_k11 => first | k_is | rfl | decide)
    (case kk_law_k11 => first | k_is | rfl | decide)
    (case z_dict => first | k_is | rfl | decide)
    (case z_isinstance => first | k_is | rfl | decide)
    (case z_len => first | k_is | rfl | decide)
    (case z_list => first | k_is | rfl | decide)
    (case z_range => first | k_is | rfl | decide)
    (case z_str => first | k_is | rfl | decide)
    (case z_tuple => first | k_is | rfl | decide)
#print axioms PySem.Challenge.cw_gossipcount_k11_whole_calls_holds
