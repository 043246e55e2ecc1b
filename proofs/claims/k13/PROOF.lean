import PyProof.Rows.All
import Wide.All
import OpenK.AllK
import Wide.FinOn
import HandS.ForMost
import HandS.Evl
import HandS.IsInst
import HandS.Walk
import HandS.TupLe
import HandS.Codes
import HandS.More
import HandS.SetFor
import PyProof.Rows.SortShellAny
import KE.GoesMore
import HandS.HotCalls
import HandS.ExcCtx
import HandS.ExcIs
import HandS.WordsExc
import HandS.ExcOwn
import HandS.Hot
import HandS.ExcBuiltin
import HandS.Finally
import PySem.Challenge.RW_gossipcount_k13_whole_heard_of
set_option Elab.async false
set_option linter.all false
set_option maxRecDepth 100000
set_option maxHeartbeats 4000000
namespace Gc
open PySem L2 Evl
/-! ### heaps that grow; small words -/
theorem tup_new {H : Hp} {xs : List V} {Q : VK} (h : ∀ p H', H p = none → Ex H H' → H' p = some (.tup xs) → Q (.ref p) H') : ∀ p, H p = none → Q (.ref p) (upd H p (.tup xs)) := fun p hp => h p _ hp (Ex.new hp) upd_same
theorem lst_new {H : Hp} {xs : List V} {Q : VK} (h : ∀ p H', H p = none → Ex H H' → H' p = some (.lst xs) → Q (.ref p) H') : ∀ p, H p = none → Q (.ref p) (upd H p (.lst xs)) := fun p hp => h p _ hp (Ex.new hp) upd_same
theorem dct_new {H : Hp} {xs : List (Key × V)} {Q : VK} (h : ∀ p H', H p = none → Ex H H' → H' p = some (.dK xs) → Q (.ref p) H') : ∀ p, H p = none → Q (.ref p) (upd H p (.dK xs)) := fun p hp => h p _ hp (Ex.new hp) upd_same
theorem ex_at {H H' : Hp} {a : Addr} {o : HO} (e : Ex H H') (h : H a = some o) : H' a = some o := e a o h
theorem ex_same {H H' : Hp} (e : Ex H H') : Same H H' := e
theorem bne_self {b : Bool} : (!b) = (if b = true then false else true) := by cases b <;> rfl
theorem sz (n : Nat) (h : Nat.ble n 100000 = true := by rfl) : n ≤ sizeLine := sz_of (Nat.le_of_ble_eq_true h)
/-- a share at t: the pair (a, b) -/
abbrev ShAt (K : PySem.W.Frag) (H : Hp) (t : Addr) (a b : Int) : Prop := SqT K H t [.int a, .int b]
theorem tyx_t {K : PySem.W.Frag} {H : Hp} {a : Addr} {xs : List V} (h : SqT K H a xs) : TyX K H (.ref a) (.type "tuple") := by
  rcases h with (h | ⟨o, h⟩) | ⟨o, its, n, hk, hc, _⟩
  · exact .base (.tup h)
  · exact .fTuple h
  · exact .kTuple hk hc
theorem tyx_l {K : PySem.W.Frag} {H : Hp} {a : Addr} {xs : List V} (h : SqL K H a xs) : TyX K H (.ref a) (.type "list") := by
  rcases h with (h | ⟨o, h⟩) | ⟨o, its, n, hk, hc, _⟩
  · exact .base (.lst h)
  · exact .base (.frz h)
  · exact .kList hk hc
theorem tyx_d {K : PySem.W.Frag} {H : Hp} {a : Addr} {kvs : List (Key × V)} (h : Rd H a (.dK kvs)) : TyX K H (.ref a) (.type "dict") := by
  rcases h with h | ⟨o, h⟩
  · exact .base (.dK h)
  · exact .fDict h
theorem ab_ex {H H1 : Hp} {p : Addr} {o : HO} (hp : H p = none) (h : upd H p o = H1) : Ex H H1 := h ▸ Ex.new hp
theorem ab_at {H H1 : Hp} {p : Addr} {o : HO} (h : upd H p o = H1) : H1 p = some o := h ▸ upd_same
/-- what is said here is not opened by the walk -/
structure Hold (P : Prop) : Prop where
  it : P
theorem ab_mut {H H1 H2 : Hp} {p : Addr} {o : HO} (hp : H p = none) (e : Ex H H1) (h : upd H1 p o = H2) : Ex H H2 := h ▸ Ex.mut e hp
theorem pos60 : (0 : Int) < 10 ^ (60 : Int).toNat := by decide
theorem ite_refl {x : V} {A B : Prop} (h : A) : if decide (x = x) = true then A else B := by
  rw [if_pos (decide_eq_true rfl)]; exact h
theorem ite_nrefl {x : V} {A B : Prop} (h : B) : if (!decide (x = x)) = true then A else B := by
  rw [decide_eq_true (rfl : x = x)]; exact iteF h
theorem ite_pos {c : Bool} {A B : Prop} (hc : c = true) (h : A) : if c = true then A else B := by
  rw [if_pos hc]; exact h
theorem ite_neg {c : Bool} {A B : Prop} (hc : c = false) (h : B) : if c = true then A else B := by
  rw [hc]; exact iteF h
theorem lt_t {i j : Int} {A B : Prop} (hc : i < j) (h : A) : if decide (i < j) = true then A else B := ite_pos (decide_eq_true hc) h
theorem lt_f {i j : Int} {A B : Prop} (hc : ¬ i < j) (h : B) : if decide (i < j) = true then A else B := ite_neg (decide_eq_false hc) h
theorem le_t {i j : Int} {A B : Prop} (hc : i ≤ j) (h : A) : if decide (i ≤ j) = true then A else B := ite_pos (decide_eq_true hc) h
theorem le_f {i j : Int} {A B : Prop} (hc : ¬ i ≤ j) (h : B) : if decide (i ≤ j) = true then A else B := ite_neg (decide_eq_false hc) h
theorem eqI_t {i j : Int} {A B : Prop} (hc : i = j) (h : A) : if decide (V.int i = V.int j) = true then A else B := ite_pos (decide_eq_true (by rw [hc])) h
theorem eqI_f {i j : Int} {A B : Prop} (hc : ¬ i = j) (h : B) : if decide (V.int i = V.int j) = true then A else B := ite_neg (decide_eq_false (fun e => hc (V.int.inj e))) h
theorem neI_t {i j : Int} {A B : Prop} (hc : ¬ i = j) (h : A) : if (!decide (V.int i = V.int j)) = true then A else B := ite_pos (by rw [decide_eq_false (fun e => hc (V.int.inj e))]; rfl) h
theorem neI_f {i j : Int} {A B : Prop} (hc : i = j) (h : B) : if (!decide (V.int i = V.int j)) = true then A else B := ite_neg (by rw [decide_eq_true (by rw [hc])]; rfl) h
theorem iteN_t {c : Bool} {A B : Prop} (hc : c = false) (h : A) : if (!c) = true then A else B := ite_pos (by rw [hc]; rfl) h
theorem iteN_f {c : Bool} {A B : Prop} (hc : c = true) (h : B) : if (!c) = true then A else B := ite_neg (by rw [hc]; rfl) h
/-- a and b, b without a new thing -/
theorem and_ev {te : TE} {σ : L2.St} {H : Hp} {Q : VK} {b1 : Bool} (b2 : Bool) (hv : b1 = true → ∀ Q' : VK, Q' (.bl b2) H → te σ H Q') (h : Q (.bl (b1 && b2)) H) : if b1 = true then te σ H Q else Q (.bl false) H := by
  cases b1 with
  | true => exact iteT (hv rfl Q h)
  | false => exact iteF h
theorem or_ev {te : TE} {σ : L2.St} {H : Hp} {Q : VK} {b1 : Bool} (b2 : Bool) (hv : b1 = false → ∀ Q' : VK, Q' (.bl b2) H → te σ H Q') (h : Q (.bl (b1 || b2)) H) : if b1 = true then Q (.bl true) H else te σ H Q := by
  cases b1 with
  | true => exact iteT h
  | false => exact iteF (hv rfl Q h)
theorem chain_ev {tc : TE} {r' : R2} {y : V} {σ : L2.St} {H : Hp} {Q : VK} {b1 : Bool} (b2 : Bool) (hv : b1 = true → ∀ Q' : VK, Q' (.bl b2) H → tc σ H fun w' H4 => r' y w' H4 Q') (h : Q (.bl (b1 && b2)) H) :
    if b1 = true then (tc σ H fun w' H4 => r' y w' H4 Q) else Q (.bl false) H := by
  cases b1 with
  | true => exact iteT (hv rfl Q h)
  | false => exact iteF h
theorem bl_eq {H : Hp} {Q : VK} {b c : Bool} (e : b = c) (h : Q (.bl c) H) : Q (.bl b) H := e ▸ h
theorem eqI_b {i j : Int} (h : i = j) : decide (V.int i = V.int j) = true := decide_eq_true (by rw [h])
/-- an open test on two whole numbers -/
theorem lt_2 {i j : Int} {A B : Prop} (h1 : i < j → A) (h2 : ¬ i < j → B) : if decide (i < j) = true then A else B := by
  by_cases hc : i < j
  · exact lt_t hc (h1 hc)
  · exact lt_f hc (h2 hc)
theorem le_2 {i j : Int} {A B : Prop} (h1 : i ≤ j → A) (h2 : ¬ i ≤ j → B) : if decide (i ≤ j) = true then A else B := by
  by_cases hc : i ≤ j
  · exact le_t hc (h1 hc)
  · exact le_f hc (h2 hc)
theorem ltN_2 {i j : Int} {A B : Prop} (h1 : ¬ i < j → A) (h2 : i < j → B) : if (!decide (i < j)) = true then A else B := by
  by_cases hc : i < j
  · rw [decide_eq_true hc]; exact iteF (h2 hc)
  · rw [decide_eq_false hc]; exact iteT (h1 hc)
theorem leN_2 {i j : Int} {A B : Prop} (h1 : ¬ i ≤ j → A) (h2 : i ≤ j → B) : if (!decide (i ≤ j)) = true then A else B := by
  by_cases hc : i ≤ j
  · rw [decide_eq_true hc]; exact iteF (h2 hc)
  · rw [decide_eq_false hc]; exact iteT (h1 hc)
theorem eqI_2 {i j : Int} {A B : Prop} (h1 : i = j → A) (h2 : ¬ i = j → B) : if decide (V.int i = V.int j) = true then A else B := by
  by_cases hc : i = j
  · exact eqI_t hc (h1 hc)
  · exact eqI_f hc (h2 hc)
theorem neI_2 {i j : Int} {A B : Prop} (h1 : ¬ i = j → A) (h2 : i = j → B) : if (!decide (V.int i = V.int j)) = true then A else B := by
  by_cases hc : i = j
  · exact neI_f hc (h2 hc)
  · exact neI_t hc (h1 hc)
theorem tyx_mono {K : PySem.W.Frag} {H H' : Hp} {x : V} {t : Value} (e : Ex H H') (h : TyX K H x t) : TyX K H' x t := by
  cases h with
  | base b =>
    cases b with
    | non => exact .base .non
    | bl y => exact .base (.bl y)
    | int y => exact .base (.int y)
    | str y => exact .base (.str y)
    | flt y => exact .base (.flt y)
    | lst q => exact .base (.lst (e _ _ q))
    | frz q => exact .base (.frz (e _ _ q))
    | tup q => exact .base (.tup (e _ _ q))
    | dK q => exact .base (.dK (e _ _ q))
    | dT q => exact .base (.dT (e _ _ q))
    | ins q c a n k m => exact .base (.ins (e _ _ q) c a n k m)
  | byt b => exact .byt b
  | set q => exact .set (e _ _ q)
  | kList q c => exact .kList q c
  | kTuple q c => exact .kTuple q c
  | kDict q c => exact .kDict q c
  | fTuple q => exact .fTuple (e _ _ q)
  | fDict q => exact .fDict (e _ _ q)
/-- a comprehension: P by the turn, the list so far and the heap -/
theorem lc_go {J : It} {n : Nat} {G : Hp → Prop} {Yv : Nat → V → Prop} (w : Walk J n G (fun i H x H' => H' = H ∧ Yv i x)) {g : TG} {tt : TT} {te : TE} {vs : List Nat} {σ : L2.St} {H1 : Hp} {D : Addr} {Qd : Hp → Prop}
    (P : Nat → List V → Hp → Prop) (hn : n ≤ 100000) (hD : H1 D = none) (hG : ∀ H, Ex H1 H → G H) (hP : ∀ i acc H o, P i acc H → P i acc (upd H D o)) (h0 : ∀ H, Ex H1 H → P 0 [] H)
    (hs : ∀ i x acc H (Kk : VK) (Nn : Hp → Prop), i < n → Yv i x → Ex H1 H → H D = some (.lst acc) → P i acc H → (∀ y H4, Ex H H4 → P (i + 1) (acc ++ [y]) H4 → Kk y H4) → (∀ H3, Ex H H3 → P (i + 1) acc H3 → Nn H3) →
      g x (wipe σ vs) H fun σ2 H2 => wipe σ2 vs = wipe σ vs ∧ tt σ2 H2 fun b H3 => if b = true then te σ2 H3 Kk else Nn H3)
    (hd : ∀ acc H, Ex H1 H → H D = some (.lst acc) → P n acc H → Qd H) :
    ∃ W : Nat → Nat → Hp → Prop, (∃ m, W 0 m (upd H1 D (.lst []))) ∧ ∀ i m H, W i m H →
      (J.stop i H ∧ Qd H) ∨ (J.go i H ∧ ∃ Nx : Hp → Prop, (∀ H', Nx H' → ∃ m', m' < m ∧ W (i + 1) m' H') ∧ ∀ x H', J.yld i H x H' → g x (wipe σ vs) H' fun σ2 H2 => wipe σ2 vs = wipe σ vs ∧ tt σ2 H2 fun b H3 =>
        if b = true then te σ2 H3 fun y H4 => ∃ acc, H4 D = some (.lst acc) ∧ acc.length < sizeLine ∧ Nx (upd H4 D (.lst (acc ++ [y]))) else Nx H3) := by
  refine lc_it w (fun i H => ∃ acc, H D = some (.lst acc) ∧ acc.length ≤ i ∧ Ex H1 H ∧ P i acc H) ⟨[], upd_same, Nat.le_refl _, Ex.new hD, h0 _ (Ex.new hD)⟩ (fun i H _ h => ?_) (fun i x H H' hi h y => ?_) (fun H h => ?_)
  · obtain ⟨acc, _, _, e, _⟩ := h
    exact hG H e
  · obtain ⟨acc, ha, hl, e, p⟩ := h
    obtain ⟨rfl, hy⟩ := y
    refine hs i x acc H' _ _ hi hy e ha p (fun y H4 e4 p4 => ?_) (fun H3 e3 p3 => ?_)
    · refine ⟨acc, e4 _ _ ha, sz_lt (by omega), acc ++ [y], upd_same, by rw [List.length_append, List.length_singleton]; omega, Ex.mut (e.trans e4) hD, hP _ _ _ _ p4⟩
    · exact ⟨acc, e3 _ _ ha, by omega, e.trans e3, p3⟩
  · obtain ⟨acc, ha, _, e, p⟩ := h
    exact hd acc H e ha p
/-- what is_whole answers of x -/
def WholeJ (K : PySem.W.Frag) (H : Hp) (x : V) (b : Bool) : Prop := ∃ (t : String) (b1 b2 : Bool), TyX K H x (.type t) ∧ PySem.W.kitOne K (.type t) (.type "int") = some b1 ∧ PySem.W.kitOne K (.type t) (.type "bool") = some b2 ∧ b = (b1 && !b2)
/-- x is no text -/
def NoStr (K : PySem.W.Frag) (H : Hp) (x : V) : Prop := ∃ t : String, TyX K H x (.type t) ∧ PySem.W.kitOne K (.type t) (.type "str") = some false
theorem kit_int_int {K : PySem.W.Frag} : PySem.W.kitOne K (.type "int") (.type "int") = some true := kit_ty (by decide +kernel)
theorem kit_int_bool {K : PySem.W.Frag} : PySem.W.kitOne K (.type "int") (.type "bool") = some false := kit_ty (by decide +kernel)
theorem kit_int_str {K : PySem.W.Frag} : PySem.W.kitOne K (.type "int") (.type "str") = some false := kit_ty (by decide +kernel)
theorem kit_int_tuple {K : PySem.W.Frag} : PySem.W.kitOne K (.type "int") (.type "tuple") = some false := kit_ty (by decide +kernel)
theorem kit_int_dict {K : PySem.W.Frag} : PySem.W.kitOne K (.type "int") (.type "dict") = some false := kit_ty (by decide +kernel)
theorem kit_int_list {K : PySem.W.Frag} : PySem.W.kitOne K (.type "int") (.type "list") = some false := kit_ty (by decide +kernel)
theorem kit_bool_int {K : PySem.W.Frag} : PySem.W.kitOne K (.type "bool") (.type "int") = some true := kit_ty (by decide +kernel)
theorem kit_bool_bool {K : PySem.W.Frag} : PySem.W.kitOne K (.type "bool") (.type "bool") = some true := kit_ty (by decide +kernel)
theorem kit_bool_str {K : PySem.W.Frag} : PySem.W.kitOne K (.type "bool") (.type "str") = some false := kit_ty (by decide +kernel)
theorem kit_bool_tuple {K : PySem.W.Frag} : PySem.W.kitOne K (.type "bool") (.type "tuple") = some false := kit_ty (by decide +kernel)
theorem kit_bool_dict {K : PySem.W.Frag} : PySem.W.kitOne K (.type "bool") (.type "dict") = some false := kit_ty (by decide +kernel)
theorem kit_bool_list {K : PySem.W.Frag} : PySem.W.kitOne K (.type "bool") (.type "list") = some false := kit_ty (by decide +kernel)
theorem kit_str_int {K : PySem.W.Frag} : PySem.W.kitOne K (.type "str") (.type "int") = some false := kit_ty (by decide +kernel)
theorem kit_str_bool {K : PySem.W.Frag} : PySem.W.kitOne K (.type "str") (.type "bool") = some false := kit_ty (by decide +kernel)
theorem kit_str_str {K : PySem.W.Frag} : PySem.W.kitOne K (.type "str") (.type "str") = some true := kit_ty (by decide +kernel)
theorem kit_str_tuple {K : PySem.W.Frag} : PySem.W.kitOne K (.type "str") (.type "tuple") = some false := kit_ty (by decide +kernel)
theorem kit_str_dict {K : PySem.W.Frag} : PySem.W.kitOne K (.type "str") (.type "dict") = some false := kit_ty (by decide +kernel)
theorem kit_str_list {K : PySem.W.Frag} : PySem.W.kitOne K (.type "str") (.type "list") = some false := kit_ty (by decide +kernel)
theorem kit_NoneType_int {K : PySem.W.Frag} : PySem.W.kitOne K (.type "NoneType") (.type "int") = some false := kit_ty (by decide +kernel)
theorem kit_NoneType_bool {K : PySem.W.Frag} : PySem.W.kitOne K (.type "NoneType") (.type "bool") = some false := kit_ty (by decide +kernel)
theorem kit_NoneType_str {K : PySem.W.Frag} : PySem.W.kitOne K (.type "NoneType") (.type "str") = some false := kit_ty (by decide +kernel)
theorem kit_NoneType_tuple {K : PySem.W.Frag} : PySem.W.kitOne K (.type "NoneType") (.type "tuple") = some false := kit_ty (by decide +kernel)
theorem kit_NoneType_dict {K : PySem.W.Frag} : PySem.W.kitOne K (.type "NoneType") (.type "dict") = some false := kit_ty (by decide +kernel)
theorem kit_NoneType_list {K : PySem.W.Frag} : PySem.W.kitOne K (.type "NoneType") (.type "list") = some false := kit_ty (by decide +kernel)
theorem kit_tuple_int {K : PySem.W.Frag} : PySem.W.kitOne K (.type "tuple") (.type "int") = some false := kit_ty (by decide +kernel)
theorem kit_tuple_bool {K : PySem.W.Frag} : PySem.W.kitOne K (.type "tuple") (.type "bool") = some false := kit_ty (by decide +kernel)
theorem kit_tuple_str {K : PySem.W.Frag} : PySem.W.kitOne K (.type "tuple") (.type "str") = some false := kit_ty (by decide +kernel)
theorem kit_tuple_tuple {K : PySem.W.Frag} : PySem.W.kitOne K (.type "tuple") (.type "tuple") = some true := kit_ty (by decide +kernel)
theorem kit_tuple_dict {K : PySem.W.Frag} : PySem.W.kitOne K (.type "tuple") (.type "dict") = some false := kit_ty (by decide +kernel)
theorem kit_tuple_list {K : PySem.W.Frag} : PySem.W.kitOne K (.type "tuple") (.type "list") = some false := kit_ty (by decide +kernel)
theorem kit_list_int {K : PySem.W.Frag} : PySem.W.kitOne K (.type "list") (.type "int") = some false := kit_ty (by decide +kernel)
theorem kit_list_bool {K : PySem.W.Frag} : PySem.W.kitOne K (.type "list") (.type "bool") = some false := kit_ty (by decide +kernel)
theorem kit_list_str {K : PySem.W.Frag} : PySem.W.kitOne K (.type "list") (.type "str") = some false := kit_ty (by decide +kernel)
theorem kit_list_tuple {K : PySem.W.Frag} : PySem.W.kitOne K (.type "list") (.type "tuple") = some false := kit_ty (by decide +kernel)
theorem kit_list_dict {K : PySem.W.Frag} : PySem.W.kitOne K (.type "list") (.type "dict") = some false := kit_ty (by decide +kernel)
theorem kit_list_list {K : PySem.W.Frag} : PySem.W.kitOne K (.type "list") (.type "list") = some true := kit_ty (by decide +kernel)
theorem kit_dict_int {K : PySem.W.Frag} : PySem.W.kitOne K (.type "dict") (.type "int") = some false := kit_ty (by decide +kernel)
theorem kit_dict_bool {K : PySem.W.Frag} : PySem.W.kitOne K (.type "dict") (.type "bool") = some false := kit_ty (by decide +kernel)
theorem kit_dict_str {K : PySem.W.Frag} : PySem.W.kitOne K (.type "dict") (.type "str") = some false := kit_ty (by decide +kernel)
theorem kit_dict_tuple {K : PySem.W.Frag} : PySem.W.kitOne K (.type "dict") (.type "tuple") = some false := kit_ty (by decide +kernel)
theorem kit_dict_dict {K : PySem.W.Frag} : PySem.W.kitOne K (.type "dict") (.type "dict") = some true := kit_ty (by decide +kernel)
theorem kit_dict_list {K : PySem.W.Frag} : PySem.W.kitOne K (.type "dict") (.type "list") = some false := kit_ty (by decide +kernel)
theorem WholeJ.int {K : PySem.W.Frag} {H : Hp} (i : Int) : WholeJ K H (.int i) true := ⟨"int", true, false, .base (.int i), kit_int_int, kit_int_bool, rfl⟩
theorem WholeJ.bl {K : PySem.W.Frag} {H : Hp} (i : Bool) : WholeJ K H (.bl i) false := ⟨"bool", true, true, .base (.bl i), kit_bool_int, kit_bool_bool, rfl⟩
theorem WholeJ.str {K : PySem.W.Frag} {H : Hp} (i : Str) : WholeJ K H (.str i) false := ⟨"str", false, false, .base (.str i), kit_str_int, kit_str_bool, rfl⟩
theorem WholeJ.non {K : PySem.W.Frag} {H : Hp} : WholeJ K H .non false := ⟨"NoneType", false, false, .base .non, kit_NoneType_int, kit_NoneType_bool, rfl⟩
theorem WholeJ.tup {K : PySem.W.Frag} {H : Hp} {t : Addr} {xs : List V} (h : SqT K H t xs) : WholeJ K H (.ref t) false := ⟨"tuple", false, false, tyx_t h, kit_tuple_int, kit_tuple_bool, rfl⟩
theorem WholeJ.lst {K : PySem.W.Frag} {H : Hp} {t : Addr} {xs : List V} (h : SqL K H t xs) : WholeJ K H (.ref t) false := ⟨"list", false, false, tyx_l h, kit_list_int, kit_list_bool, rfl⟩
theorem WholeJ.dct {K : PySem.W.Frag} {H : Hp} {t : Addr} {xs : List (Key × V)} (h : Rd H t (.dK xs)) : WholeJ K H (.ref t) false := ⟨"dict", false, false, tyx_d h, kit_dict_int, kit_dict_bool, rfl⟩
theorem NoStr.int {K : PySem.W.Frag} {H : Hp} (i : Int) : NoStr K H (.int i) := ⟨"int", .base (.int i), kit_int_str⟩
theorem NoStr.bl {K : PySem.W.Frag} {H : Hp} (i : Bool) : NoStr K H (.bl i) := ⟨"bool", .base (.bl i), kit_bool_str⟩
theorem NoStr.non {K : PySem.W.Frag} {H : Hp} : NoStr K H .non := ⟨"NoneType", .base .non, kit_NoneType_str⟩
theorem NoStr.tup {K : PySem.W.Frag} {H : Hp} {t : Addr} {xs : List V} (h : SqT K H t xs) : NoStr K H (.ref t) := ⟨"tuple", tyx_t h, kit_tuple_str⟩
theorem NoStr.lst {K : PySem.W.Frag} {H : Hp} {t : Addr} {xs : List V} (h : SqL K H t xs) : NoStr K H (.ref t) := ⟨"list", tyx_l h, kit_list_str⟩
theorem NoStr.dct {K : PySem.W.Frag} {H : Hp} {t : Addr} {xs : List (Key × V)} (h : Rd H t (.dK xs)) : NoStr K H (.ref t) := ⟨"dict", tyx_d h, kit_dict_str⟩
/-- an item of a list at an open place in bounds -/
theorem tl_len (z : Str) : z.cps.toList.length = z.length := Array.length_toList
theorem ixN_in {n : Nat} {i : Int} (h0 : 0 ≤ i) (h1 : i < n) : ixN n i = some i.toNat := by
  have q : ixN n ((i.toNat : Nat) : Int) = some i.toNat := Evl.ixN_nat (by omega)
  rw [show ((i.toNat : Nat) : Int) = i by omega] at q
  exact q
theorem mod_in {a b : Int} (h : 0 < b) : 0 ≤ a % b ∧ a % b < b := ⟨Int.emod_nonneg _ (by omega), Int.emod_lt_of_pos _ h⟩
theorem atI_in {α : Type} {xs : List α} {i : Int} (h0 : 0 ≤ i) (h1 : i < xs.length) : ∃ v, atI xs i = some v ∧ v ∈ xs := by
  have hj : i.toNat < xs.length := by omega
  have q : atI xs ((i.toNat : Nat) : Int) = some xs[i.toNat] := atI_nat (List.getElem?_eq_getElem hj)
  exact ⟨xs[i.toNat], by rw [show ((i.toNat : Nat) : Int) = i by omega] at q; exact q, List.getElem_mem hj⟩
theorem atI_getD {xs : List V} {i : Int} (h0 : 0 ≤ i) (h1 : i < xs.length) : atI xs i = some (xs.getD i.toNat .non) := by
  obtain ⟨v, hv, _⟩ := atI_in h0 h1
  have hj : i.toNat < xs.length := by omega
  have q : atI xs ((i.toNat : Nat) : Int) = some xs[i.toNat] := atI_nat (List.getElem?_eq_getElem hj)
  rw [show ((i.toNat : Nat) : Int) = i by omega] at q
  rw [q]
  simp [List.getD, List.getElem?_eq_getElem hj]
theorem getD_mem {xs : List V} {i : Int} (h0 : 0 ≤ i) (h1 : i < xs.length) : xs.getD i.toNat .non ∈ xs := by
  have hj : i.toNat < xs.length := by omega
  have : xs.getD i.toNat .non = xs[i.toNat] := by simp [List.getD, List.getElem?_eq_getElem hj]
  rw [this]
  exact List.getElem_mem hj
theorem WholeJ.mono {K : PySem.W.Frag} {H H' : Hp} {x : V} {b : Bool} (e : Ex H H') (h : WholeJ K H x b) : WholeJ K H' x b := by
  obtain ⟨t, b1, b2, h1, h2⟩ := h
  exact ⟨t, b1, b2, tyx_mono e h1, h2⟩
theorem NoStr.mono {K : PySem.W.Frag} {H H' : Hp} {x : V} (e : Ex H H') (h : NoStr K H x) : NoStr K H' x := by
  obtain ⟨t, h1, h2⟩ := h
  exact ⟨t, tyx_mono e h1, h2⟩
end Gc
/- what is known of an earlier heap, at a later one -/
local macro_rules | `(tactic| walk_at "gc_ex") => `(tactic| first
  | assumption
  | exact Evl.Ex.refl _
  | (refine' Evl.Ex.trans ?h (by assumption); (case h => walk_at "gc_ex")))
local macro_rules | `(tactic| walk_at "gc_at") => `(tactic| first
  | assumption
  | exact Evl.st_of (by assumption)
  | exact Evl.sq_of (by assumption)
  | exact L2.Rd.of (by assumption)
  | (refine' Evl.ex_t (by assumption) ?h; (case h => walk_at "gc_at"))
  | (refine' Evl.ex_l (by assumption) ?h; (case h => walk_at "gc_at"))
  | (refine' Evl.ex_rd (by assumption) ?h; (case h => walk_at "gc_at"))
  | (refine' Gc.ex_at (by assumption) ?h; (case h => walk_at "gc_at"))
  | walk_at "gc_x")
local macro_rules | `(tactic| walk_at "gc_ty") => `(tactic| first
  | exact L2.TyX.base (L2.TyOf.int _)
  | exact L2.TyX.base (L2.TyOf.bl _)
  | exact L2.TyX.base (L2.TyOf.str _)
  | exact L2.TyX.base L2.TyOf.non
  | assumption
  | (refine' Gc.tyx_t ?h; (case h => walk_at "gc_at"))
  | (refine' Gc.tyx_l ?h; (case h => walk_at "gc_at"))
  | (refine' Gc.tyx_d ?h; (case h => walk_at "gc_at")))
local macro_rules | `(tactic| walk_at "gc_kit") => `(tactic| first
  | exact Gc.kit_int_int
  | exact Gc.kit_int_bool
  | exact Gc.kit_int_str
  | exact Gc.kit_int_tuple
  | exact Gc.kit_int_dict
  | exact Gc.kit_int_list
  | exact Gc.kit_bool_int
  | exact Gc.kit_bool_bool
  | exact Gc.kit_bool_str
  | exact Gc.kit_bool_tuple
  | exact Gc.kit_bool_dict
  | exact Gc.kit_bool_list
  | exact Gc.kit_str_int
  | exact Gc.kit_str_bool
  | exact Gc.kit_str_str
  | exact Gc.kit_str_tuple
  | exact Gc.kit_str_dict
  | exact Gc.kit_str_list
  | exact Gc.kit_NoneType_int
  | exact Gc.kit_NoneType_bool
  | exact Gc.kit_NoneType_str
  | exact Gc.kit_NoneType_tuple
  | exact Gc.kit_NoneType_dict
  | exact Gc.kit_NoneType_list
  | exact Gc.kit_tuple_int
  | exact Gc.kit_tuple_bool
  | exact Gc.kit_tuple_str
  | exact Gc.kit_tuple_tuple
  | exact Gc.kit_tuple_dict
  | exact Gc.kit_tuple_list
  | exact Gc.kit_list_int
  | exact Gc.kit_list_bool
  | exact Gc.kit_list_str
  | exact Gc.kit_list_tuple
  | exact Gc.kit_list_dict
  | exact Gc.kit_list_list
  | exact Gc.kit_dict_int
  | exact Gc.kit_dict_bool
  | exact Gc.kit_dict_str
  | exact Gc.kit_dict_tuple
  | exact Gc.kit_dict_dict
  | exact Gc.kit_dict_list)
/- the answers that need no thought -/
local macro_rules | `(tactic| walk_at "gc_sd") => `(tactic| first
  | rfl
  | walk_at "gc_at"
  | exact L2.ClsV.ty _
  | walk_at "gc_ty"
  | walk_at "gc_kit"
  | exact Gc.sz _
  | exact Gc.pos60
  | exact ⟨by decide, by decide⟩
  | exact ⟨_, rfl⟩
  | exact Or.inl (by walk_at "gc_at")
  | exact Or.inr (by walk_at "gc_at")
  | exact Or.inr ⟨by decide, by decide⟩
  | exact Or.inl ⟨by decide, by decide⟩
  | exact Or.inr ⟨by omega, by omega⟩
  | exact Or.inl ⟨by omega, by omega⟩
  | exact ⟨by decide, by decide, by decide⟩
  | exact ⟨by omega, by omega⟩
  | exact Evl.sz_of (by omega)
  | exact Evl.sz_lt (by omega)
  | exact Exists.intro _ (by assumption)
  | exact Or.inl ⟨rfl, Exists.intro _ (Evl.sq_of (by assumption))⟩
  | walk_at "gc_y"
  | decide
  | omega)
local macro_rules | `(tactic| walk_at "gc_e") => `(tactic| (apply Exists.intro; first | refine And.intro rfl ?_ | walk_at "gc_e"))
/- one step of a reading -/
local macro_rules | `(tactic| walk_at "gc_1") => `(tactic| first
  | (refine And.intro rfl ?_)
  | walk_at "gc_e"
  | (with_reducible refine L2.iteT ?_)
  | (with_reducible refine L2.iteF ?_)
  | (with_reducible refine Gc.ite_refl ?_)
  | (with_reducible refine Gc.ite_nrefl ?_)
  | (intro p hp; refine (?_ : ∃ W : Nat → Nat → L2.Hp → Prop, _))
  | (intro p hp; generalize hX : L2.upd _ p _ = H1; have e1 := Gc.ab_ex hp hX; have f1 := Gc.ab_at hX; clear hX)
  | (refine' And.intro ?s ?_; (case s => walk_at "gc_sd"))
  | intro _)
local macro_rules | `(tactic| walk_at "gc") => `(tactic| repeat walk_at "gc_1")

namespace Gc
open PySem L2 Evl
/-! ### the laws' numbers -/
/-- the greater one, as the program's max takes it -/
def gmax (i j : Int) : Int := if j > i then j else i
/-- the lesser one, as the program's min takes it -/
def gmin (i j : Int) : Int := if j < i then j else i
theorem gmax_comm (i j : Int) : gmax i j = gmax j i := by unfold gmax; split <;> split <;> omega
theorem gmax_back (i j : Int) : gmax (gmax i j) i = gmax i j := by unfold gmax; split <;> split <;> omega
theorem gmax_in (i j : Int) : gmax i (gmax j i) = gmax j i := by unfold gmax; split <;> split <;> omega
/-- whether (a, b) reaches (c, d) -/
def reachB (a b c d : Int) : Bool := decide (c ≤ a) && decide (d ≤ b)
theorem reachB_self (a b : Int) : reachB a b a b = true := by unfold reachB; simp
/-- a cell of the script, 0 behind its end -/
def cellI (ns : List Int) (k : Int) : Int := ns.getD k.toNat 0
/-- a def of whole numbers that makes nothing -/
def sp_i1 (f : Int → Int) : Sp := fun vs H Q _ => ∃ c : Int, vs = [.int c] ∧ Q (.int (f c)) H
def sp_i2 (f : Int → Int → Int) : Sp := fun vs H Q _ => ∃ c e : Int, vs = [.int c, .int e] ∧ Q (.int (f c e)) H
def numberBy (c : Int) : Int :=
  if c % 5 < 2 then c / 5 % 3 * (c % 5) else if c % 5 = 2 then c / 5 % 1000 else if c % 5 = 3 then c / 5 % 10 ^ 60 else 10 ^ 60 - 1 - c / 5 % 1000
/-! ### names -/
def LET : Str := "abcdefghijklmnopqrstuvwxyz"
/-- a text of 1 to 8 small letters -/
def nameB (z : Str) : Bool := decide ((1 : Int) ≤ (z.length : Nat)) && (decide (((z.length : Nat) : Int) ≤ 8) && z.cps.toList.all fun c => decide (c ∈ LET.cps.toList))
theorem nameB_yes (z : Str) (h1 : (1 : Int) ≤ (z.length : Nat)) (h2 : ((z.length : Nat) : Int) ≤ 8) : ((z.cps.toList.map fun c => decide (c ∈ LET.cps.toList)).all id) = nameB z := by
  unfold nameB
  rw [decide_eq_true h1, decide_eq_true h2, Bool.true_and, Bool.true_and, List.all_map]
  rfl
theorem nameB_long (z : Str) (h2 : ¬ ((z.length : Nat) : Int) ≤ 8) : nameB z = false := by
  unfold nameB
  rw [decide_eq_false h2, Bool.false_and, Bool.and_false]
theorem nameB_short (z : Str) (h2 : ¬ (1 : Int) ≤ (z.length : Nat)) : nameB z = false := by
  unfold nameB
  rw [decide_eq_false h2, Bool.false_and]
theorem take_map_succ {α β : Type} {f : α → β} {l : List α} {i : Nat} {x : α} (h : l[i]? = some x) : (l.take (i + 1)).map f = (l.take i).map f ++ [f x] := by
  rw [List.take_add_one, h, List.map_append]
  rfl
theorem all_take_succ {α : Type} {p : α → Bool} {l : List α} {i : Nat} {x : α} (h : l[i]? = some x) : (l.take (i + 1)).all p = ((l.take i).all p && p x) := by
  rw [List.take_add_one, h, List.all_append]
  simp
/-- texts of one sign each -/
def sg (c : Nat) : Str := ⟨#[c]⟩
def Signs (p : Nat → Prop) (xs : List V) : Prop := ∃ cs : List Nat, xs = (cs.map sg).map V.str ∧ ∀ c ∈ cs, p c
theorem Signs.nil {p : Nat → Prop} : Signs p [] := ⟨[], rfl, fun _ h => (by cases h)⟩
theorem Signs.one {p : Nat → Prop} {xs : List V} {c : Nat} (h : Signs p xs) (hc : p c) : Signs p (xs ++ [.str ⟨#[c]⟩]) := by
  obtain ⟨cs, rfl, q⟩ := h
  refine ⟨cs ++ [c], by rw [List.map_append, List.map_append]; rfl, fun d hd => ?_⟩
  rcases List.mem_append.mp hd with h | h
  · exact q d h
  · rw [List.mem_singleton.mp h]; exact hc
theorem Signs.put {p : Nat → Prop} {xs : List V} {c : Nat} (h : Signs p xs) (hc : p c) (j : Nat) : Signs p (xs.set j (.str ⟨#[c]⟩)) := by
  obtain ⟨cs, rfl, q⟩ := h
  refine ⟨cs.set j c, by rw [List.map_set, List.map_set]; rfl, fun d hd => ?_⟩
  rcases List.mem_or_eq_of_mem_set hd with h | h
  · exact q d h
  · rw [h]; exact hc
theorem sg_lens : ∀ cs : List Nat, ((cs.map sg).map (fun x => x.length)).sum = cs.length
  | [] => rfl
  | c :: cs => by
    show 1 + ((cs.map sg).map (fun x => x.length)).sum = cs.length + 1
    rw [sg_lens cs, Nat.add_comm]
theorem sg_size (cs : List Nat) (h : cs.length ≤ 100000) : ((cs.map sg).map (fun x => x.length)).sum + (cs.map sg).length * ("" : Str).length ≤ 16777216 := by
  rw [sg_lens, List.length_map]
  show cs.length + cs.length * 0 ≤ 16777216
  omega
theorem joinL_sg : ∀ cs : List Nat, TL.joinL [] (cs.map fun c => [c]) = cs
  | [] => rfl
  | [c] => rfl
  | c :: d :: r => by
    show [c] ++ ([] ++ TL.joinL [] ((d :: r).map fun c => [c])) = c :: d :: r
    rw [joinL_sg (d :: r)]
    rfl
theorem join_sg (cs : List Nat) : Txt.join ("" : Str) (cs.map sg) = ⟨cs.toArray⟩ := by
  have e := SX.join_S [] (cs.map fun c => [c])
  rw [joinL_sg, List.map_map] at e
  exact e
/-- an amount -/
def amountB (i : Int) : Bool := decide (1 ≤ i) && decide (i ≤ 1000000000)
theorem amountB_alt (N : Int) : amountB N = (decide (0 < N) && decide (N < 1000000001)) := by
  have e1 : decide (1 ≤ N) = decide (0 < N) := decide_eq_decide.mpr (by omega)
  have e2 : decide (N ≤ 1000000000) = decide (N < 1000000001) := decide_eq_decide.mpr (by omega)
  unfold amountB
  rw [e1, e2]
/-- what a law promises: True -/
def sp_law (K : PySem.W.Frag) : Sp := fun vs H Q _ => ∃ (a : Addr) (ns : List Int), vs = [.ref a] ∧ SqL K H a (ns.map V.int) ∧ ns.length ≤ 63 ∧ ∀ H', Q (.bl true) H'
end Gc

namespace Gc
open PySem PySem.Spec PyProof.Rows L2
/-! ### == and != of dicts whose values are data (or the very same objects) -/
theorem hu70 {A : Around} {k : Nat} (hr : Room k A) : A.units + 70 < cLine := by have := hr.un; omega
/-- v == v' answers b: one object, or data -/
def EqJ (K : PySem.W.Frag) (H : Hp) (v v' : V) (b : Bool) : Prop :=
  (∃ a, v = .ref a ∧ v' = .ref a ∧ b = true) ∨ ∃ d e, Dp K H v d ∧ Dp K H v' e ∧ SeqAt.shaped d = true ∧ SeqAt.shaped e = true ∧ b = PyData.eqv d e
section
variable {X : Cx} {pins : List (Addr × Obj)} {σ : L2.St} {H : Hp} {s : Shared}
theorem eqj_at (I : Inv X pins σ H s) (hu : X.A.units + 70 < cLine) {v v' : V} {b : Bool} {u u' : Value} (h : EqJ X.K H v v' b) (r : RelV v u) (r' : RelV v' u') : SeqAt.EqAt X.A.in1 s u u' b := by
  rcases h with ⟨a, rfl, rfl, rfl⟩ | ⟨d, e, hd, he, sd, se, rfl⟩
  · cases r
    cases r'
    exact SeqAt.EqAt.same _
  · obtain ⟨as, r1⟩ := Dp.reads I d v u hd r
    obtain ⟨bs, r2⟩ := Dp.reads I e v' u' he r'
    exact PySem.W.keq_at r1 r2 sd se (by show X.A.units + 1 + 64 < cLine; omega)
/-- the answer of ks == ls, item by item -/
def dictEqB (ks ls : List (Key × V)) (e : Key → Bool) : Bool := decide (ks.length = ls.length) && ks.all fun p => (valV ls p.1).isSome && e p.1
theorem hits_j (I : Inv X pins σ H s) (hu : X.A.units + 70 < cLine) {ls : List (Key × V)} {vb : List (Key × Value)} (rb : KV ls vb) {e : Key → Bool} {ks : List (Key × V)} {va : List (Key × Value)} (ra : KV ks va) :
    (∀ p ∈ ks, ∀ v', valV ls p.1 = some v' → EqJ X.K H p.2 v' (e p.1)) → PySem.W.KeqHits X.A.in1 s vb va (ks.all fun p => (valV ls p.1).isSome && e p.1) := by
  unfold KV at ra
  induction ra with
  | nil => exact fun _ => .nil
  | @cons p q ps qs h t ih =>
    intro hp
    obtain ⟨k, v⟩ := q
    obtain ⟨h1, h2⟩ := h
    have h1' : p.1 = k := h1
    have rest := ih fun p' hm => hp p' (List.mem_cons_of_mem _ hm)
    have q0 := rb.val p.1
    cases hv : valV ls p.1 with
    | none =>
      rw [hv] at q0
      have hn : valueAt vb k = none := by
        rw [← h1']
        cases z : valueAt vb p.1 with
        | none => rfl
        | some y => rw [z] at q0; exact q0.elim
      have g : ((p :: ps).all fun p => (valV ls p.1).isSome && e p.1) = false := by simp [hv]
      rw [g]
      exact .miss hn
    | some v' =>
      rw [hv] at q0
      obtain ⟨y, hy, ry⟩ := RelO.some_of q0
      rw [h1'] at hy
      have g : ((p :: ps).all fun p => (valV ls p.1).isSome && e p.1) = (e p.1 && ps.all fun p => (valV ls p.1).isSome && e p.1) := by simp [hv]
      rw [g]
      exact .hit hy (eqj_at I hu (hp p List.mem_cons_self v' hv) h2 ry) rest
def rPgEq (K : PySem.W.Frag) (neg : Bool) : R2 := fun x y H Q => Hold (∃ (a b : Addr) (ks ls : List (Key × V)) (e : Key → Bool), x = .ref a ∧ y = .ref b ∧ Rd H a (.dK ks) ∧ Rd H b (.dK ls) ∧
  (∀ p ∈ ks, ∀ v', valV ls p.1 = some v' → EqJ K H p.2 v' (e p.1)) ∧ Q (.bl (if neg = true then !dictEqB ks ls e else dictEqB ks ls e)) H)
theorem op_pgEq (hu : X.A.units + 70 < cLine) : OpR X (compareOp .Eq) (rPgEq X.K false) := by
  intro pins s σ H x y v u Q I rx ry h
  obtain ⟨⟨a, b, ks, ls, e, rfl, rfl, ea, eb, hj, q⟩⟩ := h
  obtain rfl : v = Value.ref a := rx
  obtain rfl : u = Value.ref b := ry
  obtain ⟨_, ya, va, ra, da⟩ := dk_rd I.hok ea
  obtain ⟨_, yb, vb, rb, db⟩ := dk_rd I.hok eb
  refine PySem.W.keq_eq (knd := mixKind X.prog X.w) ya yb da db (by omega) (fun _ => hits_j I hu rb ra hj) (fin_bl I q ?_)
  show dictEqB ks ls e = _
  unfold dictEqB
  rw [ra.length, rb.length]
  cases hq : (va.length == vb.length) <;> simp_all
theorem op_pgEqN (hu : X.A.units + 70 < cLine) : OpR X (compareOp .NotEq) (rPgEq X.K true) := by
  intro pins s σ H x y v u Q I rx ry h
  obtain ⟨⟨a, b, ks, ls, e, rfl, rfl, ea, eb, hj, q⟩⟩ := h
  obtain rfl : v = Value.ref a := rx
  obtain rfl : u = Value.ref b := ry
  obtain ⟨_, ya, va, ra, da⟩ := dk_rd I.hok ea
  obtain ⟨_, yb, vb, rb, db⟩ := dk_rd I.hok eb
  refine PySem.W.keq_ne (knd := mixKind X.prog X.w) ya yb da db (by omega) (fun _ => hits_j I hu rb ra hj) (fin_bl I q ?_)
  show (!dictEqB ks ls e) = _
  unfold dictEqB
  rw [ra.length, rb.length]
  cases hq : (va.length == vb.length) <;> simp_all
theorem pg_go {K : PySem.W.Frag} {H : Hp} {Q : VK} {a b : Addr} {ks ls : List (Key × V)} (e : Key → Bool) (ha : Rd H a (.dK ks)) (hb : Rd H b (.dK ls)) (h : ∀ p ∈ ks, ∀ v', valV ls p.1 = some v' → EqJ K H p.2 v' (e p.1)) (q : Q (.bl (dictEqB ks ls e)) H) :
    rPgEq K false (.ref a) (.ref b) H Q := ⟨⟨a, b, ks, ls, e, rfl, rfl, ha, hb, h, q⟩⟩
theorem pgN_go {K : PySem.W.Frag} {H : Hp} {Q : VK} {a b : Addr} {ks ls : List (Key × V)} (e : Key → Bool) (ha : Rd H a (.dK ks)) (hb : Rd H b (.dK ls)) (h : ∀ p ∈ ks, ∀ v', valV ls p.1 = some v' → EqJ K H p.2 v' (e p.1)) (q : Q (.bl (!dictEqB ks ls e)) H) :
    rPgEq K true (.ref a) (.ref b) H Q := ⟨⟨a, b, ks, ls, e, rfl, rfl, ha, hb, h, q⟩⟩
end
end Gc

namespace Gc
open PySem PySem.Spec PyProof.Rows L2
/-! ### sorted of texts, any number of them: a list, a dict's keys, a set -/
section
variable {X : Cx}
def rSortedSA (K : PySem.W.Frag) : List V → Hp → VK → Prop := fun vs H Q => ∃ (a : Addr) (xs : List Str), vs = [V.ref a] ∧ SqL K H a (xs.map V.str) ∧
  ∀ (ys : List Str), ys.Perm xs → sortedS ys = true → ∀ p, H p = none → Q (.ref p) (upd H p (.lst (ys.map V.str)))
theorem cr_sortedSA (hc : X.calm = true) : CallR X (.builtin "sorted") (rSortedSA X.K) := by
  intro pins s σ H vs us Q I r h
  obtain ⟨a, xs, rfl, hs, q⟩ := h
  obtain ⟨its, rv, hl, hz⟩ := I.list hs
  rw [Vals.ref1 r]
  have hlen0 := rv.length
  refine PyProof.Rows.sorted_strsAny hl.isList rv.strs (by rw [← hlen0]; exact hz) fun out ys h1 h2 h3 => ?_
  obtain ⟨ep, he'⟩ := PyProof.Rows.sortedAll_at s.heap its out
  have hlen : (ys.map V.str).length ≤ sizeLine := by rw [List.length_map, h2.length_eq]; rw [List.length_map] at hz; exact hz
  exact ⟨.ref _, upd H (s.heap.objs.size + 1) (.lst (ys.map V.str)), I.laid (t' := s.toks) (fun _ _ => PyProof.Rows.sortedAll_old) (Nat.le_succ _) ⟨hlen, out.toList, ep, vals_of_strs h1, he'⟩, rfl, q ys h2 h3 _ (I.hok.fresh (Nat.le_succ _))⟩
def rSortedDA : List V → Hp → VK → Prop := fun vs H Q => ∃ (a : Addr) (kvs : List (Key × V)) (ks : List Str), vs = [.ref a] ∧ Rd H a (.dK kvs) ∧ kvs.map (·.1) = ks.map Sum.inr ∧
  ∀ (ys : List Str), ys.Perm ks → sortedS ys = true → ∀ p, H p = none → Q (.ref p) (upd H p (.lst (ys.map V.str)))
theorem cr_sortedDA (hcalm : X.calm = true) : CallR X (.builtin "sorted") rSortedDA := by
  intro pins s σ H xs us Q I r q
  obtain ⟨a, kvs, ks, ex, hd, hks, q⟩ := q
  subst ex
  obtain ⟨u, eu, rx⟩ := vals1 r
  subst eu
  cases rx
  obtain ⟨z, lo, vs, rel, dd⟩ := dk_rd I.hok hd
  obtain ⟨ep, hat⟩ := dd.dictAt
  have hkeys : vs.map (·.1) = ks.map Sum.inr := rel.keys.symm.trans hks
  have hl : vs.length = ks.length := by
    have e := congrArg List.length hkeys
    rw [List.length_map, List.length_map] at e
    exact e
  have h16 : vs.length ≤ sizeLine := by rw [← rel.length]; exact z
  refine Calls.call_function_entry PyProof.Rows.kind_sorted PyProof.Rows.plain_sorted PyProof.Rows.entry_sorted (PyProof.Rows.args_sorted1 _) ?_
  unfold Builtin.«sorted»
  refine wpAny_bind (m := checkCount "sorted" 1 1 _) (wpAny_pure ?_)
  refine wpAny_bind (PySem.W.kdu_collect (A := X.A.in1) (PySem.W.kdl_dict (knd := mixKind X.prog X.w) (kvs := vs) (ep := ep) lo) (I.ok.hd hcalm) hat h16 fun h' tk acc hk hacc => ?_)
  have hal : acc.toList.length = ks.length := by rw [Array.length_toList, hacc.1, hl]
  have hS : StrsAre acc.toList ks := strs_at hal fun j v e => by
    obtain ⟨k, x, e1, e2⟩ := hacc.2 j v (by rw [← Array.getElem?_toList]; exact e)
    have e3 : (vs.map (·.1))[j]? = some k := by rw [List.getElem?_map, e1]; all_goals rfl
    rw [hkeys, List.getElem?_map] at e3
    cases e4 : ks[j]? with
    | none => rw [e4] at e3; cases e3
    | some y =>
      rw [e4] at e3
      have e5 : Sum.inr y = k := Option.some.inj e3
      subst e5
      obtain ⟨t, ev⟩ := Value.isStrOf_shape (x := y) (v := v) e2
      exact ⟨y, t, rfl, ev⟩
  have I1 : Inv X pins σ H { s with heap := h', toks := tk } := I.kept hk
  refine wpAny_bind (wpAny_newList ?_ (by rw [hal, ← hl]; exact h16))
  have hoL : (h'.push (seqObj "list" acc.toList.toArray 0)).get? h'.objs.size = some (seqObj "list" acc.toList.toArray 0) := Heap.get?_push_size _ rfl
  show wpAny _ _ _ _ _ { s with heap := h'.push (seqObj "list" acc.toList.toArray 0), toks := tk }
  refine wpAny_bind (wpAny_holding (wpAny_call_entry PyProof.Rows.slot_list_sort ⟨_, hoL, rfl⟩ PyProof.Rows.entry_list_sort
    (PyProof.Rows.list_sort_treeKAny strKind_oneLt (s := { s with heap := h'.push (seqObj "list" acc.toList.toArray 0), toks := tk }) hoL hS.keysOf (fun v₁ v₂ rest e => keyKind_strs (by rw [← e]; exact hS)) (by rw [hal, ← hl]; exact h16) fun st' hp hs => ⟨_, rfl, ?_⟩)
    (PyProof.Rows.args_list_sort _)))
  obtain ⟨ys, g1, g2, g3⟩ := sorted_out_str hS hp hs
  obtain ⟨e', he'⟩ := PyProof.Rows.sortedHeap_at (vs := acc.toList) (out := (arrOf st').map (·.2)) hoL
  have hlen : (ys.map V.str).length ≤ sizeLine := by
    rw [List.length_map, g2.length_eq, ← hl]
    exact h16
  refine wpAny_pure ⟨_, rfl, .ref h'.objs.size, upd H h'.objs.size (.lst (ys.map V.str)), I1.laid (t' := tk) (fun b u e => ?_) (Nat.le_refl _)
    (show ObjOk X.prog X.w _ _ _ (.lst (ys.map V.str)) from ⟨hlen, ((arrOf st').map (·.2)).toList, e', vals_of_strs g1, by rw [Array.toArray_toList]; exact he'⟩), rfl, q ys g2 g3 _ (I1.hok.fresh (Nat.le_refl _))⟩
  have hlt := Heap.lt_size e
  rw [PyProof.Rows.sortedHeap_old (Nat.ne_of_lt hlt) (by rw [size_push']; exact Nat.lt_succ_of_lt hlt)]
  exact Heap.get?_push_of_some _ e
end
end Gc

namespace Gc
open PySem PySem.Spec PyProof.Rows L2
/-! ### a set of texts made of a list, and sorted: which order the table has is left open -/
def keyS (e : Int × Value) : Str := match e.2 with | .str k _ => k | _ => Str.empty
def GoodS (w : World) (e : Int × Value) : Prop := ∃ k tk, e.2 = Value.str k tk ∧ e.1 = hashStr w k
def SetS (w : World) (h : Heap) (a : Addr) (S : Str → Bool) (n : Nat) : Prop :=
  ∃ o es ep t, h.get? a = some o ∧ o.ExactSet ∧ o.data = .set es ep t ∧ (∀ e ∈ es.toList, GoodS w e) ∧ (es.toList.map keyS).Nodup ∧ (∀ k, S k = true ↔ k ∈ es.toList.map keyS) ∧
    es.size < scanBound ∧ t.fits es.size = true ∧ es.size = n ∧ Ris t.place.toList ∧ (w.params.followText "set-order" = true ∨ t.led = true)
section
variable {P : Program} {w : World} {h h' : Heap} {a : Addr} {S : Str → Bool} {n : Nat}
theorem SetS.at (R : SetS w h a S n) (k : ∀ o, h.get? a = some o → h'.get? a = some o) : SetS w h' a S n := by
  obtain ⟨o, es, ep, t, ho, r⟩ := R
  exact ⟨o, es, ep, t, k o ho, r⟩
theorem SetS.congr {S' : Str → Bool} (R : SetS w h a S n) (e : ∀ k, S' k = S k) : SetS w h a S' n := by
  have q : S' = S := funext e
  rw [q]; exact R
theorem goodS_elems {l : List (Int × Value)} (g : ∀ e ∈ l, GoodS w e) : ElemsOf (strKind P w) l := fun e he => by
  obtain ⟨k, tk, h1, h2⟩ := g e he
  exact ⟨⟨k, by rw [h1]; exact strKind_is P w k tk, h2⟩, by rw [h1] <;> rfl⟩
theorem goodS_is {e : Int × Value} (g : GoodS w e) (k : Str) : (strKind P w).is k e.2 = true ↔ keyS e = k := by
  obtain ⟨k0, tk, h1, _⟩ := g
  unfold keyS
  rw [h1]
  constructor
  · intro q
    obtain ⟨t, e2⟩ := Value.isStrOf_shape (x := k) (v := Value.str k0 tk) q
    injection e2
  · rintro rfl
    exact strKind_is P w _ tk
theorem goodS_mem {l : List (Int × Value)} (g : ∀ e ∈ l, GoodS w e) (k : Str) : k ∈ l.map keyS ↔ ∃ e ∈ l, (strKind P w).is k e.2 = true := by
  rw [List.mem_map]
  constructor
  · rintro ⟨e, he, q⟩
    exact ⟨e, he, (goodS_is (g e he) k).2 q⟩
  · rintro ⟨e, he, q⟩
    exact ⟨e, he, (goodS_is (g e he) k).1 q⟩
end
section
variable {P : Program} {w : World} {A : Around} {E : Value → Shared → Prop} {s : Shared} {a : Addr} {S : Str → Bool} {n : Nat}
theorem setS_tail {g : Bool → Sem Unit} (hg : ∀ (b : Bool) (s₁ : Shared) (Q' : Unit → Shared → Prop), Q' () s₁ → wpAny (model P w) A (g b) Q' E s₁)
    {o : Obj} {es : Array (Int × Value)} {ep : Nat} {t : SetTable} (ho : s.heap.get? a = some o) (hex : o.ExactSet) (hd : o.data = .set es ep t)
    {es1 : Array (Int × Value)} {t2 : SetTable} {S' : Str → Bool} (g1 : ∀ e ∈ es1.toList, GoodS w e) (nd1 : (es1.toList.map keyS).Nodup) (m1 : ∀ k, S' k = true ↔ k ∈ es1.toList.map keyS)
    (hb1 : es1.size < scanBound) (hf2 : t2.fits es1.size = true) (hr : Ris t2.place.toList) (hl : w.params.followText "set-order" = true ∨ t2.led = true) {wasDummy : Bool} {R : Option Bool → Shared → Prop}
    (hR : ∀ h', Heap.SameBut a s.heap h' → SetS w h' a S' es1.size → R (some true) { s with heap := h' }) :
    wpAny (model P w) A (do
        storeSet a es1 t2
        if (!wasDummy && t2.tooFull) = true then do
            g (relayAll t2 es1 (SetTable.grown es1.size)).2.2
            storeSet a (relayAll t2 es1 (SetTable.grown es1.size)).1 (relayAll t2 es1 (SetTable.grown es1.size)).2.1
            pure (some true)
          else pure (some true)) R E s := by
  refine wpAny_bind (wpAny_storeSet_of ho hd ?_ (fits_of_scanBound hb1))
  have ho1 := store_at (es' := es1) (t' := t2) ho hd
  have sb1 := Heap.SameBut.update s.heap a (Obj.putSet es1 t2)
  split
  · have pm := relayAll_perm t2 es1 (SetTable.grown es1.size)
    have hf3 := relayAll_fits t2 es1 (SetTable.grown es1.size)
    have hr3 := relayAll_ris t2 es1 (SetTable.grown es1.size)
    have hl3 := relayAll_led t2 es1 (SetTable.grown es1.size)
    generalize relayAll t2 es1 (SetTable.grown es1.size) = Z at pm hf3 hr3 hl3 ⊢
    obtain ⟨es2, t3, gave⟩ := Z
    dsimp only at pm hf3 hr3 hl3 ⊢
    have hsz : es2.size = es1.size := by rw [← Array.length_toList, pm.length_eq, Array.length_toList]
    have hb2 : es2.size < scanBound := by rw [hsz]; exact hb1
    refine wpAny_bind (hg _ _ _ ?_)
    refine wpAny_bind (wpAny_storeSet_of ho1 rfl ?_ (fits_of_scanBound hb2))
    have ho2 := store_at (es' := es2) (t' := t3) ho1 rfl
    refine wpAny_pure (hR _ (sb1.trans (Heap.SameBut.update _ a _)) ?_)
    exact ⟨_, es2, _, t3, ho2, hex, rfl, fun e he => g1 e (pm.mem_iff.mp he), (pm.map keyS).nodup_iff.mpr nd1, fun k => (m1 k).trans (pm.map keyS).mem_iff.symm, hb2, hf3, hsz, hr3,
      hl.imp id fun z => by rw [hl3]; exact z⟩
  · exact wpAny_pure (hR _ sb1 ⟨_, es1, _, t2, ho1, hex, rfl, g1, nd1, m1, hb1, hf2, rfl, hr, hl⟩)
theorem setS_add {k : Str} {tk : Tok} {Q : Bool → Shared → Prop} (R : SetS w s.heap a S n) (room : n + 1 < scanBound)
    (hQ : ∀ h', Heap.SameBut a s.heap h' → SetS w h' a (fun j => S j || decide (j = k)) (if S k = true then n else n + 1) → Q (!S k) { s with heap := h' }) :
    wpAny (model P w) A (setAddHashed a (.str k tk) ((strKind P w).hash k)) Q E s := by
  obtain ⟨o, es, ep, t, ho, hex, hd, g, nd, hm, hb, hf, hn, hr, hl⟩ := R
  have hkey : (strKind P w).is k (.str k tk) = true := strKind_is P w k tk
  have hsc : (Value.str k tk).scannable = true := rfl
  have hel : ElemsOf (strKind P w) es.toList := goodS_elems g
  unfold setAddHashed setAddHashedIn
  refine wpAny_holding (wpAny_bind (wpAny_setState_of ho hd hf ?_))
  dsimp only
  rw [byScan_of hsc hb hel]
  simp only [↓reduceIte]
  unfold setAddByScan
  refine wpAny_bind ?_
  refine wpAny_bind (wpAny_rule ?_)
  refine wpAny_bind (wpAny_setScan_of hkey ho hd hf hel ?_)
  cases hfi : List.findIdx? (fun e => (strKind P w).is k e.2) es.toList with
  | some j =>
    dsimp only
    obtain ⟨hj, pj, _⟩ := List.findIdx?_eq_some_iff_getElem.mp hfi
    have hSk : S k = true := (hm k).2 ((goodS_mem (P := P) (w := w) g k).2 ⟨es.toList[j], List.getElem_mem hj, pj⟩)
    refine wpAny_pure (wpAny_pure ?_)
    have q := hQ s.heap (Heap.SameBut.refl a s.heap) ⟨o, es, ep, t, ho, hex, hd, g, nd, fun i => by
      rw [Bool.or_eq_true, decide_eq_true_eq, ← hm i]
      exact ⟨fun z => z.elim id (fun e => e ▸ hSk), .inl⟩, hb, hf, by rw [if_pos hSk]; exact hn, hr, hl⟩
    rw [hSk] at q
    exact q
  | none =>
    dsimp only
    have hnk : k ∉ es.toList.map keyS := fun z => by
      obtain ⟨e, he, q⟩ := (goodS_mem (P := P) (w := w) g k).1 z
      have c := List.findIdx?_eq_none_iff.mp hfi e he
      rw [q] at c
      cases c
    have hSk : S k = false := by
      cases q : S k with
      | false => rfl
      | true => exact absurd ((hm k).1 q) hnk
    have hgw : ∀ (b : Bool) {s₁ : Shared} {Q' : Unit → Shared → Prop}, Q' () s₁ → wpAny (model P w) A (match b with | true => rule "set.scan.the-table-gave-way" | false => pure ()) Q' E s₁ :=
      fun b s₁ Q' q => by cases b <;> first | exact wpAny_pure q | exact wpAny_rule q
    have pm := layNew_perm t es ((strKind P w).hash k) (.str k tk)
    have hf1 := layNew_fits t es ((strKind P w).hash k) (.str k tk)
    have hr1 := layNew_ris t es ((strKind P w).hash k) (.str k tk) hr
    have hl1 := layNew_led t es ((strKind P w).hash k) (.str k tk)
    generalize layNew t es ((strKind P w).hash k) (.str k tk) = Z at pm hf1 hr1 hl1 ⊢
    obtain ⟨es1, t1, wasDummy, gave⟩ := Z
    dsimp only at pm hf1 hr1 hl1 ⊢
    rw [Array.toList_push] at pm
    have pc : es1.toList.Perm (((strKind P w).hash k, Value.str k tk) :: es.toList) := pm.trans (List.perm_append_singleton _ _)
    have pk : (es1.toList.map keyS).Perm (k :: es.toList.map keyS) := pc.map keyS
    have g1 : ∀ e ∈ es1.toList, GoodS w e := fun e he => by
      rcases List.mem_cons.mp (pc.mem_iff.mp he) with z | z
      · rw [z]; exact ⟨k, tk, rfl, rfl⟩
      · exact g e z
    have nd1 : (es1.toList.map keyS).Nodup := pk.nodup_iff.mpr (List.nodup_cons.mpr ⟨hnk, nd⟩)
    have m1 : ∀ i, (S i || decide (i = k)) = true ↔ i ∈ es1.toList.map keyS := fun i => by
      rw [Bool.or_eq_true, decide_eq_true_eq, hm i, pk.mem_iff, List.mem_cons]
      exact Or.comm
    have hsz : es1.size = n + 1 := by rw [← Array.length_toList, pc.length_eq, List.length_cons, Array.length_toList, hn]
    have hb1 : es1.size < scanBound := by rw [hsz]; exact room
    have hled : w.params.followText "set-order" = true ∨ t1.led = true := hl.imp id fun z => by rw [hl1]; exact z
    have fin : ∀ h', Heap.SameBut a s.heap h' → SetS w h' a (fun j => S j || decide (j = k)) es1.size → Q true { s with heap := h' } := fun h' sb r => by
      have q := hQ h' sb
      rw [hSk] at q
      rw [hsz] at r
      exact q r
    refine wpAny_bind (hgw _ ?_)
    split
    · refine wpAny_bind ?_
      rw [hashByValue_scannable 8 hsc]
      refine wpAny_pure ?_
      refine setS_tail ?_ ho hex hd g1 nd1 m1 hb1 ?_ ?_ ?_ ?_
      · intro b s₁ Q' q; cases b <;> first | exact wpAny_pure q | exact wpAny_rule q
      · first | (split <;> first | exact hf1 | exact SetTable.fits_plain_off hf1) | exact hf1
      · first | (split <;> exact hr1) | exact hr1
      · first | (split <;> exact hled) | exact hled
      · intro h' sb r; dsimp only; exact wpAny_pure (fin h' sb r)
    · refine wpAny_bind (wpAny_pure ?_)
      simp only [↓reduceIte]
      refine setS_tail ?_ ho hex hd g1 nd1 m1 hb1 hf1 hr1 hled ?_
      · intro b s₁ Q' q; cases b <;> first | exact wpAny_pure q | exact wpAny_rule q
      · intro h' sb r; dsimp only; exact wpAny_pure (fin h' sb r)
theorem setS_fresh {h : Heap} (w : World) {a : Addr} {ns : List Str} (ho : h.get? a = some { cls := .type "set", dict := none, data := .set #[] 0 (.fresh 0 0 (!w.params.followText "set-order")) }) : SetS w h a (fun j => decide (j ∈ ns.take 0)) 0 :=
  ⟨_, #[], 0, _, ho, ⟨rfl, rfl, rfl⟩, rfl, (fun e he => by simp at he), (by simp), (fun k => by simp), (by decide), (by rfl), rfl, List.Pairwise.nil, by
    show _ ∨ (!w.params.followText "set-order") = true
    cases w.params.followText "set-order"
    · exact .inr rfl
    · exact .inl rfl⟩
theorem setS_update {I : Addr} {fp wr : List Addr} {G : Array GenState → Array GenState → Prop} {n : Nat} {Pv : Nat → Value → Prop} {St : Nat → Shared → Prop} {R : Result → Shared → Prop}
    (W : WalksS P w A.in1 I fp wr G n Pv St) (S : Addr) (hSf : S ∉ fp) (ns : List Str) (hn : n = ns.length) (hb : ns.length + 1 < scanBound) (hval : ∀ i v, Pv i v → ∃ k t, ns[i]? = some k ∧ v = .str k t) :
    ∀ (k i : Nat) (s : Shared), n - i = k → i ≤ n → St i s → (∃ c, c ≤ i ∧ SetS w s.heap S (fun j => decide (j ∈ ns.take i)) c) →
      (∀ s' c, Moved (S :: wr) G s s' → c ≤ n → SetS w s'.heap S (fun j => decide (j ∈ ns)) c → R (.ok (.ret .none)) s') →
      codeAny (model P w) A (.builtin "set.update.loop" ⟨[.ref S, .ref I], []⟩) R s := by
  have hSw : S ∉ wr := fun h => hSf (W.sub _ h)
  have hsub : ∀ b ∈ wr, b ∈ S :: wr := fun b hb => List.mem_cons_of_mem _ hb
  intro k
  induction k with
  | zero =>
    intro i s hk' hi hst ⟨c, hc, hS⟩ hR
    have hin : i = n := by omega
    subst hin
    refine codeAny_builtin F.entry_set_update_loop ?_
    rw [Around.under_plainId F.plain_set_update_loop _]
    show wpAny _ A.in1 (pyNext (.ref I) >>= _) _ _ s
    refine wpAny_bind (W.done s _ _ hst fun s' hm => ?_)
    show wpAny _ A.in1 (ret Value.none) _ _ s'
    have e : ns.take i = ns := List.take_of_length_le (by omega)
    rw [e] at hS
    exact wpAny_pure (hR s' c (hm.mono hsub) hc (hS.at fun o e => hm.heap S o hSw e))
  | succ k ih =>
    intro i s hk' hi hst ⟨c, hc, hS⟩ hR
    have hlt : i < n := by omega
    refine codeAny_builtin F.entry_set_update_loop ?_
    rw [Around.under_plainId F.plain_set_update_loop _]
    show wpAny _ A.in1 (pyNext (.ref I) >>= _) _ _ s
    refine wpAny_bind (W.item i s _ _ hlt hst fun v s' hP hst' hm => ?_)
    obtain ⟨z, t, hz, rfl⟩ := hval i v hP
    have hS' : SetS w s'.heap S (fun j => decide (j ∈ ns.take i)) c := hS.at fun o e => hm.heap S o hSw e
    show wpAny _ A.in1 (holding [Value.str z t] (setAdd S (.str z t)) >>= _) _ _ s'
    refine wpAny_bind (wpAny_holding ?_)
    unfold setAdd
    refine wpAny_holding ?_
    refine wpAny_bind ((strKind P w).pyHash (k := z) (strKind_is _ _ _ _) ?_)
    refine setS_add (s := { s' with toks := s'.toks + 1 }) hS' (by omega) fun h' hsb hS2 => ?_
    have hS3 : SetS w h' S (fun j => decide (j ∈ ns.take (i + 1))) (if decide (z ∈ ns.take i) = true then c else c + 1) := hS2.congr fun j => by
      rw [List.take_add_one, hz]
      simp [List.mem_append]
    have hc3 : (if decide (z ∈ ns.take i) = true then c else c + 1) ≤ i + 1 := by
      split <;> omega
    refine wpAny_pure ⟨plainId_quiet F.plain_set_update_loop _, ih (i + 1) _ (by omega) hlt (W.frame _ s' _ _ hst' (Nat.le_succ _) fun b hb o e => ?_) ⟨_, hc3, hS3⟩ fun s'' c2 hm'' hc'' hS'' => ?_⟩
    · rw [hsb.2 b (fun h : b = S => hSf (by rw [← h]; exact hb))]; exact e
    · refine hR s'' c2 (Moved.trans W.gtrans ((hm.mono hsub).then_heap (Nat.le_succ _) fun b o hb e => ?_) hm'') hc'' hS''
      rw [hsb.2 b (fun h : b = S => hb (by rw [h]; exact List.mem_cons_self))]; exact e
theorem strs_get : ∀ {vs : List Value} {ss : List Str}, StrsAre vs ss → ∀ (i : Nat) (v : Value), vs[i]? = some v → ∃ k t, ss[i]? = some k ∧ v = .str k t
  | _, _, .nil, i, v, h => by simp at h
  | _, _, .cons k t hr, 0, v, h => by simp at h; exact ⟨k, t, rfl, h.symm⟩
  | _, _, .cons k t hr, i + 1, v, h => by
    simp only [List.getElem?_cons_succ] at h
    obtain ⟨k', t', e1, e2⟩ := strs_get hr i v h
    exact ⟨k', t', by simpa using e1, e2⟩
set_option maxHeartbeats 6400000 in
theorem call_setS {l : Addr} {items : Array Value} (ns : List Str) {Q : Value → Shared → Prop} (hh : A.handled = none) (hl : s.heap.IsList l items) (hit : StrsAre items.toList ns) (hb : ns.length + 1 < scanBound)
    (h : ∀ (h' : Heap) (tk c : Nat), SetS w h' s.heap.objs.size (fun j => decide (j ∈ ns)) c → c ≤ ns.length → (∀ b o, s.heap.get? b = some o → h'.get? b = some o) → Q (.ref s.heap.objs.size) { s with heap := h', toks := tk }) :
    wpAny (model P w) A (call (.type "set") [.ref l]) Q E s := by
  have hisz : items.size = ns.length := by
    have q := StrsAre.length hit
    rw [Array.length_toList] at q
    exact q
  obtain ⟨c, tl, hmro⟩ := F.called_set.mro
  have hmade := F.called_set.made
  have hsub := F.called_set.sub
  refine wpAny_call (codeAny_of_tree ?_)
  show wpAny _ _ (callAny (.type "set") _) _ _ _
  refine wpAny_pure ⟨Code.quiet_builtin _ (by decide +kernel), codeAny_builtin F.entry_type_call ?_⟩
  rw [Around.under_plain (weight_type_call_type "set" [.ref l] []) rfl]
  have h1 := F.called_set.notType
  have h2 := F.called_set.canCreate
  have hct := F.typeCall_set_1 (.ref l)
  repeat (any_goals (first | assumption | wp_step))

  refine codeAny_mono (code_set_led1 (.ref l) (E := E) (Q₁ := fun obj s₁ => obj = .ref s.heap.objs.size ∧ s₁ = { s with heap := s.heap.push { cls := .type "set", dict := none, data := .set #[] 0 (.fresh 0 0 (!w.params.followText "set-order")) } }) ⟨rfl, rfl⟩) fun r s₁ hr => ?_
  cases r with
  | error e => exact hr
  | ok fl =>
    cases fl with
    | ret obj =>
      obtain ⟨rfl, rfl⟩ := hr
      have hS : (s.heap.push { cls := .type "set", dict := none, data := .set #[] 0 (.fresh 0 0 (!w.params.followText "set-order")) }).get? s.heap.objs.size = some { cls := .type "set", dict := none, data := .set #[] 0 (.fresh 0 0 (!w.params.followText "set-order")) } := Heap.get?_push_size _ rfl
      have hT : Shared.TypeIs { s with heap := s.heap.push { cls := .type "set", dict := none, data := .set #[] 0 (.fresh 0 0 (!w.params.followText "set-order")) } } (.ref s.heap.objs.size) "set" := ⟨_, hS, rfl⟩
      have hli := F.called_set.init.lookup
      have hbi := F.called_set.init.bind (.ref s.heap.objs.size)
      repeat (any_goals (first | assumption | wp_step))

      refine codeAny_mono (codeAny_call_builtin (R := wants (fun r s₂ => r = .none ∧ ∃ h' tk c, s₂ = { s with heap := h', toks := tk } ∧ SetS w h' s.heap.objs.size (fun j => decide (j ∈ ns)) c ∧ c ≤ ns.length ∧
          (∀ b o, s.heap.get? b = some o → h'.get? b = some o)) E) F.called_set.init.plain F.entry_set_init (check_set_init_1 hT ?_)) fun r₂ s₂ hr₂ => ?_
      · obtain ⟨ol, hol, hcl, nl, hdl⟩ := hl
        obtain ⟨ocls, odict, odata, oslots⟩ := ol
        simp only at hcl hdl
        subst hcl; subst hdl
        have hol' : (s.heap.push { cls := .type "set", dict := none, data := .set #[] 0 (.fresh 0 0 (!w.params.followText "set-order")) }).get? l = some { cls := .type "list", dict := odict, data := .seq items nl, slots := oslots } := Heap.get?_push_of_some _ hol
        have hsls := F.sub_list_set
        have hslf := F.sub_list_frozenset
        have hne : (Value.type "list" == Value.type "dict") = false := by decide
        have hl1 : (s.heap.push { cls := .type "set", dict := none, data := .set #[] 0 (.fresh 0 0 (!w.params.followText "set-order")) }).IsList l items := ⟨_, hol', rfl, nl, rfl⟩
        unfold Builtin.«set.__init__» noKeywords Builtin.Frozenset.updateFrom
        generalize hPI : pyIter = PI
        wp_walk
        subst hPI

        refine wpAny_pyIter_list hl1 ?_
        refine wpAny_bind (wpAny_runValue ?_)
        have hlS : l < s.heap.objs.size := Heap.lt_size hol
        have hh3 : A.in1.in1.in1.handled = none := by simp [hh]
        have hz1 : (s.heap.push { cls := .type "set", dict := none, data := .set #[] 0 (.fresh 0 0 (!w.params.followText "set-order")) }).objs.size = s.heap.objs.size + 1 := Heap.size_push ..
        have hneI : l ≠ (s.heap.push { cls := .type "set", dict := none, data := .set #[] 0 (.fresh 0 0 (!w.params.followText "set-order")) }).objs.size := by
          rw [Heap.size_push]; exact Nat.ne_of_lt (Nat.lt_succ_of_lt hlS)
        have hSf : s.heap.objs.size ∉ [(s.heap.push { cls := .type "set", dict := none, data := .set #[] 0 (.fresh 0 0 (!w.params.followText "set-order")) }).objs.size, l] := by
          rw [Heap.size_push]; simp only [List.mem_cons, List.mem_singleton, List.not_mem_nil, or_false, not_or]
          exact ⟨Nat.ne_of_lt (Nat.lt_succ_self _), Nat.ne_of_gt hlS⟩
        have hval : ∀ (i : Nat) (v : Value), items[i]? = some v → ∃ k t, ns[i]? = some k ∧ v = .str k t := fun i v hv => strs_get hit i v (by rw [Array.getElem?_toList]; exact hv)
        refine setS_update ((Walks.list hh3 _ l hneI items).toS) s.heap.objs.size
          hSf ns hisz hb hval (items.size - 0) 0 _ (by omega) (Nat.zero_le _)
          ⟨⟨_, Heap.get?_push_size _ rfl, rfl, rfl⟩, (hl1.push _)⟩ ?hS0 ?hR
        case hS0 =>
          have hget : ((s.heap.push { cls := .type "set", dict := none, data := .set #[] 0 (.fresh 0 0 (!w.params.followText "set-order")) }).push { cls := .type "list_iterator", data := .fields #[.ref l, .int 0 0] }).get? s.heap.objs.size
              = some { cls := .type "set", dict := none, data := .set #[] 0 (.fresh 0 0 (!w.params.followText "set-order")) } := Heap.get?_push_of_some _ hS
          exact ⟨0, Nat.le_refl 0, setS_fresh w hget⟩
        case hR =>
          intro s' c' hm hc' hS'
          obtain ⟨h', g2, d', tk', os'⟩ := s'
          have eg : g2 = s.gens := hm.gens
          have ed : d' = s.drawn := hm.drawn
          have eo : os' = s.os := hm.os
          subst eg; subst ed; subst eo
          show wpAny _ _ _ _ _ _
          refine wpAny_pure ?_
          show wpAny _ _ (ret Value.none) _ _ _
          rw [hisz] at hc'
          refine wpAny_pure ⟨rfl, h', tk', c', rfl, hS', hc', fun b o e => ?_⟩
          have hb0 : b < s.heap.objs.size := Heap.lt_size e
          have hb1 : b ≠ s.heap.objs.size := Nat.ne_of_lt hb0
          have hb2 : b ≠ (s.heap.push { cls := .type "set", dict := none, data := .set #[] 0 (.fresh 0 0 (!w.params.followText "set-order")) }).objs.size := by
            rw [Heap.size_push]; exact Nat.ne_of_lt (Nat.lt_succ_of_lt hb0)
          exact hm.heap b o (by simp only [List.mem_cons, List.mem_singleton, List.not_mem_nil, or_false, not_or]; exact ⟨hb1, hb2⟩) (Heap.get?_push_of_some _ (Heap.get?_push_of_some _ e))

      · cases r₂ with
        | error e => exact hr₂
        | ok fl₂ =>
          cases fl₂ with
          | ret r =>
            obtain ⟨rfl, h', tk, c', rfl, hS', hc', hk'⟩ := hr₂
            repeat (any_goals (first | assumption | wp_step))
            exact h _ _ _ hS' hc' hk'
          | _ => exact hr₂.elim
    | _ => exact hr.elim
theorem strs_of : ∀ (l : List Value), (∀ v ∈ l, ∃ k tk, v = Value.str k tk) → StrsAre l (l.map fun v => keyS (0, v))
  | [], _ => .nil
  | v :: l, h => by
    obtain ⟨k, tk, rfl⟩ := h v List.mem_cons_self
    exact .cons k tk (strs_of l fun u hu => h u (List.mem_cons_of_mem _ hu))
theorem sorted_setS {S : Str → Bool} {n : Nat} {Q : Value → Shared → Prop} (R : SetS w s.heap a S n) (hh : A.handled = none)
    (hQ : ∀ s' p (out : Array Value) (c : Nat) (ns : List Str), (∀ b o, s.heap.get? b = some o → s'.heap.get? b = some o) → s'.gens = s.gens → s'.os = s.os → s.heap.objs.size ≤ p →
      s'.heap.get? p = some (seqObj "list" out c) → StrsAre out.toList ns → sortedS ns = true → ns.Nodup → (∀ k, k ∈ ns ↔ S k = true) → ns.length = n → ns.length ≤ sizeLine → Q (.ref p) s') :
    wpAny (model P w) A (call (.builtin "sorted") [.ref a]) Q E s := by
  obtain ⟨o, es, ep, t, ho, hex, hd, g, nd, hm, hb, hf, hn, hr, hl⟩ := R
  have hnb : n ≤ sizeLine := by rw [← hn]; exact fits_of_scanBound hb
  refine Calls.call_function_entry kind_sorted plain_sorted entry_sorted (args_sorted1 _) ?_
  unfold Builtin.«sorted»
  refine wpAny_bind (m := checkCount "sorted" 1 1 _) (wpAny_pure ?_)
  refine wpAny_bind (collect_set (A := A.in1) hh ⟨o, ho, hex.1, hd⟩ hf hb hr hl fun s1 vs k1 hz g1 o1 pm => ?_)
  have hvl : vs.length = n := by rw [pm.length_eq, List.length_map, Array.length_toList]; exact hn
  have hI : StrsAre vs (vs.map fun v => keyS (0, v)) := strs_of vs fun v hv => by
    obtain ⟨e, he, q⟩ := List.mem_map.mp (pm.mem_iff.mp hv)
    obtain ⟨k, tk, h1, _⟩ := g e he
    exact ⟨k, tk, by rw [← q]; exact h1⟩
  have pk : (vs.map fun v => keyS (0, v)).Perm (es.toList.map keyS) := by
    have q := pm.map fun v => keyS (0, v)
    rw [List.map_map] at q
    exact q
  refine wpAny_bind (wpAny_newList ?_ (by rw [hvl]; exact hnb))
  have hoL : (s1.heap.push (seqObj "list" vs.toArray 0)).get? s1.heap.objs.size = some (seqObj "list" vs.toArray 0) := Heap.get?_push_size _ rfl
  refine wpAny_bind (wpAny_holding (wpAny_call_entry slot_list_sort ⟨_, hoL, rfl⟩ entry_list_sort (PyProof.Rows.list_sort_treeKAny strKind_oneLt hoL hI.keysOf (fun v₁ v₂ rest e => keyKind_strs (by rw [← e]; exact hI)) (by rw [hvl]; exact hnb) fun st' hp hs => ⟨_, rfl, ?_⟩) (args_list_sort _)))
  obtain ⟨ys, a1, a2, a3⟩ := sorted_out_str hI hp hs
  obtain ⟨c, hc⟩ := sortedHeap_at (vs := vs) (out := (arrOf st').map (·.2)) hoL
  have pn : ys.Perm (es.toList.map keyS) := a2.trans pk
  have hyl : ys.length = n := by rw [pn.length_eq, List.length_map, Array.length_toList]; exact hn
  refine wpAny_pure ⟨_, rfl, hQ _ s1.heap.objs.size _ c ys (fun b u e => ?_) g1 o1 hz hc a1 a3 (pn.nodup_iff.mpr nd) (fun k => by rw [pn.mem_iff, ← hm k]) hyl (by rw [hyl]; exact hnb)⟩
  have q := k1 b u e
  have hlt := Heap.lt_size q
  show (sortedHeap (s1.heap.push (seqObj "list" vs.toArray 0)) s1.heap.objs.size vs _).get? b = some u
  rw [sortedHeap_old (Nat.ne_of_lt hlt) (by rw [size_push']; exact Nat.lt_succ_of_lt hlt)]
  exact Heap.get?_push_of_some _ q
end
/-! ### as rules of the hand layer -/
def SetSO (w : World) (a : Addr) (S : Str → Bool) (n : Nat) : HO := .ext fun h => SetS w h a S n
section
variable {X : Cx}
theorem setSO_new {w : World} {P : Program} {H : Hp} {h : Heap} {a : Addr} {S : Str → Bool} {n : Nat} (R : SetS w h a S n) : ObjOk P w H h a (SetSO w a S n) := by
  have ⟨o, _, _, _, ho, _⟩ := R
  exact ⟨R, ⟨o, ho⟩, fun h1 h2 p k => SetS.at p k⟩
/-- set(xs), xs a list of texts -/
def rSetOfS (K : PySem.W.Frag) (w : World) : List V → Hp → VK → Prop := fun xs H Q => ∃ (l : Addr) (ss : List Str), xs = [V.ref l] ∧ SqL K H l (ss.map V.str) ∧ ss.length < 4000 ∧
  ∀ n a, H a = none → Q (.ref a) (upd H a (SetSO w a (fun z => decide (z ∈ ss)) n))
theorem cr_setOfS (hc : X.calm = true) : CallR X (.type "set") (rSetOfS X.K X.w) := by
  intro pins s σ H xs us Q I r h
  obtain ⟨l, ss, rfl, hs, hb, q⟩ := h
  obtain ⟨its, rv, hl, hz⟩ := I.list hs
  rw [Vals.ref1 r]
  have hb2 : ss.length + 1 < scanBound := by show ss.length + 1 < 4096; omega
  refine call_setS ss (I.ok.hd hc) hl.isList rv.strs hb2 fun h' tk c R hc hk => ?_
  have hn : H s.heap.objs.size = none := I.hok.fresh (Nat.le_refl _)
  exact ⟨.ref _, upd H s.heap.objs.size (SetSO X.w s.heap.objs.size (fun z => decide (z ∈ ss)) c), I.laid (t' := tk) hk (Nat.le_refl _) (setSO_new R), rfl, q c _ hn⟩
/-- sorted(found) -/
def rSortedSS (w : World) : List V → Hp → VK → Prop := fun vs H Q => ∃ (a : Addr) (S : Str → Bool) (n : Nat), vs = [V.ref a] ∧ H a = some (SetSO w a S n) ∧
  ∀ (ys : List Str), sortedS ys = true → ys.Nodup → (∀ z : Str, z ∈ ys ↔ S z = true) → ∀ p, H p = none → Q (.ref p) (upd H p (.lst (ys.map V.str)))
theorem cr_sortedSS (hc : X.calm = true) : CallR X (.builtin "sorted") (rSortedSS X.w) := by
  intro pins s σ H vs us Q I r h
  obtain ⟨a, S, n, rfl, ha, q⟩ := h
  have R : SetS X.w s.heap a S n := (I.hok a _ ha).1
  rw [Vals.ref1 r]
  refine sorted_setS R (I.ok.hd hc) fun s' p out c ns k g o hp hg hi hs nd hm hl hz => ?_
  have hlen : (ns.map V.str).length ≤ sizeLine := by rw [List.length_map]; exact hz
  have hn : H p = none := I.hok.fresh hp
  have J : Inv X pins σ (upd H p (.lst (ns.map V.str))) { s with heap := s'.heap, gens := s'.gens, drawn := s'.drawn, toks := s'.toks } :=
    I.call (ch := []) (Un.laid k hp hn) (I.hok.laid k hp ⟨hlen, out.toList, c, vals_of_strs hi, hg⟩) (by rw [g]; exact I.bare) (fun _ z => nomatch z)
  have e : s' = { s with heap := s'.heap, gens := s'.gens, drawn := s'.drawn, toks := s'.toks } := by
    cases s'
    cases s
    cases o
    rfl
  rw [e]
  exact ⟨.ref p, _, J, rfl, q ns hs nd hm p hn⟩
end
end Gc

namespace Gc
open PySem PySem.Spec PyProof.Rows L2 L2H
/-! ### own exceptions (context None), a def called with the exception that is handled -/
theorem passLN {X : Cx} : Passes (L2N.CX X.prog X.w) X L2.E0 := by
  intro _ _ _ _ _ _ _ h
  obtain ⟨_, _, _, _, _, _, _, _, _, _, _, _, z⟩ := h
  exact z.elim
theorem takesN0 {X : Cx} : L2N.Takes X (fun _ _ _ _ => False) := by
  intro _ _ x
  obtain ⟨_, _, _, _, _, _, _, _, _, _, _, _, _, _, _, _, z⟩ := x
  exact z.elim
section
variable {P : Program} {w : World} {K : PySem.W.Frag} {mg : Str → Option Value} {base : Heap}
/-- a def that may raise -/
theorem okN {x qual : Str} {st : Stmt} {f : Addr} {fd : FuncData} {N ps : List Str} {k : Nat} {sp : Sp} (F : Fun K x qual st f fd) (S : FnScope N ps (defScope st))
    (len : ∀ vs H Q E, sp vs H Q E → vs.length = ps.length)
    (hbody : ∀ (cdv : Value) (A : Around) (outer : List Env) (s : Shared) (H : Hp) (vs : List V) (Q : VK) (E : XK), Room k (A.deeper (envOfC qual (defScope st) s.heap.objs.size f cdv)) → sp vs H Q E →
      ∃ t, PSs (cxOf (L2N.CX P w) P w K mg base N qual (defScope st) f cdv A outer s H E) (defBody st) t ∧ t { nx := fun _ H' => Q .non H', rt := Q } (L2.start N vs) H) :
    FnOk P w K mg base (L2N.CX P w) (k + 1) f fd ps sp := by
  obtain ⟨k1, k2, k3, k4, k5, k6, k7, k8, k9, rfl, lk, hcd⟩ := F.ex
  exact L2.fn_of lk hcd S len (fun A outer s H vs Q E hr q => hbody k7 A outer s H vs Q E hr q)
/-- what a def promises that is called with the exception in hand: a its address, c its class, dx its dict -/
structure FnE (P : Program) (w : World) (K : PySem.W.Frag) (mg : Str → Option Value) (base : Heap) (k : Nat) (f : Addr) (fd : FuncData) (ps : List Str) (sp : Addr → Value → Option Addr → Sp) : Prop where
  len : ∀ a c dx vs H Q E, sp a c dx vs H Q E → vs.length = ps.length
  run : ∀ (A : Around) (outer : List Env) (s : Shared) (H : Hp) (us : List Value) (vs : List V) (Q : VK) (p : Addr × Obj) (c : Value) (dx : Option Addr), RoomH k A → Hot1 A p → Zc c dx p.2 → PinOk outer H s p → Env0 P w K mg base A outer s H →
    BindsTo s fd ⟨us, []⟩ (ps.zip us) → Vals vs us → sp p.1 c dx vs H Q L2.E0 → codeAny (model P w) A (.call (.ref f) ⟨us, []⟩) (CR L2.CX0 outer P w H s Q L2.E0) s
theorem fnE_of {x qual : Str} {st : Stmt} {f : Addr} {fd : FuncData} {N ps : List Str} {k : Nat} {sp : Addr → Value → Option Addr → Sp} (F : Fun K x qual st f fd) (S : FnScope N ps (defScope st))
    (len : ∀ a c dx vs H Q E, sp a c dx vs H Q E → vs.length = ps.length)
    (body : ∀ (cdv : Value) (A : Around) (outer : List Env) (s : Shared) (H : Hp) (vs : List V) (Q : VK) (a : Addr) (oe : Obj) (c : Value) (dx : Option Addr), Hot1 A (a, oe) → Zc c dx oe → RoomH k (A.deeper (envOfC qual (defScope st) s.heap.objs.size f cdv)) → sp a c dx vs H Q L2.E0 →
      ∃ t, PSs (cxH L2.CX0 P w K mg base N qual (defScope st) f cdv A outer s H L2.E0 (a, oe)) (defBody st) t ∧ t { nx := fun _ H' => Q .non H', rt := Q } (L2.start N vs) H) :
    FnE P w K mg base (k + 1) f fd ps sp := by
  obtain ⟨k1, k2, k3, k4, k5, k6, k7, k8, k9, rfl, lk, hcd⟩ := F.ex
  refine ⟨len, ?_⟩
  rintro A outer s H us vs Q ⟨a, oe⟩ c dx hr hot hz hpin e0 hb r hsp
  have hl := len _ _ _ _ _ _ _ hsp
  have kIn : K.In s.heap := e0.mod.kin.keeps (fun b o q => (e0.bs b o q).1)
  have hlim : s.heap.NoLimit := e0.mod.nolimit.keeps (fun b o q => (e0.bs b o q).1)
  have kinds : ∀ y ∈ ps.zip us, (defScope st).names.lookup y.1 = some .local ∨ ((defScope st).names.lookup y.1 = some .cell ∧ ((cellsFrom (s.heap.objs.size + 1) (defScope st).names []).lookup y.1).isSome = true) := by
    rintro ⟨n, v⟩ hy
    exact (S.par n (List.of_mem_zip hy).1).imp id (fun q => ⟨q, PySem.W.cellsFrom_some _ _ _ (.inl q)⟩)
  refine codeAny_call_function hr.depth (kIn _ _ lk) rfl S.co S.gen rfl (PySem.W.codeRec_of kIn hcd) (hb _ _ _ _ (wpAny_newFunctionEnv_cells S.kind kinds (fun env he s1 z => ?_)))
  subst he
  refine ⟨hlim.keeps z.toInCall.keep, codeAny_func ?_⟩
  obtain ⟨t, ht, hq⟩ := body k7 A outer s H vs Q a oe c dx hot hz (hr.deeper _) hsp
  have I := inv_startH (CX := L2.CX0) (E := L2.E0) (f := f) (cd := k7) S hpin e0 hl r z
  refine wpAny_mono (ht.run [] s1 _ H _ I hq) (fun fl s' hs => ?_) (fun _ _ q => q)
  cases fl with
  | ret u =>
    obtain ⟨v, σ', H', J, rv, q⟩ := hs
    exact ⟨v, H', J.os, J.bare, J.base, J.hok, rv, q⟩
  | next =>
    obtain ⟨σ', H', J, q⟩ := hs
    exact ⟨V.non, H', J.os, J.bare, J.base, J.hok, rfl, q⟩
  | brk => exact (let ⟨_, _, _, q⟩ := hs; q.elim)
  | cont => exact (let ⟨_, _, _, q⟩ := hs; q.elim)
end
section
variable {X : Cx} {k : Nat} {f C : Addr} {fd : FuncData} {ps : List Str} {x : Str} {q pos : Pos} {e : Expr} {es : List Expr} {t : TA}
/-- its call, within the suite -/
theorem pe_callE {sp : Addr → Value → Option Addr → Sp} {a : Addr} {oe : Obj} {c : Value} {dx : Option Addr} (F : FnE X.prog X.w X.K X.mg X.base k f fd ps sp) (hr : RoomH k X.A) (hot : Hot1 X.A (a, oe)) (hz : Zc c dx oe) (hp : (a, oe) ∈ X.pn)
    (hg : Gl X x) (hm : X.mg x = some (.ref f)) (hk : PySem.W.keepIn X.K (.ref f) = true) (hb : Binds X.K fd ps []) (ha : PA X (e :: es) t)
    (hdb : (x == ("__debug__" : Str)) = false := by decide) (he : starEach (e :: es) X.env = (false, eval e X.env) :: starEach es X.env := by rfl) (hpl : (backTo pos (starEach es X.env)).any (·.1) = false := by rfl) :
    PE X (.Call (.Name x q) (e :: es) [] pos) (tCallS (sp a c dx) (fun _ => L2.E0) t) := by
  refine ⟨?_⟩
  intro pins s σ H Q I h
  refine wpAny_Call_Name_kw (ld_glob I hg hm (PySem.W.callWith_K (h₀ := X.base) I.ok.mod.kin hk (thn (ha.run pos pins s σ H _ I h) fun us s1 z => ?_) he hpl) hdb)
  obtain ⟨vs, H1, I1, r, hsp⟩ := z
  refine ⟨I1.kIn, ?_⟩
  have hl : us.length = ps.length := r.length.symm.trans (F.len _ _ _ _ _ _ _ hsp)
  have b := hb s1 us I1.kIn (by rw [List.append_nil]; exact hl)
  rw [List.append_nil] at b
  have P1 := I1.pin (a, oe) (List.mem_append_left _ hp)
  have hpin : PinOk X.stack H1 s1 (a, oe) := ⟨P1.1, P1.2.1, fun m => (List.mem_cons.mp (I1.stkSub a m)).elim P1.2.2.1 P1.2.2.2.1, P1.2.2.2.2⟩
  refine wpAny_call (codeAny_mono (F.run X.A X.stack s1 H1 us vs Q (a, oe) c dx hr hot hz hpin I1.env0 b r hsp) fun r' s' hq => ?_)
  cases r' with
  | error e => exact hq.elim
  | ok fl =>
    cases fl with
    | ret u => exact I1.after hq
    | next => exact hq.elim
    | brk => exact hq.elim
    | cont => exact hq.elim
/-- isinstance(e, c), e the exception in hand -/
theorem call_isP {a D : Addr} {oe : Obj} (c : ExcC X.K D) (hp : (a, oe) ∈ X.pn) (hz : Zc (.ref D) none oe) (hf : ∃ vs, oe.data = .fields vs) : CallR X (.builtin "isinstance") (rIsE X.K D a) := by
  obtain ⟨vs, hv⟩ := hf
  intro pins s σ H xs us Q I r h
  obtain ⟨y, cv, b, e, hcv, hk, hq⟩ := h
  subst e
  obtain ⟨u1, r1, e1, z1, rest⟩ : ∃ u1 r1, us = u1 :: r1 ∧ RelV (.ref a) u1 ∧ Vals [y] r1 := by
    cases r with
    | cons rx rr => exact ⟨_, _, rfl, rx, rr⟩
  obtain ⟨u2, e2, z2⟩ : ∃ u2, r1 = [u2] ∧ RelV y u2 := by
    cases rest with
    | cons rx rr => cases rr; exact ⟨_, rfl, rx⟩
  obtain rfl : u1 = Value.ref a := z1
  rw [hcv _ z2] at e2
  subst e2
  subst e1
  have hget := (I.pin (a, oe) (List.mem_append_left _ hp)).1
  have J : PySem.W.InstAt s.heap a oe D none := by
    obtain ⟨oc, od, dd, sl⟩ := oe
    have h1 : oc = .ref D := hz.1
    have h2 : od = none := hz.2
    have h3 : dd = .fields vs := hv
    subst h1 h2 h3
    exact ⟨hget, rfl, rfl, trivial⟩
  exact PySem.W.kia_one (PySem.W.handS_kitx_exc c.hg c.hk c.hs c.hd c.ha c.hn c.ht c.hm) I.kIn J hk (fun z => nomatch z) (fun tk => ⟨.bl b, H, I.kept (t' := tk) (fun _ _ z => z), rfl, hq⟩)
/-- C(a, ..) where __init__ may raise, in a try -/
def tMakeS (C : Addr) (sp : Sp) (E : L2.St → XK) (t : TA) : TE := fun σ H Q => t σ H fun vs H1 => ∀ x dx, H1 x = none → H1 dx = none → dx ≠ x → sp (.ref x :: vs) (upd (upd H1 dx (.own x)) x (.ins C dx [])) (fun v H2 => v = .non ∧ Q (.ref x) H2) (E σ)
theorem pe_makeS {CX : CXT} {E : L2.St → XK} {sp : Sp} (M : Mk X.K C f) (F : FnOk X.prog X.w X.K X.mg X.base CX k f fd ps sp) (hr : Room (k + 1) X.A) (hg : Gl X x) (hm : X.mg x = some (.ref C)) (hb : Binds X.K fd ps []) (hx : ∀ σ, PassesAt CX X σ (E σ))
    (ha : PA X (e :: es) t) (hdb : (x == ("__debug__" : Str)) = false := by decide) (he : starEach (e :: es) X.env = (false, eval e X.env) :: starEach es X.env := by rfl) (hpl : (backTo pos (starEach es X.env)).any (·.1) = false := by rfl) :
    PE X (.Call (.Name x q) (e :: es) [] pos) (tMakeS C sp E t) := by
  refine ⟨?_⟩
  intro pins s σ H Q I h
  refine wpAny_Call_Name_kw (ld_glob I hg hm (PySem.W.callWith_K (h₀ := X.base) I.ok.mod.kin M.kp (thn (ha.run pos pins s σ H _ I h) fun us s1 z => ?_) he hpl) hdb)
  obtain ⟨vs, H1, I1, r, hsp⟩ := z
  refine ⟨I1.kIn, ?_⟩
  have q1 := hsp (s1.heap.objs.size + 1) s1.heap.objs.size (I1.hok.fresh (Nat.le_succ _)) (I1.hok.fresh (Nat.le_refl _)) (Nat.ne_of_lt (Nat.lt_succ_self _))
  have J := Inv.made (C := C) I1
  have rv : Vals (V.ref (s1.heap.objs.size + 1) :: vs) (Value.ref (s1.heap.objs.size + 1) :: us) := .cons rfl r
  have hl : (Value.ref (s1.heap.objs.size + 1) :: us).length = ps.length := rv.length.symm.trans (F.len _ _ _ _ q1)
  have b := hb _ (Value.ref (s1.heap.objs.size + 1) :: us) J.kIn (by rw [List.append_nil]; exact hl)
  rw [List.append_nil] at b
  refine wpAny_call (make_map (f := f) I1.kIn M.makes M.init (beq_iff_eq.mp M.fn) (codeAny_mono (F.run _ X.stack _ _ _ _ _ _ (E σ) (hr.make C us []) (J.env0.make C us []) b rv q1) fun r' s' hq => ?_))
  cases r' with
  | error e => exact hx σ _ _ _ e s' J hq
  | ok fl =>
    cases fl with
    | ret u =>
      obtain ⟨v, H', J2, rv2, ev, q3⟩ := J.after hq
      rw [ev] at rv2
      exact ⟨rv2, ⟨V.ref (s1.heap.objs.size + 1), H', J2, rfl, q3⟩⟩
    | next => exact hq.elim
    | brk => exact hq.elim
    | cont => exact hq.elim
end
/-- o.m(e, ..) within a try: what it raises is wished for at the slots as they stand -/
def tMethS (C : Addr) (m : Str) (sp : Sp) (E : L2.St → XK) (ta : TE) (t : TA) : TE := fun σ H Q => ta σ H fun x H1 => ∃ a dx fs, x = .ref a ∧ H1 a = some (.ins C dx fs) ∧ fs.lookup m = none ∧ t σ H1 fun vs H2 => sp (x :: vs) H2 Q (E σ)
theorem pe_methS {X : Cx} {CX : CXT} {k : Nat} {f C : Addr} {fd : FuncData} {ps : List Str} {sp : Sp} {E : L2.St → XK} {m : Str} {pos apos : Pos} {e o : Expr} {es : List Expr} {ta : TE} {t : TA} {pl : Sem Bool} (he : PE X o ta) (c : Cls X.K C) (hm : Meth X.K C m f)
    (F : FnOk X.prog X.w X.K X.mg X.base CX k f fd ps sp) (hr : Room k X.A) (hb : Binds X.K fd ps []) (hx : ∀ σ, PassesAt CX X σ (E σ)) (ha : PA X (e :: es) t)
    (hst : starEach (e :: es) X.env = (false, eval e X.env) :: starEach es X.env := by rfl) (hpl : (backTo pos (starEach es X.env)).any (·.1) = false := by rfl)
    (ht : eval (.Call (.Attribute o m apos) (e :: es) [] pos) X.env = (do
      let ov ← eval o X.env
      standAt apos.atName
      let (f, first) ← holding [ov] (getMethod ov m pl)
      callWith pos f first (backTo pos (starEach (e :: es) X.env)) (backToKw pos (keywordEach [] X.env))) := by rfl) :
    PE X (.Call (.Attribute o m apos) (e :: es) [] pos) (tMethS C m sp E ta t) := by
  refine ⟨fun pins s σ H Q I h => ?_⟩
  refine PySem.W.methodCall_KW (pl := pl) (thn (he.run pins s σ H _ I h) fun u s1 ⟨x, H1, I1, rx, a, dx, fs, ex, ea, l, q⟩ => ?_) ht
  subst ex
  obtain rfl : u = Value.ref a := rx
  refine getmeth_ok I1 ea c hm l ?_
  refine PySem.W.callWith_K (first := [.ref a]) (h₀ := X.base) I.ok.mod.kin hm.kp (thn (ha.run pos pins s1 σ H1 _ I1 q) fun us s2 ⟨vs, H2, I2, r, q2⟩ => ⟨I2.kIn, ?_⟩) hst hpl
  exact run_fnS (us := .ref a :: us) (vs := .ref a :: vs) F hr hb (hx σ) I2 (.cons rfl r) q2
/-- the suite's room and exception -/
theorem roomMark {k j : Nat} {A : Around} {v : Option Value} (hr : Room j A) (h : k ≤ j) : RoomH k (A.mark v) := ⟨(hr.mono h).dp, (hr.mono h).un⟩
theorem hotMark {A : Around} {a : Addr} {oe : Obj} {c : Value} {dx : Option Addr} (hz : L2N.Zn c dx oe) (hf : ∃ vs, oe.data = .fields vs) : Hot1 (A.mark (some (.ref a))) (a, oe) := by
  obtain ⟨vs, hv⟩ := hf
  exact ⟨rfl, vs, hv, hz.2.2 vs hv⟩
end Gc

namespace Gc
open PySem L2 Evl
/-! ### what may be read stays: locks come and go, new things come -/
def Er (H H' : Hp) : Prop := ∀ a o, H a = some o → H' a = some o ∨ ∃ kvs : List (Key × V), (o = .dK kvs ∨ ∃ od, o = .frz od (.dK kvs)) ∧ Rd H' a (.dK kvs)
theorem Er.refl (H : Hp) : Er H H := fun _ _ h => .inl h
theorem Er.of {H H' : Hp} (e : Ex H H') : Er H H' := fun a o h => .inl (e a o h)
theorem Er.rd {H H' : Hp} (e : Er H H') {a : Addr} {kvs : List (Key × V)} (h : Rd H a (.dK kvs)) : Rd H' a (.dK kvs) := by
  rcases h with h | ⟨od, h⟩
  · rcases e a _ h with q | ⟨kk, q1, q2⟩
    · exact .inl q
    · rcases q1 with q1 | ⟨_, q1⟩
      · cases q1; exact q2
      · cases q1
  · rcases e a _ h with q | ⟨kk, q1, q2⟩
    · exact .inr ⟨_, q⟩
    · rcases q1 with q1 | ⟨_, q1⟩
      · cases q1
      · cases q1; exact q2
theorem Er.trans {H H1 H2 : Hp} (e : Er H H1) (f : Er H1 H2) : Er H H2 := fun a o h => by
  rcases e a o h with q | ⟨kvs, q1, q2⟩
  · exact f a o q
  · exact .inr ⟨kvs, q1, f.rd q2⟩
theorem Er.tup {H H' : Hp} (e : Er H H') {a : Addr} {xs : List V} (h : H a = some (.tup xs)) : H' a = some (.tup xs) := by
  rcases e a _ h with q | ⟨kk, q1, q2⟩
  · exact q
  · rcases q1 with q1 | ⟨_, q1⟩ <;> cases q1
theorem Er.lst {H H' : Hp} (e : Er H H') {a : Addr} {xs : List V} (h : H a = some (.lst xs)) : H' a = some (.lst xs) := by
  rcases e a _ h with q | ⟨kk, q1, q2⟩
  · exact q
  · rcases q1 with q1 | ⟨_, q1⟩ <;> cases q1
theorem Er.ftup {H H' : Hp} (e : Er H H') {a : Addr} {od} {xs : List V} (h : H a = some (.frz od (.tup xs))) : H' a = some (.frz od (.tup xs)) := by
  rcases e a _ h with q | ⟨kk, q1, q2⟩
  · exact q
  · rcases q1 with q1 | ⟨_, q1⟩ <;> cases q1
theorem Er.flst {H H' : Hp} (e : Er H H') {a : Addr} {od} {xs : List V} (h : H a = some (.frz od (.lst xs))) : H' a = some (.frz od (.lst xs)) := by
  rcases e a _ h with q | ⟨kk, q1, q2⟩
  · exact q
  · rcases q1 with q1 | ⟨_, q1⟩ <;> cases q1
theorem Er.sqT {K : PySem.W.Frag} {H H' : Hp} (e : Er H H') {a : Addr} {xs : List V} (h : SqT K H a xs) : SqT K H' a xs := by
  rcases h with (h | ⟨o, h⟩) | h
  · exact .inl (.inl (e.tup h))
  · exact .inl (.inr ⟨o, e.ftup h⟩)
  · exact .inr h
theorem Er.sqL {K : PySem.W.Frag} {H H' : Hp} (e : Er H H') {a : Addr} {xs : List V} (h : SqL K H a xs) : SqL K H' a xs := by
  rcases h with (h | ⟨o, h⟩) | h
  · exact .inl (.inl (e.lst h))
  · exact .inl (.inr ⟨o, e.flst h⟩)
  · exact .inr h
theorem Er.lock {H : Hp} {d : Addr} {od : Obj} {kvs : List (Key × V)} (h : H d = some (.dK kvs)) : Er H (upd H d (.frz od (.dK kvs))) := fun a o q => by
  by_cases e : a = d
  · subst e
    rw [h] at q
    cases q
    exact .inr ⟨kvs, .inl rfl, .inr ⟨od, upd_same⟩⟩
  · exact .inl (by rw [upd_ne e]; exact q)
theorem Er.unlock {H : Hp} {d : Addr} {od : Obj} {kvs : List (Key × V)} (h : H d = some (.frz od (.dK kvs))) : Er H (upd H d (.dK kvs)) := fun a o q => by
  by_cases e : a = d
  · subst e
    rw [h] at q
    cases q
    exact .inr ⟨kvs, .inr ⟨od, rfl⟩, .inl upd_same⟩
  · exact .inl (by rw [upd_ne e]; exact q)
theorem lock_ex {H H' : Hp} {d : Addr} {od : Obj} {u : HO} (e : Ex (upd H d (.frz od u)) H') (h : H d = some u) : Ex H (upd H' d u) := fun a o q => by
  by_cases c : a = d
  · subst c
    rw [h] at q
    cases q
    exact upd_same
  · rw [upd_ne c]
    exact e a o (by rw [upd_ne c]; exact q)
/-- behind a loop over a dict that only made new things -/
theorem unl {H H' : Hp} {d : Addr} {od : Obj} {u : HO} {R : Hp → Prop} (hd : H d = some u) (e : Ex (upd H d (.frz od u)) H') (h : ∀ H2, Ex H H2 → R H2) : H' d = some (.frz od u) ∧ R (upd H' d u) :=
  ⟨e d _ upd_same, h _ (lock_ex e hd)⟩
/-- x's type, whatever it is -/
theorem Er.ty {K : PySem.W.Frag} {H H' : Hp} {x : V} {t : Value} (e : Er H H') (h : TyX K H x t) : TyX K H' x t := by
  cases h with
  | base b =>
    cases b with
    | non => exact .base .non
    | bl y => exact .base (.bl y)
    | int y => exact .base (.int y)
    | str y => exact .base (.str y)
    | flt y => exact .base (.flt y)
    | lst q => exact .base (.lst (e.lst q))
    | @frz a ob xs q => exact .base (.frz (e.flst q))
    | tup q => exact .base (.tup (e.tup q))
    | dK q => exact tyx_d (e.rd (.inl q))
    | dT q =>
      rcases e _ _ q with q | ⟨kk, q1, q2⟩
      · exact .base (.dT q)
      · rcases q1 with q1 | ⟨_, q1⟩ <;> cases q1
    | ins q c a n k m =>
      rcases e _ _ q with q | ⟨kk, q1, q2⟩
      · exact .base (.ins q c a n k m)
      · rcases q1 with q1 | ⟨_, q1⟩ <;> cases q1
  | byt b => exact .byt b
  | set q =>
    rcases e _ _ q with q | ⟨kk, q1, q2⟩
    · exact .set q
    · rcases q1 with q1 | ⟨_, q1⟩ <;> cases q1
  | kList q c => exact .kList q c
  | kTuple q c => exact .kTuple q c
  | kDict q c => exact .kDict q c
  | fTuple q => exact .fTuple (e.ftup q)
  | fDict q => exact tyx_d (e.rd (.inr ⟨_, q⟩))
theorem Er.whole {K : PySem.W.Frag} {H H' : Hp} {x : V} {b : Bool} (e : Er H H') (h : WholeJ K H x b) : WholeJ K H' x b := by
  obtain ⟨t, b1, b2, h1, h2⟩ := h
  exact ⟨t, b1, b2, e.ty h1, h2⟩
/-- len of a dict, locked or not -/
theorem call_lenDR {X : Cx} : CallR X (.builtin "len") (fun xs H Q => ∃ a kvs, xs = [V.ref a] ∧ Rd H a (.dK kvs) ∧ Q (.int (kvs : List (Key × V)).length) H) := by
  intro pins s σ H xs us Q I r h
  obtain ⟨a, kvs, rfl, ha, q⟩ := h
  obtain ⟨u, rfl, ru⟩ := vals1 r
  cases ru
  exact d_len I ha fun t s' I' => ⟨.int kvs.length, H, I', ⟨t, rfl⟩, q⟩
/-- d[k] of a dict by keys, locked or not -/
theorem dget_k {H : Hp} {a : Addr} {kvs : List (Key × V)} {k : Key} {v : V} (e : Rd H a (.dK kvs)) (h : valV kvs k = some v) : DGet H a (kV k) (some v) := .inl ⟨kvs, k, e, rfl, h.symm⟩
theorem dget_o {H : Hp} {a : Addr} {kvs : List (Key × V)} (k : Key) (e : Rd H a (.dK kvs)) : DGet H a (kV k) (valV kvs k) := .inl ⟨kvs, k, e, rfl, rfl⟩
/-! ### pages that are built by putting -/
def putAll (ps : List (Key × V)) : List (Key × V) := ps.foldl (fun acc p => putK acc p.1 p.2) []
theorem putAll_snoc (ps : List (Key × V)) (p : Key × V) : putAll (ps ++ [p]) = putK (putAll ps) p.1 p.2 := by unfold putAll; rw [List.foldl_append]; rfl
theorem nd_put {κ : Type} [DecidableEq κ] {kvs : List (κ × V)} {k : κ} (v : V) (hn : (kvs.map (·.1)).Nodup) : ((putK kvs k v).map (·.1)).Nodup := by
  unfold putK
  split
  · rw [List.map_map]
    have e : ((fun x : κ × V => x.1) ∘ fun kv : κ × V => if kv.1 = k then (kv.1, v) else kv) = fun x => x.1 := by
      funext x
      show (if x.1 = k then (x.1, v) else x).1 = x.1
      split <;> rfl
    rw [e]
    exact hn
  · rename_i h
    have : valV kvs k = none := by
      have q := valV_any k kvs
      cases z : valV kvs k with
      | none => rfl
      | some y => rw [z] at q; exact absurd q h
    have q := nd_putK v hn this
    unfold putK at q
    rw [if_neg h] at q
    exact q
theorem snoc_ind {α : Type} {P : List α → Prop} (h0 : P []) (h1 : ∀ l a, P l → P (l ++ [a])) : ∀ l, P l := by
  intro l
  have : ∀ n (l : List α), l.length = n → P l := by
    intro n
    induction n with
    | zero => intro l e; rw [List.eq_nil_of_length_eq_zero e]; exact h0
    | succ n ih =>
      intro l e
      have hl : l ≠ [] := by intro z; rw [z] at e; cases e
      rw [← List.dropLast_concat_getLast hl]
      exact h1 _ _ (ih _ (by rw [List.length_dropLast]; omega))
  exact this _ l rfl
theorem putAll_nd : ∀ ps : List (Key × V), ((putAll ps).map (·.1)).Nodup := by
  refine snoc_ind List.nodup_nil (fun l a h => ?_)
  rw [putAll_snoc]
  exact nd_put _ h
theorem putAll_len : ∀ ps : List (Key × V), (putAll ps).length ≤ ps.length := by
  refine snoc_ind (Nat.le_refl _) (fun l a h => ?_)
  rw [putAll_snoc, List.length_append]
  have := length_putK (putAll l) a.1 a.2
  show _ ≤ l.length + 1
  omega
theorem putAll_eq : ∀ ps : List (Key × V), (putAll ps).length = ps.length → putAll ps = ps := by
  refine snoc_ind (fun _ => rfl) (fun l a h hl => ?_)
  rw [putAll_snoc] at hl ⊢
  rw [List.length_append] at hl
  have h1 := length_putK (putAll l) a.1 a.2
  have h2 := putAll_len l
  have hl' : (putK (putAll l) a.1 a.2).length = l.length + 1 := hl
  have e := h (by omega)
  rw [e] at hl' ⊢
  unfold putK at hl' ⊢
  split
  · rename_i c
    rw [if_pos c, List.length_map] at hl'
    omega
  · rfl
theorem valV_mem {κ : Type} [DecidableEq κ] {kvs : List (κ × V)} {k : κ} {v : V} (h : valV kvs k = some v) : (k, v) ∈ kvs := by
  unfold valV at h
  cases z : kvs.find? fun kv => decide (kv.1 = k) with
  | none => rw [z] at h; cases h
  | some p =>
    rw [z] at h
    have e1 : p.2 = v := by simpa using h
    have e2 : p.1 = k := of_decide_eq_true (List.find?_some (p := fun kv : κ × V => decide (kv.1 = k)) z)
    rw [← e1, ← e2]
    exact List.mem_of_find?_eq_some z
theorem valV_some {κ : Type} [DecidableEq κ] {kvs : List (κ × V)} {p : κ × V} (h : p ∈ kvs) : ∃ v, valV kvs p.1 = some v := by
  have q := valV_any p.1 kvs
  have : (kvs.any fun kv => decide (kv.1 = p.1)) = true := List.any_eq_true.mpr ⟨p, h, decide_eq_true rfl⟩
  rw [this] at q
  cases z : valV kvs p.1 with
  | none => rw [z] at q; cases q
  | some v => exact ⟨v, rfl⟩
theorem rd_fz {H : Hp} {a : Addr} {o : Obj} {u : HO} (h : H a = some (.frz o u)) : Rd H a u := .inr ⟨o, h⟩
theorem isD_of {H : Hp} {a : Addr} {kvs : List (Key × V)} (h : Rd H a (.dK kvs)) : IsD H a := .inl ⟨kvs, h⟩
/-- a for whose body neither returns nor breaks: its goal is small -/
theorem for_go {J : It} {n : Nat} {G : Hp → Prop} {Y : Nat → Hp → V → Hp → Prop} (w : Walk J n G Y) {g : TG} {tb : TS} {D : Ends} {σ : L2.St} {H : Hp} (Pv : Nat → L2.St → Hp → Prop) (h0 : Pv 0 σ H) (hG : ∀ i σ H, i ≤ n → Pv i σ H → G H)
    (hs : ∀ (R : VK) (B : L2.St → Hp → Prop) i x σ H H', i < n → Pv i σ H → Y i H x H' → g x σ H' fun σ2 H2 => tb ⟨Pv (i + 1), R, B, Pv (i + 1)⟩ σ2 H2) (hd : ∀ σ H, Pv n σ H → D.nx σ H) :
    ∃ W : Nat → Nat → L2.St → Hp → Prop, (∃ m, W 0 m σ H) ∧ ∀ i m σ H, W i m σ H →
      (J.stop i H ∧ D.nx σ H) ∨ (J.go i H ∧ ∃ N : L2.St → Hp → Prop, (∀ σ' H', N σ' H' → ∃ m', m' < m ∧ W (i + 1) m' σ' H') ∧ ∀ x H', J.yld i H x H' → g x σ H' fun σ2 H2 => tb { D with nx := N, ct := N, bk := D.nx } σ2 H2) :=
  for_it w Pv h0 hG (fun i x σ H H' hi hp hy => hs D.rt D.nx i x σ H H' hi hp hy) hd
/-- a cut whose first statement neither returns nor breaks -/
theorem cut_go {t u : TS} {D : Ends} {σ : L2.St} {H : Hp} (Mid : L2.St → Hp → Prop) (h : ∀ (R : VK) (B E : L2.St → Hp → Prop), t ⟨Mid, R, B, E⟩ σ H) (h2 : ∀ σ' H', Mid σ' H' → u D σ' H') : C8.tCut t u D σ H := ⟨Mid, h D.rt D.bk D.ct, h2⟩
theorem er_mut {H H' : Hp} {p : Addr} {o : HO} (e : Er H H') (hp : H p = none) : Er H (upd H' p o) := fun a u q => by
  have c : a ≠ p := fun z => by rw [z, hp] at q; cases q
  rcases e a u q with z | ⟨kk, q1, q2⟩
  · exact .inl (by rw [upd_ne c]; exact z)
  · exact .inr ⟨kk, q1, q2.elim (fun z => .inl (by rw [upd_ne c]; exact z)) (fun ⟨od, z⟩ => .inr ⟨od, by rw [upd_ne c]; exact z⟩)⟩
/-- a statement with the rest of the program behind a name -/
theorem op_go {t u : TS} {D : Ends} {σ : L2.St} {H : Hp} (h : ∀ (N : L2.St → Hp → Prop) (R : VK) (B E : L2.St → Hp → Prop), (∀ σ' H', u D σ' H' → N σ' H') → (∀ v H', D.rt v H' → R v H') → t ⟨N, R, B, E⟩ σ H) : C8.tCut t u D σ H := ⟨u D, h _ D.rt D.bk D.ct (fun _ _ q => q) (fun _ _ q => q), fun _ _ q => q⟩
/-- the last statement -/
theorem end_go {t : TS} {D : Ends} {σ : L2.St} {H : Hp} (h : ∀ (N : L2.St → Hp → Prop) (R : VK) (B E : L2.St → Hp → Prop), (∀ σ' H', D.nx σ' H' → N σ' H') → (∀ v H', D.rt v H' → R v H') → t ⟨N, R, B, E⟩ σ H) : t D σ H := h _ _ D.bk D.ct (fun _ _ q => q) (fun _ _ q => q)
/-- types and tuples stay -/
structure Et (K : PySem.W.Frag) (H H' : Hp) : Prop where
  tp : ∀ a xs, SqT K H a xs → SqT K H' a xs
  ty : ∀ x t, TyX K H x t → TyX K H' x t
theorem Et.refl {K : PySem.W.Frag} (H : Hp) : Et K H H := ⟨fun _ _ h => h, fun _ _ h => h⟩
theorem Et.trans {K : PySem.W.Frag} {H H1 H2 : Hp} (e : Et K H H1) (f : Et K H1 H2) : Et K H H2 := ⟨fun a xs h => f.tp a xs (e.tp a xs h), fun x t h => f.ty x t (e.ty x t h)⟩
theorem Er.et {K : PySem.W.Frag} {H H' : Hp} (e : Er H H') : Et K H H' := ⟨fun _ _ h => e.sqT h, fun _ _ h => e.ty h⟩
theorem Et.of {K : PySem.W.Frag} {H H' : Hp} (e : Ex H H') : Et K H H' := (Er.of e).et
theorem Et.whole {K : PySem.W.Frag} {H H' : Hp} {x : V} {b : Bool} (e : Et K H H') (h : WholeJ K H x b) : WholeJ K H' x b := by
  obtain ⟨t, b1, b2, h1, h2⟩ := h
  exact ⟨t, b1, b2, e.ty _ _ h1, h2⟩
theorem et_mut {K : PySem.W.Frag} {H : Hp} {p : Addr} {o o' : HO} (h : H p = some o) (hk : (∃ xs ys, o = .lst xs ∧ o' = .lst ys) ∨ ∃ xs ys : List (Key × V), o = .dK xs ∧ o' = .dK ys) : Et K H (upd H p o') := by
  have nt : ∀ a xs, H a = some (.tup xs) → a ≠ p := fun a xs q z => by
    subst z
    rw [h] at q
    rcases hk with ⟨_, _, rfl, _⟩ | ⟨_, _, rfl, _⟩ <;> cases q
  have nf : ∀ a od u, H a = some (.frz od u) → a ≠ p := fun a od xs q z => by
    subst z
    rw [h] at q
    rcases hk with ⟨_, _, rfl, _⟩ | ⟨_, _, rfl, _⟩ <;> cases q
  refine ⟨fun a xs q => ?_, fun x t q => ?_⟩
  · rcases q with (q | ⟨od, q⟩) | q
    · exact .inl (.inl (by rw [upd_ne (nt _ _ q)]; exact q))
    · exact .inl (.inr ⟨od, by rw [upd_ne (nf _ _ _ q)]; exact q⟩)
    · exact .inr q
  · cases q with
    | base b =>
      cases b with
      | non => exact .base .non
      | bl y => exact .base (.bl y)
      | int y => exact .base (.int y)
      | str y => exact .base (.str y)
      | flt y => exact .base (.flt y)
      | @lst a xs q =>
        by_cases c : a = p
        · subst c
          rw [h] at q
          rcases hk with ⟨_, _, rfl, rfl⟩ | ⟨_, _, rfl, _⟩
          · exact .base (.lst upd_same)
          · cases q
        · exact .base (.lst (by rw [upd_ne c]; exact q))
      | frz q => exact .base (.frz (by rw [upd_ne (nf _ _ _ q)]; exact q))
      | tup q => exact .base (.tup (by rw [upd_ne (nt _ _ q)]; exact q))
      | @dK a xs q =>
        by_cases c : a = p
        · subst c
          rw [h] at q
          rcases hk with ⟨_, _, rfl, rfl⟩ | ⟨_, _, rfl, rfl⟩
          · cases q
          · exact .base (.dK upd_same)
        · exact .base (.dK (by rw [upd_ne c]; exact q))
      | @dT a xs q =>
        have c : a ≠ p := fun c => by subst c; rw [h] at q; rcases hk with ⟨_, _, rfl, _⟩ | ⟨_, _, rfl, _⟩ <;> cases q
        exact .base (.dT (by rw [upd_ne c]; exact q))
      | @ins a C dx fs q c1 a1 n1 k1 m1 =>
        have c : a ≠ p := fun c => by subst c; rw [h] at q; rcases hk with ⟨_, _, rfl, _⟩ | ⟨_, _, rfl, _⟩ <;> cases q
        exact .base (.ins (by rw [upd_ne c]; exact q) c1 a1 n1 k1 m1)
    | byt b => exact .byt b
    | @set a S n q =>
      have c : a ≠ p := fun c => by subst c; rw [h] at q; rcases hk with ⟨_, _, rfl, _⟩ | ⟨_, _, rfl, _⟩ <;> cases q
      exact .set (by rw [upd_ne c]; exact q)
    | kList q c => exact .kList q c
    | kTuple q c => exact .kTuple q c
    | kDict q c => exact .kDict q c
    | fTuple q => exact .fTuple (by rw [upd_ne (nf _ _ _ q)]; exact q)
    | fDict q => exact .fDict (by rw [upd_ne (nf _ _ _ q)]; exact q)
theorem Et.lst {K : PySem.W.Frag} {H : Hp} {p : Addr} {xs ys : List V} (h : H p = some (.lst xs)) : Et K H (upd H p (.lst ys)) := et_mut h (.inl ⟨_, _, rfl, rfl⟩)
theorem Et.dK {K : PySem.W.Frag} {H : Hp} {p : Addr} {xs ys : List (Key × V)} (h : H p = some (.dK xs)) : Et K H (upd H p (.dK ys)) := et_mut h (.inr ⟨_, _, rfl, rfl⟩)
/-- a loop over a dict -/
theorem lock_go {t : TS} {D : Ends} {σ : L2.St} {H : Hp} {d : Addr} {kvs : List (Key × V)} (hd : H d = some (.dK kvs))
    (h : ∀ od H1, H1 d = some (.frz od (.dK kvs)) → Er H H1 → (∀ H', Ex H1 H' → Ex H (upd H' d (.dK kvs))) → (∀ a, a ≠ d → H1 a = H a) →
      t ⟨fun σ' H' => H' d = some (.frz od (.dK kvs)) ∧ D.nx σ' (upd H' d (.dK kvs)), fun v H' => H' d = some (.frz od (.dK kvs)) ∧ D.rt v (upd H' d (.dK kvs)), fun σ' H' => H' d = some (.frz od (.dK kvs)) ∧ D.bk σ' (upd H' d (.dK kvs)), fun σ' H' => H' d = some (.frz od (.dK kvs)) ∧ D.ct σ' (upd H' d (.dK kvs))⟩ σ H1) :
    tLock t D σ H := ⟨d, _, hd, trivial, fun od => h od _ upd_same (Er.lock hd) (fun H' e => lock_ex e hd) (fun a c => upd_ne c)⟩
end Gc
/- reading facts along Ex and Er -/
local macro_rules | `(tactic| walk_at "gc_er") => `(tactic| first
  | assumption
  | exact Gc.Er.refl _
  | exact Gc.Er.of (by assumption)
  | (refine' Gc.Er.trans ?h (by assumption); (case h => walk_at "gc_er"))
  | (refine' Gc.Er.trans ?h (Gc.Er.of (by assumption)); (case h => walk_at "gc_er")))
local macro_rules | `(tactic| walk_at "gc_ra") => `(tactic| first
  | assumption
  | exact Evl.st_of (by assumption)
  | exact Evl.sq_of (by assumption)
  | exact L2.Rd.of (by assumption)
  | exact Gc.rd_fz (by assumption)
  | (refine' Gc.Er.sqT (by assumption) ?h; (case h => walk_at "gc_ra"))
  | (refine' Gc.Er.sqL (by assumption) ?h; (case h => walk_at "gc_ra"))
  | (refine' Gc.Er.rd (by assumption) ?h; (case h => walk_at "gc_ra"))
  | (refine' Gc.Er.sqT (Gc.Er.of (by assumption)) ?h; (case h => walk_at "gc_ra"))
  | (refine' Gc.Er.sqL (Gc.Er.of (by assumption)) ?h; (case h => walk_at "gc_ra"))
  | (refine' Gc.Er.rd (Gc.Er.of (by assumption)) ?h; (case h => walk_at "gc_ra")))
local macro_rules | `(tactic| walk_at "gc_et") => `(tactic| first
  | assumption
  | exact Gc.Et.refl _
  | exact Gc.Et.of (by assumption)
  | exact Gc.Er.et (by assumption)
  | exact Gc.Et.lst (by assumption)
  | exact Gc.Et.dK (by assumption)
  | (refine' Gc.Et.trans ?h (by assumption); (case h => walk_at "gc_et"))
  | (refine' Gc.Et.trans ?h (Gc.Et.of (by assumption)); (case h => walk_at "gc_et"))
  | (refine' Gc.Et.trans ?h (Gc.Er.et (by assumption)); (case h => walk_at "gc_et")))

namespace Gc
open PySem L2 Evl
def LIM : Int := 10 ^ 60
inductive NumJ (K : PySem.W.Frag) (H : Hp) : V → Option Int → Prop
  | int (i : Int) : NumJ K H (.int i) (some i)
  | odd {x : V} (h : WholeJ K H x false) : NumJ K H x none
def goodN : Option Int → Bool
  | some i => decide (0 ≤ i) && decide (i < LIM)
  | none => false
def pairB : Option Int → Option Int → Bool
  | some i, some j => goodN (some i) && (goodN (some j) && decide (0 < i + j))
  | _, _ => false
theorem NumJ.et {K : PySem.W.Frag} {H H' : Hp} (e : Et K H H') {x : V} {o : Option Int} (h : NumJ K H x o) : NumJ K H' x o := by
  cases h with
  | int i => exact .int i
  | odd h => exact .odd (e.whole h)
/-- what is_share answers of v -/
inductive ShJ (K : PySem.W.Frag) (H : Hp) : V → Bool → Prop
  | int (i : Int) : ShJ K H (.int i) false
  | oth {a : Addr} {t : String} (h : TyX K H (.ref a) (.type t)) (k : PySem.W.kitOne K (.type t) (.type "tuple") = some false) : ShJ K H (.ref a) false
  | len {a : Addr} {xs : List V} (h : SqT K H a xs) (n : ¬ xs.length = 2) : ShJ K H (.ref a) false
  | two {a : Addr} {x y : V} {o p : Option Int} (h : SqT K H a [x, y]) (hx : NumJ K H x o) (hy : NumJ K H y p) : ShJ K H (.ref a) (pairB o p)
theorem ShJ.et {K : PySem.W.Frag} {H H' : Hp} (e : Et K H H') {v : V} {b : Bool} (h : ShJ K H v b) : ShJ K H' v b := by
  cases h with
  | int i => exact .int i
  | oth h k => exact .oth (e.ty _ _ h) k
  | len h n => exact .len (e.tp _ _ h) n
  | two h hx hy => exact .two (e.tp _ _ h) (hx.et e) (hy.et e)
theorem ShJ.odd {K : PySem.W.Frag} {H : Hp} {a : Addr} {x y : V} {o p : Option Int} (h : SqT K H a [x, y]) (hx : NumJ K H x o) (hy : NumJ K H y p) (e : pairB o p = false) : ShJ K H (.ref a) false := e ▸ .two h hx hy
theorem ShJ.eqj {K : PySem.W.Frag} {H : Hp} {v : V} {b : Bool} (h : ShJ K H v b) : EqJ K H v v true := by
  cases h with
  | int i => exact .inr ⟨.int i, .int i, .int i, .int i, rfl, rfl, by simp [PyData.eqv]⟩
  | oth h k => exact .inl ⟨_, rfl, rfl, rfl⟩
  | len h n => exact .inl ⟨_, rfl, rfl, rfl⟩
  | two h hx hy => exact .inl ⟨_, rfl, rfl, rfl⟩
/-- keys -/
def keyB : Key → Bool
  | .inl _ => false
  | .inr z => nameB z
def keySz : Key → Prop
  | .inl _ => True
  | .inr z => z.length ≤ 100000
/-- a row: the tuple (k, v) -/
def RowAt (K : PySem.W.Frag) (H : Hp) (x : V) (p : Key × V) : Prop := ∃ r, x = .ref r ∧ SqT K H r [kV p.1, p.2]
theorem RowAt.et {K : PySem.W.Frag} {H H' : Hp} (e : Et K H H') {x : V} {p : Key × V} (h : RowAt K H x p) : RowAt K H' x p := by
  obtain ⟨r, h1, h2⟩ := h
  exact ⟨r, h1, e.tp _ _ h2⟩
def RowsAt (K : PySem.W.Frag) (H : Hp) (xs : List V) (ps : List (Key × V)) : Prop := xs.length = ps.length ∧ ∀ (i : Nat) (x : V) (p : Key × V), xs[i]? = some x → ps[i]? = some p → RowAt K H x p
theorem RowsAt.et {K : PySem.W.Frag} {H H' : Hp} (e : Et K H H') {xs : List V} {ps : List (Key × V)} (h : RowsAt K H xs ps) : RowsAt K H' xs ps := ⟨h.1, fun i x p h1 h2 => (h.2 i x p h1 h2).et e⟩
theorem RowsAt.nil {K : PySem.W.Frag} {H : Hp} : RowsAt K H [] [] := ⟨rfl, fun i x p h => by simp at h⟩
theorem RowsAt.snoc {K : PySem.W.Frag} {H : Hp} {xs : List V} {ps : List (Key × V)} {x : V} {p : Key × V} (h : RowsAt K H xs ps) (r : RowAt K H x p) : RowsAt K H (xs ++ [x]) (ps ++ [p]) := by
  refine ⟨by rw [List.length_append, List.length_append, h.1]; rfl, fun i y q h1 h2 => ?_⟩
  by_cases c : i < xs.length
  · rw [List.getElem?_append_left c] at h1
    rw [List.getElem?_append_left (by rw [← h.1]; exact c)] at h2
    exact h.2 i y q h1 h2
  · rw [List.getElem?_append_right (by omega)] at h1
    rw [List.getElem?_append_right (by rw [← h.1]; omega)] at h2
    rw [← h.1] at h2
    have e0 : i - xs.length = 0 := by
      cases z : i - xs.length with
      | zero => rfl
      | succ n => rw [z] at h1; simp at h1
    rw [e0] at h1 h2
    cases h1
    cases h2
    exact r
theorem RowsAt.set {K : PySem.W.Frag} {H : Hp} {xs : List V} {ps : List (Key × V)} {x : V} {p : Key × V} (h : RowsAt K H xs ps) (r : RowAt K H x p) (j : Nat) : RowsAt K H (xs.set j x) (ps.set j p) := by
  refine ⟨by rw [List.length_set, List.length_set, h.1], fun i y q h1 h2 => ?_⟩
  by_cases c : j = i
  · subst c
    rw [List.getElem?_set_self' ] at h1 h2
    cases z1 : xs[j]? with
    | none => rw [z1] at h1; cases h1
    | some a =>
      cases z2 : ps[j]? with
      | none => rw [z2] at h2; cases h2
      | some b =>
        rw [z1] at h1
        rw [z2] at h2
        cases h1
        cases h2
        exact r
  · rw [List.getElem?_set_ne c] at h1 h2
    exact h.2 i y q h1 h2
/-- good rows -/
def AllOk (K : PySem.W.Frag) (H : Hp) (ps : List (Key × V)) : Prop := ∀ p ∈ ps, keyB p.1 = true ∧ ShJ K H p.2 true
/-- one row is odd: its key or its share -/
def OneOdd (K : PySem.W.Frag) (H : Hp) (ps : List (Key × V)) : Prop := ∃ p0 ∈ ps, ∃ b : Bool, ShJ K H p0.2 b ∧ (keyB p0.1 && b) = false ∧ ∀ p ∈ ps, p = p0 ∨ ShJ K H p.2 true
theorem AllOk.et {K : PySem.W.Frag} {H H' : Hp} (e : Et K H H') {ps : List (Key × V)} (h : AllOk K H ps) : AllOk K H' ps := fun p hp => ⟨(h p hp).1, (h p hp).2.et e⟩
theorem OneOdd.et {K : PySem.W.Frag} {H H' : Hp} (e : Et K H H') {ps : List (Key × V)} (h : OneOdd K H ps) : OneOdd K H' ps := by
  obtain ⟨p0, h0, b, h1, h2, h3⟩ := h
  exact ⟨p0, h0, b, h1.et e, h2, fun p hp => (h3 p hp).imp_right fun q => q.et e⟩
/-- what is_page is told of a dict -/
def PageJ (K : PySem.W.Frag) (H : Hp) (kvs : List (Key × V)) (g : Bool) : Prop :=
  (∀ p ∈ kvs, keySz p.1) ∧ kvs.length ≤ 1000 ∧ ∃ f : Key → Bool, (∀ k v, valV kvs k = some v → ShJ K H v (f k)) ∧ g = (decide (((kvs.length : Nat) : Int) ≤ 200) && kvs.all fun p => keyB p.1 && f p.1)
theorem PageJ.et {K : PySem.W.Frag} {H H' : Hp} (e : Et K H H') {kvs : List (Key × V)} {g : Bool} (h : PageJ K H kvs g) : PageJ K H' kvs g := by
  obtain ⟨h1, h2, f, h3, h4⟩ := h
  exact ⟨h1, h2, f, fun k v q => (h3 k v q).et e, h4⟩
theorem pageJ_ok {K : PySem.W.Frag} {H : Hp} {ps : List (Key × V)} (hs : ∀ p ∈ ps, keySz p.1) (hl : ps.length ≤ 1000) (h : AllOk K H ps) : PageJ K H ps (decide (((ps.length : Nat) : Int) ≤ 200)) := by
  refine ⟨hs, hl, fun _ => true, fun k v q => (h _ (valV_mem q)).2, ?_⟩
  have : (ps.all fun p => keyB p.1 && true) = true := List.all_eq_true.mpr fun p hp => by rw [(h p hp).1]; rfl
  rw [this, Bool.and_true]
theorem pageJ_odd {K : PySem.W.Frag} {H : Hp} {ps : List (Key × V)} (hs : ∀ p ∈ ps, keySz p.1) (hl : ps.length ≤ 1000) (nd : (ps.map (·.1)).Nodup) (h : OneOdd K H ps) : PageJ K H ps false := by
  obtain ⟨p0, h0, b, h1, h2, h3⟩ := h
  refine ⟨hs, hl, fun k => if k = p0.1 then b else true, fun k v q => ?_, ?_⟩
  · show ShJ K H v (if k = p0.1 then b else true)
    by_cases c : k = p0.1
    · rw [if_pos c]
      rw [c, val_nodup nd p0 h0] at q
      cases q
      exact h1
    · rw [if_neg c]
      rcases h3 _ (valV_mem q) with z | z
      · exact absurd (congrArg Prod.fst z) c
      · exact z
  · have : (ps.all fun p => keyB p.1 && (if p.1 = p0.1 then b else true)) = false := by
      refine List.all_eq_false.mpr ⟨p0, h0, ?_⟩
      show ¬ (keyB p0.1 && (if p0.1 = p0.1 then b else true)) = true
      rw [if_pos rfl, h2]
      exact Bool.false_ne_true
    rw [this, Bool.and_false]
theorem dictEq_self {ps : List (Key × V)} : dictEqB ps ps (fun _ => true) = true := by
  unfold dictEqB
  have : (ps.all fun p => (valV ps p.1).isSome && true) = true := List.all_eq_true.mpr fun p hp => by
    obtain ⟨v, hv⟩ := valV_some hp
    rw [hv]; rfl
  rw [this, decide_eq_true rfl]
  rfl
def mixedI (c k : Int) : Int := (c % 1000000007 + 7919 * k + 11) * 48271 % 2147483647
theorem mixed_0 (c k : Int) : 0 ≤ mixedI c k := Int.emod_nonneg _ (by decide)
theorem numberBy_in {c : Int} (h : 0 ≤ c) : 0 ≤ numberBy c ∧ numberBy c < LIM := by
  unfold numberBy
  have e : LIM = 10 ^ 60 := rfl
  split
  · rename_i h1
    have a1 := Int.emod_nonneg (c / 5) (show (3 : Int) ≠ 0 by decide)
    have a2 := Int.emod_lt_of_pos (c / 5) (show (0 : Int) < 3 by decide)
    have b1 := Int.emod_nonneg c (show (5 : Int) ≠ 0 by decide)
    have hc : c % 5 = 0 ∨ c % 5 = 1 := by omega
    rcases hc with z | z <;> rw [z, e] <;> omega
  · split
    · rw [e]; omega
    · split
      · rw [e]
        exact ⟨Int.emod_nonneg _ (by decide), Int.emod_lt_of_pos _ (by decide)⟩
      · rw [e]; omega
theorem nameB_iff (z : Str) : nameB z = true ↔ (1 ≤ z.length ∧ z.length ≤ 8 ∧ ∀ c ∈ z.cps.toList, c ∈ LET.cps.toList) := by
  unfold nameB
  rw [Bool.and_eq_true, Bool.and_eq_true, decide_eq_true_eq, decide_eq_true_eq, List.all_eq_true]
  constructor
  · rintro ⟨h1, h2, h3⟩
    exact ⟨by omega, by omega, fun c hc => of_decide_eq_true (h3 c hc)⟩
  · rintro ⟨h1, h2, h3⟩
    exact ⟨by omega, by omega, fun c hc => decide_eq_true (h3 c hc)⟩
theorem app_tl (a b : Str) : (a ++ b).cps.toList = a.cps.toList ++ b.cps.toList := Array.toList_append
theorem app_len (a b : Str) : (a ++ b).length = a.length + b.length := Array.size_append
theorem cut_tl (z : Str) (n : Nat) : (cutS z none (some (n : Int))).cps.toList = z.cps.toList.take n := by
  show List.take (HT.sIx z.length z.length (some (n : Int)) - HT.sIx z.length 0 none) (List.drop (HT.sIx z.length 0 none) z.cps.toList) = _
  rw [HT.sIx_none, HT.sIx_nat, List.drop_zero, Nat.sub_zero]
  by_cases c : n ≤ z.length
  · rw [Nat.min_eq_left c]
  · rw [Nat.min_eq_right (by omega), List.take_of_length_le (by rw [tl_len]; omega), List.take_of_length_le (by rw [tl_len]; omega)]
theorem cut_len (z : Str) (n : Nat) : (cutS z none (some (n : Int))).length = min n z.length := by
  rw [← tl_len, cut_tl, List.length_take, tl_len]
theorem nameB_sg (cs : List Nat) (h1 : 1 ≤ cs.length) (h8 : cs.length ≤ 8) (h : ∀ c ∈ cs, c ∈ LET.cps.toList) : nameB ⟨cs.toArray⟩ = true :=
  (nameB_iff _).mpr ⟨h1, h8, h⟩
theorem nameB_mix {c1 c2 : Nat} {z : Str} (h1 : c1 ∈ LET.cps.toList) (h2 : c2 ∈ LET.cps.toList) (hz : nameB z = true) : nameB ((⟨#[c1]⟩ ++ ⟨#[c2]⟩ : Str) ++ cutS z none (some 6)) = true := by
  obtain ⟨a1, a2, a3⟩ := (nameB_iff _).mp hz
  have e6 := cut_len z 6
  refine (nameB_iff _).mpr ⟨?_, ?_, fun c hc => ?_⟩
  · rw [app_len, app_len]; show 1 ≤ 1 + 1 + _; omega
  · rw [app_len, app_len]
    show 1 + 1 + (cutS z none (some ((6 : Nat) : Int))).length ≤ 8
    omega
  · rw [app_tl, app_tl] at hc
    rcases List.mem_append.mp hc with hc | hc
    · rcases List.mem_append.mp hc with hc | hc
      · rw [List.mem_singleton.mp hc]; exact h1
      · rw [List.mem_singleton.mp hc]; exact h2
    · have hc' : c ∈ (cutS z none (some ((6 : Nat) : Int))).cps.toList := hc
      rw [cut_tl] at hc'
      exact a3 c (List.mem_of_mem_take hc')
theorem nameB_ab {c : Nat} (h : c ∈ (" A1-" : Str).cps.toList) : nameB (("ab" : Str) ++ ⟨#[c]⟩) = false := by
  cases q : nameB (("ab" : Str) ++ ⟨#[c]⟩) with
  | false => rfl
  | true =>
    obtain ⟨_, _, a3⟩ := (nameB_iff _).mp q
    have h3 := a3 c (by rw [app_tl]; exact List.mem_append_right _ (List.mem_singleton.mpr rfl))
    have : ∀ x ∈ (" A1-" : Str).cps.toList, ¬ x ∈ LET.cps.toList := by decide +kernel
    exact absurd h3 (this c h)
theorem nameB_cut {n : Nat} (h : 1 ≤ n) : nameB (cutS "abcdefgh" none (some (n : Int))) = true := by
  have e : ("abcdefgh" : Str).length = 8 := by decide +kernel
  refine (nameB_iff _).mpr ⟨?_, ?_, fun c hc => ?_⟩
  · rw [cut_len, e]; omega
  · rw [cut_len, e]; omega
  · rw [cut_tl] at hc
    have : ∀ x ∈ ("abcdefgh" : Str).cps.toList, x ∈ LET.cps.toList := by decide +kernel
    exact this c (List.mem_of_mem_take hc)
theorem pair_at {K : PySem.W.Frag} {H : Hp} {x y z : V} {o p : Option Int} {i : Nat} (hx : NumJ K H x o) (hy : NumJ K H y p) (h : [x, y][i]? = some z) :
    ∃ oz, NumJ K H z oz ∧ [goodN o, goodN p][i]? = some (goodN oz) ∧ (goodN oz = false → pairB o p = false) := by
  match i, h with
  | 0, h =>
    cases h
    refine ⟨o, hx, rfl, fun q => ?_⟩
    cases o with
    | none => rfl
    | some a =>
      cases p with
      | none => rfl
      | some b => show (goodN (some a) && (goodN (some b) && decide (0 < a + b))) = false; rw [q, Bool.false_and]
  | 1, h =>
    cases h
    refine ⟨p, hy, rfl, fun q => ?_⟩
    cases o with
    | none => rfl
    | some a =>
      cases p with
      | none => rfl
      | some b => show (goodN (some a) && (goodN (some b) && decide (0 < a + b))) = false; rw [q, Bool.false_and, Bool.and_false]
theorem pair_end {o p : Option Int} (h0 : goodN o = true) (h1 : goodN p = true) : ∃ i j, o = some i ∧ p = some j ∧ pairB o p = decide (0 < i + j) := by
  cases o with
  | none => cases h0
  | some i =>
    cases p with
    | none => cases h1
    | some j =>
      refine ⟨i, j, rfl, rfl, ?_⟩
      show (goodN (some i) && (goodN (some j) && decide (0 < i + j))) = _
      rw [h0, h1, Bool.true_and, Bool.true_and]
theorem pairL {i : Int} {p : Option Int} (h : i < 0 ∨ LIM ≤ i) : pairB (some i) p = false := by
  have e : goodN (some i) = false := by
    show (decide (0 ≤ i) && decide (i < LIM)) = false
    rcases h with h | h
    · rw [decide_eq_false (by omega), Bool.false_and]
    · rw [decide_eq_false (p := i < LIM) (by omega), Bool.and_false]
  cases p with
  | none => rfl
  | some b => show (goodN (some i) && _) = false; rw [e, Bool.false_and]
theorem pairR {i : Int} {p : Option Int} (h : i < 0 ∨ LIM ≤ i) : pairB p (some i) = false := by
  have e : goodN (some i) = false := by
    show (decide (0 ≤ i) && decide (i < LIM)) = false
    rcases h with h | h
    · rw [decide_eq_false (by omega), Bool.false_and]
    · rw [decide_eq_false (p := i < LIM) (by omega), Bool.and_false]
  cases p with
  | none => rfl
  | some b => show (goodN (some b) && (goodN (some i) && _)) = false; rw [e, Bool.false_and, Bool.and_false]
theorem allOk_set {K : PySem.W.Frag} {H : Hp} {ps : List (Key × V)} {p : Key × V} (h : AllOk K H ps) (hk : keyB p.1 = true) (hs : ShJ K H p.2 true) (j : Nat) : AllOk K H (ps.set j p) := fun q hq => by
  rcases List.mem_or_eq_of_mem_set hq with c | c
  · exact h q c
  · rw [c]; exact ⟨hk, hs⟩
theorem oneOdd_set {K : PySem.W.Frag} {H : Hp} {ps : List (Key × V)} {p : Key × V} (h : AllOk K H ps) {j : Nat} (hj : j < ps.length) (b : Bool) (hs : ShJ K H p.2 b) (e : (keyB p.1 && b) = false) : OneOdd K H (ps.set j p) :=
  ⟨p, List.mem_set hj p, b, hs, e, fun q hq => (List.mem_or_eq_of_mem_set hq).elim (fun c => .inr (h q c).2) .inl⟩
theorem keySz_set {ps : List (Key × V)} {p : Key × V} (h : ∀ p ∈ ps, keySz p.1) (hk : keySz p.1) (j : Nat) : ∀ q ∈ ps.set j p, keySz q.1 := fun q hq => by
  rcases List.mem_or_eq_of_mem_set hq with c | c
  · exact h q c
  · rw [c]; exact hk
theorem pageJ_nil {K : PySem.W.Frag} {H : Hp} : PageJ K H [] true := ⟨fun p hp => (by cases hp), Nat.zero_le _, fun _ => true, fun k v q => (by cases q), rfl⟩
theorem AllOk.eqj {K : PySem.W.Frag} {H : Hp} {ps : List (Key × V)} (nd : (ps.map (·.1)).Nodup) (h : ∀ p ∈ ps, ∃ b, ShJ K H p.2 b) : ∀ p ∈ ps, ∀ v', valV ps p.1 = some v' → EqJ K H p.2 v' true := fun p hp v' hv => by
  rw [val_nodup nd p hp] at hv
  cases hv
  obtain ⟨b, hb⟩ := h p hp
  exact hb.eqj
end Gc

namespace Gc
open PySem L2 Evl
/-! ### sorted texts: one order only -/
def leS (a b : Str) : Prop := a.cps.toList ≤ b.cps.toList
theorem leS_of {a b : Str} (h : PySem.Spec.ltCps b.cps.toList a.cps.toList = false) : leS a b := by
  rw [PyProof.Rows.ltCps_eq, decide_eq_false_iff_not] at h
  exact List.not_lt.mp h
theorem leS_trans {a b c : Str} (h1 : leS a b) (h2 : leS b c) : leS a c := List.le_trans h1 h2
theorem leS_anti {a b : Str} (h1 : leS a b) (h2 : leS b a) : a = b := by
  have e := List.le_antisymm h1 h2
  cases a with
  | mk x =>
    cases b with
    | mk y => exact congrArg Str.mk (Array.toList_inj.mp e)
theorem rising_le : ∀ (r : List Str) (x : Str), PyProof.Rows.risingS x r = true → (∀ y ∈ r, leS x y) ∧ r.Pairwise leS
  | [], x, _ => ⟨fun y h => (by cases h), .nil⟩
  | z :: r, x, h => by
    have h' : (!PySem.Spec.ltCps z.cps.toList x.cps.toList && PyProof.Rows.risingS z r) = true := h
    rw [Bool.and_eq_true, Bool.not_eq_true'] at h'
    obtain ⟨i1, i2⟩ := rising_le r z h'.2
    have hz := leS_of h'.1
    refine ⟨fun y hy => ?_, List.pairwise_cons.mpr ⟨i1, i2⟩⟩
    rcases List.mem_cons.mp hy with c | c
    · rw [c]; exact hz
    · exact leS_trans hz (i1 y c)
theorem sorted_pw : ∀ {l : List Str}, PyProof.Rows.sortedS l = true → l.Pairwise leS
  | [], _ => .nil
  | x :: r, h => by
    obtain ⟨i1, i2⟩ := rising_le r x h
    exact List.pairwise_cons.mpr ⟨i1, i2⟩
theorem pw_unique : ∀ {l1 l2 : List Str}, l1.Pairwise leS → l2.Pairwise leS → l1.Nodup → l2.Nodup → (∀ z, z ∈ l1 ↔ z ∈ l2) → l1 = l2
  | [], [], _, _, _, _, _ => rfl
  | [], y :: r, _, _, _, _, h => absurd ((h y).mpr List.mem_cons_self) (by simp)
  | x :: r, [], _, _, _, _, h => absurd ((h x).mp List.mem_cons_self) (by simp)
  | x :: r1, y :: r2, p1, p2, n1, n2, h => by
    obtain ⟨a1, a2⟩ := List.pairwise_cons.mp p1
    obtain ⟨b1, b2⟩ := List.pairwise_cons.mp p2
    obtain ⟨c1, c2⟩ := List.nodup_cons.mp n1
    obtain ⟨d1, d2⟩ := List.nodup_cons.mp n2
    have e : x = y := by
      rcases List.mem_cons.mp ((h x).mp List.mem_cons_self) with q | q
      · exact q
      · rcases List.mem_cons.mp ((h y).mpr List.mem_cons_self) with q' | q'
        · exact q'.symm
        · exact leS_anti (a1 y q') (b1 x q)
    subst e
    refine congrArg (x :: ·) (pw_unique a2 b2 c2 d2 fun z => ⟨fun hz => ?_, fun hz => ?_⟩)
    · rcases List.mem_cons.mp ((h z).mp (List.mem_cons_of_mem _ hz)) with q | q
      · subst q; exact absurd hz c1
      · exact q
    · rcases List.mem_cons.mp ((h z).mpr (List.mem_cons_of_mem _ hz)) with q | q
      · subst q; exact absurd hz d1
      · exact q
theorem sorted_unique {l1 l2 : List Str} (h1 : PyProof.Rows.sortedS l1 = true) (h2 : PyProof.Rows.sortedS l2 = true) (n1 : l1.Nodup) (n2 : l2.Nodup) (h : ∀ z, z ∈ l1 ↔ z ∈ l2) : l1 = l2 := pw_unique (sorted_pw h1) (sorted_pw h2) n1 n2 h
/-! ### lists of texts as data -/
theorem dpS {K : PySem.W.Frag} {H : Hp} : ∀ ss : List Str, DpAll K H (ss.map V.str) (ss.map PyData.str)
  | [] => .nil
  | x :: r => .cons (.str x) (dpS r)
/-- names are names -/
def NmOk (ks : List Str) : Prop := ∀ z ∈ ks, nameB z = true
theorem name_ok {z : Str} (h : nameB z = true) : PyData.strOk z = true := by
  have h3 := ((nameB_iff z).mp h).2.2
  have hl : ∀ c ∈ LET.cps.toList, c < 0x110000 := by decide +kernel
  show z.cps.all (· < 0x110000) = true
  rw [← Array.all_toList]
  exact List.all_eq_true.mpr fun c hc => decide_eq_true (hl c (h3 c hc))
theorem laysS : ∀ ss : List Str, NmOk ss → PyData.canLayAll0 (ss.map PyData.str) = true
  | [], _ => rfl
  | x :: r, h => by
    show (PyData.strOk x && PyData.canLayAll0 (r.map PyData.str)) = true
    rw [laysS r (fun z hz => h z (List.mem_cons_of_mem _ hz)), name_ok (h x List.mem_cons_self)]; rfl
theorem depthS : ∀ ss : List Str, PyData.depthAll (ss.map PyData.str) ≤ 1
  | [] => Nat.zero_le _
  | x :: r => Nat.max_le.mpr ⟨Nat.zero_le _, depthS r⟩
theorem shapedS (ss : List Str) (h : NmOk ss) : SeqAt.shaped (.list (ss.map PyData.str)) = true := by
  show (PyData.canLay0 (.list (ss.map PyData.str)) && decide (PyData.depth (.list (ss.map PyData.str)) ≤ 64)) = true
  have h1 : PyData.canLay0 (.list (ss.map PyData.str)) = true := laysS ss h
  have h2 : PyData.depth (.list (ss.map PyData.str)) ≤ 64 := by
    show PyData.depthAll (ss.map PyData.str) + 1 ≤ 64
    have := depthS ss
    omega
  rw [h1, decide_eq_true h2]
  rfl
theorem eqvS (ss : List Str) (h : NmOk ss) : PyData.eqv (.list (ss.map PyData.str)) (.list (ss.map PyData.str)) = true := PySem.SeqAt.eqv_refl _ (laysS ss h)
/-- list(..) != sorted(..) where both are the same texts -/
theorem neS_go {K : PySem.W.Frag} {H : Hp} {Q : VK} {a b : Addr} {ss : List Str} (h : NmOk ss) (ha : SqL K H a (ss.map V.str)) (hb : SqL K H b (ss.map V.str)) (q : Q (.bl false) H) : rNeD K (.ref a) (.ref b) H Q :=
  ⟨_, _, .lst ha (dpS ss), .lst hb (dpS ss), shapedS ss h, shapedS ss h, by rw [eqvS ss h]; exact q⟩
theorem eqS_go {K : PySem.W.Frag} {H : Hp} {Q : VK} {a b : Addr} {ss : List Str} (h : NmOk ss) (ha : SqL K H a (ss.map V.str)) (hb : SqL K H b (ss.map V.str)) (q : Q (.bl true) H) : rEqD K (.ref a) (.ref b) H Q :=
  ⟨_, _, .lst ha (dpS ss), .lst hb (dpS ss), shapedS ss h, shapedS ss h, by rw [eqvS ss h]; exact q⟩
/-- == and != of two shares -/
theorem shp2 (a b : Int) : SeqAt.shaped (.tuple [.int a, .int b]) = true := by simp [SeqAt.shaped, PyData.canLay0, PyData.canLayAll0, PyData.depth, PyData.depthAll]
theorem eqv2 (a b c d : Int) : PyData.eqv (.tuple [.int a, .int b]) (.tuple [.int c, .int d]) = (decide (a = c) && decide (b = d)) := by
  show (a == c && (b == d && true)) = _
  rw [Bool.and_true]
  rfl
theorem sheq_go {K : PySem.W.Frag} {H : Hp} {Q : VK} {t u : Addr} {a b c d : Int} (h1 : ShAt K H t a b) (h2 : ShAt K H u c d) (q : Q (.bl (decide (a = c) && decide (b = d))) H) : rEqD K (.ref t) (.ref u) H Q :=
  ⟨_, _, .tup h1 (.cons (.int a) (.cons (.int b) .nil)), .tup h2 (.cons (.int c) (.cons (.int d) .nil)), shp2 a b, shp2 c d, by rw [eqv2]; exact q⟩
theorem shne_go {K : PySem.W.Frag} {H : Hp} {Q : VK} {t u : Addr} {a b c d : Int} (h1 : ShAt K H t a b) (h2 : ShAt K H u c d) (q : Q (.bl (!(decide (a = c) && decide (b = d)))) H) : rNeD K (.ref t) (.ref u) H Q :=
  ⟨_, _, .tup h1 (.cons (.int a) (.cons (.int b) .nil)), .tup h2 (.cons (.int c) (.cons (.int d) .nil)), shp2 a b, shp2 c d, by rw [eqv2]; exact q⟩
/-! ### pages: names in their order, a share for every text ((0, 0) where there is none) -/
abbrev Sh := Str → Int × Int
structure PgK (K : PySem.W.Frag) (H : Hp) (kvs : List (Key × V)) (ks : List Str) (f : Sh) : Prop where
  keys : kvs.map (·.1) = ks.map Sum.inr
  nd : ks.Nodup
  at_ : ∀ z v, valV kvs (.inr z) = some v → ∃ t, v = .ref t ∧ ShAt K H t (f z).1 (f z).2
  out : ∀ z, ¬ z ∈ ks → f z = (0, 0)
section
variable {K : PySem.W.Frag} {H H' : Hp} {kvs : List (Key × V)} {ks : List Str} {f : Sh}
theorem PgK.et (e : Et K H H') (h : PgK K H kvs ks f) : PgK K H' kvs ks f :=
  ⟨h.keys, h.nd, fun z v q => let ⟨t, h1, h2⟩ := h.at_ z v q; ⟨t, h1, e.tp _ _ h2⟩, h.out⟩
theorem PgK.len (h : PgK K H kvs ks f) : kvs.length = ks.length := by
  have e := congrArg List.length h.keys
  rw [List.length_map, List.length_map] at e
  exact e
theorem PgK.mem (h : PgK K H kvs ks f) {z : Str} : z ∈ ks ↔ ∃ v, valV kvs (.inr z) = some v := by
  constructor
  · intro hz
    have : (Sum.inr z : Key) ∈ kvs.map (·.1) := by rw [h.keys]; exact List.mem_map.mpr ⟨z, hz, rfl⟩
    obtain ⟨p, hp, e⟩ := List.mem_map.mp this
    obtain ⟨v, hv⟩ := valV_some hp
    exact ⟨v, by rw [← e]; exact hv⟩
  · rintro ⟨v, hv⟩
    have := valV_in hv
    rw [h.keys] at this
    obtain ⟨y, hy, e⟩ := List.mem_map.mp this
    cases e
    exact hy
theorem PgK.there (h : PgK K H kvs ks f) {z : Str} (hz : z ∈ ks) : ∃ t, valV kvs (.inr z) = some (.ref t) ∧ ShAt K H t (f z).1 (f z).2 := by
  obtain ⟨v, hv⟩ := h.mem.mp hz
  obtain ⟨t, rfl, q⟩ := h.at_ z v hv
  exact ⟨t, hv, q⟩
theorem PgK.miss (h : PgK K H kvs ks f) {z : Str} (hz : ¬ z ∈ ks) : valV kvs (.inr z) = none := by
  cases q : valV kvs (.inr z) with
  | none => rfl
  | some v => exact absurd (h.mem.mpr ⟨v, q⟩) hz
theorem PgK.nil : PgK K H [] [] (fun _ => (0, 0)) := ⟨rfl, List.nodup_nil, fun z v q => (by cases q), fun _ _ => rfl⟩
def addK (ks : List Str) (z : Str) : List Str := if z ∈ ks then ks else ks ++ [z]
theorem mem_addK {ks : List Str} {z w : Str} : w ∈ addK ks z ↔ w ∈ ks ∨ w = z := by
  unfold addK
  split
  · rename_i h
    exact ⟨.inl, fun q => q.elim id fun e => e ▸ h⟩
  · rw [List.mem_append, List.mem_singleton]
theorem len_addK {ks : List Str} {z : Str} : (addK ks z).length ≤ ks.length + 1 := by
  unfold addK
  split
  · omega
  · rw [List.length_append]; exact Nat.le_refl _
def setF (f : Sh) (z : Str) (s : Int × Int) : Sh := fun w => if w = z then s else f w
theorem setF_same {f : Sh} {z : Str} {s : Int × Int} : setF f z s z = s := if_pos rfl
theorem setF_ne {f : Sh} {z w : Str} {s : Int × Int} (h : ¬ w = z) : setF f z s w = f w := if_neg h
theorem PgK.put (h : PgK K H kvs ks f) {z : Str} {t : Addr} {a b : Int} (ht : ShAt K H t a b) : PgK K H (putK kvs (.inr z) (.ref t)) (addK ks z) (setF f z (a, b)) := by
  refine ⟨?_, ?_, fun w v q => ?_, fun w hw => ?_⟩
  · by_cases c : z ∈ ks
    · unfold addK
      rw [if_pos c]
      obtain ⟨v, hv⟩ := h.mem.mp c
      have ha : (kvs.any fun kv => decide (kv.1 = (.inr z : Key))) = true := by rw [valV_any, hv]; rfl
      unfold putK
      rw [if_pos ha, List.map_map]
      have e : ((fun x : Key × V => x.1) ∘ fun kv : Key × V => if kv.1 = (.inr z : Key) then (kv.1, V.ref t) else kv) = fun x => x.1 := by
        funext x
        show (if x.1 = (.inr z : Key) then (x.1, V.ref t) else x).1 = x.1
        split <;> rfl
      rw [e]
      exact h.keys
    · unfold addK
      rw [if_neg c, putK_new _ (h.miss c), List.map_append, List.map_append, h.keys]
      rfl
  · unfold addK
    split
    · exact h.nd
    · rename_i c; exact nd_snoc h.nd c
  · rw [valV_put] at q
    by_cases c : w = z
    · subst c
      rw [if_pos rfl] at q
      cases q
      rw [setF_same]
      exact ⟨t, rfl, ht⟩
    · rw [if_neg (fun e => c (Sum.inr.inj e))] at q
      rw [setF_ne c]
      exact h.at_ w v q
  · have h1 : ¬ w ∈ ks := fun q => hw (mem_addK.mpr (.inl q))
    have h2 : ¬ w = z := fun q => hw (mem_addK.mpr (.inr q))
    rw [setF_ne h2]
    exact h.out w h1
theorem PgK.key_at (h : PgK K H kvs ks f) {i : Nat} {k : Key} {v : V} (q : kvs[i]? = some (k, v)) : ∃ z, k = .inr z ∧ ks[i]? = some z ∧ z ∈ ks := by
  have e := congrArg (fun l : List Key => l[i]?) h.keys
  simp only [List.getElem?_map] at e
  rw [q] at e
  cases c : ks[i]? with
  | none => rw [c] at e; cases e
  | some z =>
    rw [c] at e
    exact ⟨z, Option.some.inj e, rfl, List.mem_of_getElem? c⟩
theorem PgK.kst (h : PgK K H kvs ks f) : (kvs.map fun kv => kV kv.1) = ks.map V.str := by
  have e := congrArg (List.map kV) h.keys
  rw [List.map_map, List.map_map] at e
  exact e
/-- the same dict's values are the same objects -/
theorem PgK.eqj (h : PgK K H kvs ks f) (H' : Hp) : ∀ p ∈ kvs, ∀ v', valV kvs p.1 = some v' → EqJ K H' p.2 v' ((fun _ => true) p.1) := fun p hp v' hv => by
  have nd : (kvs.map (·.1)).Nodup := by
    rw [h.keys]
    exact List.Pairwise.map _ (fun a b n e => n (Sum.inr.inj e)) h.nd
  rw [val_nodup nd p hp] at hv
  cases hv
  have hk : p.1 ∈ ks.map (Sum.inr (α := Int)) := by rw [← h.keys]; exact List.mem_map.mpr ⟨p, hp, rfl⟩
  obtain ⟨z, hz, e⟩ := List.mem_map.mp hk
  obtain ⟨t, ht, _⟩ := h.there hz
  rw [e, val_nodup nd p hp] at ht
  have e2 : p.2 = .ref t := Option.some.inj ht
  rw [e2]
  exact .inl ⟨t, rfl, rfl, rfl⟩
end
theorem dictEq_self' {ps : List (Key × V)} : dictEqB ps ps (fun _ => true) = true := by
  unfold dictEqB
  have : (ps.all fun p => (valV ps p.1).isSome && true) = true := List.all_eq_true.mpr fun p hp => by
    obtain ⟨v, hv⟩ := valV_some hp
    rw [hv]; rfl
  rw [this, decide_eq_true rfl]
  rfl
/-- no number below 0 -/
def NN (f : Sh) : Prop := ∀ z, 0 ≤ (f z).1 ∧ 0 ≤ (f z).2
theorem NN.zero : NN (fun _ => (0, 0)) := fun _ => ⟨Int.le_refl _, Int.le_refl _⟩
theorem NN.set {f : Sh} (h : NN f) {z : Str} {a b : Int} (ha : 0 ≤ a) (hb : 0 ≤ b) : NN (setF f z (a, b)) := fun w => by
  unfold setF
  split
  · exact ⟨ha, hb⟩
  · exact h w
theorem NmOk.nil : NmOk [] := fun z h => (by cases h)
theorem NmOk.add {ks : List Str} (h : NmOk ks) {z : Str} (h1 : nameB z = true) : NmOk (addK ks z) := fun w hw => by
  rcases mem_addK.mp hw with c | c
  · exact h w c
  · rw [c]; exact h1
/-- two pages joined -/
def mxF (f g : Sh) : Sh := fun z => (gmax (f z).1 (g z).1, gmax (f z).2 (g z).2)
theorem mxF_comm (f g : Sh) : mxF f g = mxF g f := by
  funext z
  show (_, _) = (_, _)
  rw [gmax_comm (f z).1, gmax_comm (f z).2]
/-- all but what stands at d stays -/
def Exc (d : Addr) (H H' : Hp) : Prop := ∀ a o, a ≠ d → H a = some o → H' a = some o
theorem Exc.refl (d : Addr) (H : Hp) : Exc d H H := fun _ _ _ h => h
theorem Exc.of {d : Addr} {H H' : Hp} (e : Ex H H') : Exc d H H' := fun a o _ h => e a o h
theorem Exc.trans {d : Addr} {H H1 H2 : Hp} (e : Exc d H H1) (f : Exc d H1 H2) : Exc d H H2 := fun a o n h => f a o n (e a o n h)
theorem Exc.upd {d : Addr} {H : Hp} {o : HO} : Exc d H (upd H d o) := fun a _ n h => by rw [upd_ne n]; exact h
theorem Exc.new {d : Addr} {H H1 H2 : Hp} (hd : H d = none) (e : Ex H H1) (f : Exc d H1 H2) : Ex H H2 := fun a o h => f a o (fun z => by rw [z, hd] at h; cases h) (e a o h)
end Gc

namespace Gc
open PySem L2 Evl
/-- all but what stands where S holds stays -/
def Exs (S : Addr → Prop) (H H' : Hp) : Prop := ∀ a o, ¬ S a → H a = some o → H' a = some o
section
variable {S : Addr → Prop} {H H1 H2 H' : Hp}
theorem Exs.refl (S : Addr → Prop) (H : Hp) : Exs S H H := fun _ _ _ h => h
theorem Exs.of (e : Ex H H') : Exs S H H' := fun a o _ h => e a o h
theorem Exs.trans (e : Exs S H H1) (f : Exs S H1 H2) : Exs S H H2 := fun a o n h => f a o n (e a o n h)
theorem Exs.upd {d : Addr} {o : HO} (hd : S d) : Exs S H (upd H d o) := fun a _ n h => by rw [upd_ne (fun z => n (by rw [z]; exact hd))]; exact h
theorem Exs.mut {d : Addr} {o : HO} (e : Exs S H H') (hd : S d ∨ H d = none) : Exs S H (L2.upd H' d o) := fun a q n h => by
  have c : a ≠ d := fun z => by
    subst z
    rcases hd with hd | hd
    · exact n hd
    · rw [hd] at h; cases h
  rw [upd_ne c]
  exact e a q n h
/-- what was not there does not count -/
theorem Exs.new {T : Addr → Prop} (e : Exs T H H') (h : ∀ a, T a → S a ∨ H a = none) : Exs S H H' := fun a o n q => e a o (fun t => by
  rcases h a t with c | c
  · exact n c
  · rw [c] at q; cases q) q
theorem Exs.ex (e : Exs S H H') (h : ∀ a, S a → H a = none) : Ex H H' := fun a o q => e a o (fun t => by rw [h a t] at q; cases q) q
/-- behind the lock of d -/
theorem Exs.unlock {d : Addr} {kvs : List (Key × V)} (e : Exs S H H') (hd : H d = some (.dK kvs)) (hS : ∀ a, S a → a = d ∨ H a = none) : Ex H (L2.upd H' d (.dK kvs)) := fun a o q => by
  by_cases c : a = d
  · subst c
    rw [hd] at q
    cases q
    exact upd_same
  · rw [upd_ne c]
    refine e a o (fun t => ?_) q
    rcases hS a t with z | z
    · exact c z
    · rw [z] at q; cases q
end
/-- a comprehension over a dict -/
theorem lockE_go {t : TE} {Q : VK} {σ : L2.St} {H : Hp} {d : Addr} {kvs : List (Key × V)} (hd : H d = some (.dK kvs))
    (h : ∀ od H1, H1 d = some (.frz od (.dK kvs)) → Er H H1 → (∀ H', Ex H1 H' → Ex H (upd H' d (.dK kvs))) → t σ H1 fun v H' => H' d = some (.frz od (.dK kvs)) ∧ Q v (upd H' d (.dK kvs))) :
    tLockE t σ H Q := ⟨d, _, hd, trivial, fun od => h od _ upd_same (Er.lock hd) (fun H' e => lock_ex e hd)⟩
def capF (ks : List Str) (f : Sh) : Sh := fun z => if z ∈ ks then f z else (0, 0)
theorem nd_len {α : Type} [DecidableEq α] : ∀ {l m : List α}, l.Nodup → (∀ z ∈ l, z ∈ m) → l.length ≤ m.length
  | [], _, _, _ => Nat.zero_le _
  | x :: r, m, nd, h => by
    obtain ⟨n1, n2⟩ := List.nodup_cons.mp nd
    have hx := h x List.mem_cons_self
    have q := nd_len (m := m.erase x) n2 fun z hz => (List.mem_erase_of_ne (fun e => n1 (by rw [← e]; exact hz))).mpr (h z (List.mem_cons_of_mem _ hz))
    rw [List.length_erase_of_mem hx] at q
    have := List.length_pos_of_mem hx
    show r.length + 1 ≤ m.length
    omega
theorem capF_nil {f : Sh} : capF [] f = fun _ => (0, 0) := by
  funext z
  unfold capF
  rw [if_neg (by simp)]
theorem capF_all {ks : List Str} {f : Sh} (h : ∀ z, ¬ z ∈ ks → f z = (0, 0)) : capF ks f = f := by
  funext z
  unfold capF
  split
  · rfl
  · rename_i c; exact (h z c).symm
theorem not_take {ys : List Str} (nd : ys.Nodup) {i : Nat} {z : Str} (h : ys[i]? = some z) : ¬ z ∈ ys.take i := by
  intro hz
  obtain ⟨hi, e⟩ := List.getElem?_eq_some_iff.mp h
  obtain ⟨j, hj, e2⟩ := List.getElem_of_mem hz
  have hj2 : j < i := by rw [List.length_take] at hj; omega
  rw [List.getElem_take] at e2
  have := (List.nodup_iff_pairwise_ne.mp nd)
  have q := List.pairwise_iff_getElem.mp this j i (by omega) hi hj2
  exact q (e2.trans e.symm)
theorem take_snoc {α : Type} {ys : List α} {i : Nat} {z : α} (h : ys[i]? = some z) : ys.take (i + 1) = ys.take i ++ [z] := by
  rw [List.take_add_one, h]
  rfl
theorem addK_take {ys : List Str} (nd : ys.Nodup) {i : Nat} {z : Str} (h : ys[i]? = some z) : addK (ys.take i) z = ys.take (i + 1) := by
  unfold addK
  rw [if_neg (not_take nd h), take_snoc h]
theorem capF_take {ys : List Str} {i : Nat} {z : Str} {m : Sh} (h : ys[i]? = some z) : setF (capF (ys.take i) m) z (m z) = capF (ys.take (i + 1)) m := by
  rw [take_snoc h]
  funext w
  unfold setF capF
  by_cases c : w = z
  · rw [if_pos c, if_pos (by rw [c]; simp), c]
  · rw [if_neg c]
    by_cases d : w ∈ ys.take i
    · rw [if_pos d, if_pos (List.mem_append_left _ d)]
    · rw [if_neg d, if_neg (by simp [d, c])]
theorem mxF_out {f g : Sh} {z : Str} (hf : f z = (0, 0)) (hg : g z = (0, 0)) : mxF f g z = (0, 0) := by
  show (gmax (f z).1 (g z).1, gmax (f z).2 (g z).2) = _
  rw [hf, hg]
  rfl
/-- the first ones of the other joined to one -/
def partF (ls : List Str) (f g : Sh) : Sh := fun z => if z ∈ ls then mxF f g z else f z
theorem partF_nil {f g : Sh} : partF [] f g = f := by
  funext z
  unfold partF
  rw [if_neg (by simp)]
theorem gmax_0 {i : Int} (h : 0 ≤ i) : gmax i 0 = i := by unfold gmax; split <;> omega
theorem partF_all {ls : List Str} {f g : Sh} (hf : NN f) (hg : ∀ z, ¬ z ∈ ls → g z = (0, 0)) : partF ls f g = mxF f g := by
  funext z
  unfold partF
  split
  · rfl
  · rename_i c
    show f z = (gmax (f z).1 (g z).1, gmax (f z).2 (g z).2)
    rw [hg z c, gmax_0 (hf z).1, gmax_0 (hf z).2]
theorem partF_take {ys : List Str} {i : Nat} {z : Str} {f g : Sh} (h : ys[i]? = some z) : setF (partF (ys.take i) f g) z (mxF f g z) = partF (ys.take (i + 1)) f g := by
  rw [take_snoc h]
  funext w
  unfold setF partF
  by_cases c : w = z
  · rw [if_pos c, if_pos (by rw [c]; simp), c]
  · rw [if_neg c]
    by_cases d : w ∈ ys.take i
    · rw [if_pos d, if_pos (List.mem_append_left _ d)]
    · rw [if_neg d, if_neg (by simp [d, c])]
theorem partF_at {ys : List Str} (nd : ys.Nodup) {i : Nat} {z : Str} {f g : Sh} (h : ys[i]? = some z) : partF (ys.take i) f g z = f z := if_neg (not_take nd h)
/-- the sum of a page -/
def totF (ks : List Str) (f : Sh) : Int := (ks.map fun z => (f z).1 - (f z).2).sum
theorem totF_take {ks : List Str} {i : Nat} {z : Str} {f : Sh} (h : ks[i]? = some z) : totF (ks.take (i + 1)) f = totF (ks.take i) f + (f z).1 - (f z).2 := by
  unfold totF
  rw [take_snoc h, List.map_append, List.sum_append]
  simp only [List.map_cons, List.map_nil, List.sum_cons, List.sum_nil]
  omega
/-- one sign of a name changed -/
theorem nameB_twin {z : Str} {c : Nat} (hz : nameB z = true) (hc : c ∈ LET.cps.toList) {n : Nat} (hn : n < z.length) : nameB ((cutS z none (some (n : Int)) ++ ⟨#[c]⟩ : Str) ++ cutS z (some ((n + 1 : Nat) : Int)) none) = true := by
  obtain ⟨a1, a2, a3⟩ := (nameB_iff z).mp hz
  have e2 : (cutS z (some ((n + 1 : Nat) : Int)) none).cps.toList = z.cps.toList.drop (n + 1) := by
    show List.take (HT.sIx z.length z.length none - HT.sIx z.length 0 (some ((n + 1 : Nat) : Int))) (List.drop (HT.sIx z.length 0 (some ((n + 1 : Nat) : Int))) z.cps.toList) = _
    rw [HT.sIx_none, HT.sIx_nat, Nat.min_eq_left (by omega), List.take_of_length_le (by rw [List.length_drop, tl_len]; exact Nat.le_refl _)]
  have l2 : (cutS z (some ((n + 1 : Nat) : Int)) none).length = z.length - (n + 1) := by rw [← tl_len, e2, List.length_drop, tl_len]
  have l1 := cut_len z n
  refine (nameB_iff _).mpr ⟨?_, ?_, fun x hx => ?_⟩
  · rw [app_len, app_len]; show 1 ≤ _ + 1 + _; omega
  · rw [app_len, app_len, l1, l2]; show min n z.length + 1 + (z.length - (n + 1)) ≤ 8; omega
  · rw [app_tl, app_tl] at hx
    rcases List.mem_append.mp hx with hx | hx
    · rcases List.mem_append.mp hx with hx | hx
      · rw [cut_tl] at hx
        exact a3 x (List.mem_of_mem_take hx)
      · rw [List.mem_singleton.mp hx]; exact hc
    · rw [e2] at hx
      exact a3 x (List.mem_of_mem_drop hx)
theorem two_dp {K : PySem.W.Frag} {H : Hp} {t : Addr} {a b : Int} (h : ShAt K H t a b) : Dp K H (.ref t) (.tuple [.int a, .int b]) := .tup h (.cons (.int a) (.cons (.int b) .nil))
theorem min_0 {i j : Int} (hi : 0 ≤ i) (hj : 0 ≤ j) : 0 ≤ (if j < i then j else i) := by split <;> omega
/-- what stands at a heap of law k05 -/
structure C5 (K : PySem.W.Frag) (H0 H : Hp) (o1 o2 o4 c1 c2 D : Addr) (k1 k2 k4 : List (Key × V)) (n1 n2 n4 : List Str) (f1 f2 : Sh) : Prop where
  r1 : H o1 = some (.dK k1)
  r2 : H o2 = some (.dK k2)
  r4 : H o4 = some (.dK k4)
  x1 : H c1 = some (.dK k1)
  x2 : H c2 = some (.dK k2)
  xd : H D = some (.lst [.ref c1, .ref c2])
  p1 : PgK K H k1 n1 f1
  p2 : PgK K H k2 n2 f2
  p4 : PgK K H k4 n4 (mxF f1 f2)
  e : Ex H0 H
theorem C5.ex {K : PySem.W.Frag} {H0 H H' : Hp} {o1 o2 o4 c1 c2 D : Addr} {k1 k2 k4 : List (Key × V)} {n1 n2 n4 : List Str} {f1 f2 : Sh} (c : C5 K H0 H o1 o2 o4 c1 c2 D k1 k2 k4 n1 n2 n4 f1 f2) (e : Ex H H') : C5 K H0 H' o1 o2 o4 c1 c2 D k1 k2 k4 n1 n2 n4 f1 f2 :=
  ⟨e _ _ c.r1, e _ _ c.r2, e _ _ c.r4, e _ _ c.x1, e _ _ c.x2, e _ _ c.xd, c.p1.et (Et.of e), c.p2.et (Et.of e), c.p4.et (Et.of e), c.e.trans e⟩
/-- total(page) -/
def sp_total (K : PySem.W.Frag) : Sp := fun vs H Q _ => ∃ (d : Addr) (kvs : List (Key × V)) (ks : List Str) (f : Sh), vs = [.ref d] ∧ H d = some (.dK kvs) ∧ PgK K H kvs ks f ∧ ks.length ≤ 1000 ∧ ∀ H', Ex H H' → Q (.int (totF ks f)) H'
end Gc
local macro_rules | `(tactic| walk_at "gc_pg") => `(tactic| first
  | assumption
  | (refine' Gc.PgK.et ?e ?h; (case h => assumption); (case e => walk_at "gc_et")))
local macro_rules | `(tactic| walk_at "gc_y") => `(tactic| first
  | walk_at "gc_pg"
  | exact Exists.intro _ (Evl.sq_of (by assumption))
  | exact Exists.intro _ (Evl.st_of (by assumption))
  | (refine' Gc.isD_of ?h; (case h => walk_at "gc_at")))
local macro_rules | `(tactic| walk_at "gc_x") => `(tactic| walk_at "gc_ra")

namespace Gc
open PySem L2 Evl
/-! ### what a page lacks -/
def rchB (f g : Sh) (z : Str) : Bool := reachB (f z).1 (f z).2 (g z).1 (g z).2
/-- the shares of g that f does not reach -/
def lackF (f g : Sh) : Sh := fun z => if rchB f g z = true then (0, 0) else g z
def lackK (ls : List Str) (f g : Sh) : List Str := ls.filter fun z => !rchB f g z
theorem mem_lackK {ls : List Str} {f g : Sh} {z : Str} : z ∈ lackK ls f g ↔ z ∈ ls ∧ rchB f g z = false := by
  unfold lackK
  rw [List.mem_filter]
  cases rchB f g z <;> simp
theorem lackK_nd {ls : List Str} {f g : Sh} (h : ls.Nodup) : (lackK ls f g).Nodup := List.Pairwise.filter _ h
theorem lackK_len {ls : List Str} {f g : Sh} : (lackK ls f g).length ≤ ls.length := List.length_filter_le _ _
theorem lackK_snoc {ls : List Str} {f g : Sh} {z : Str} : lackK (ls ++ [z]) f g = if rchB f g z = true then lackK ls f g else lackK ls f g ++ [z] := by
  unfold lackK
  rw [List.filter_append]
  cases h : rchB f g z <;> simp [List.filter, h]
theorem lackF_at {f g : Sh} {z : Str} (h : rchB f g z = false) : lackF f g z = g z := by
  unfold lackF
  rw [h]
  rfl
theorem rch_self (f : Sh) (z : Str) : rchB f f z = true := reachB_self _ _
theorem lackK_self {ls : List Str} {f : Sh} : lackK ls f f = [] := by
  unfold lackK
  exact List.filter_eq_nil_iff.mpr fun z _ => by rw [rch_self]; simp
theorem lackF_self {f : Sh} : lackF f f = fun _ => (0, 0) := by
  funext z
  unfold lackF
  rw [if_pos (rch_self f z)]
/-- all are reached iff nothing is lacking -/
theorem all_rch {ls : List Str} {f g : Sh} : (ls.all fun z => rchB f g z) = decide ((lackK ls f g).length = 0) := by
  cases h : ls.all fun z => rchB f g z with
  | true =>
    have : lackK ls f g = [] := List.filter_eq_nil_iff.mpr fun z hz => by rw [List.all_eq_true.mp h z hz]; simp
    rw [this]
    rfl
  | false =>
    obtain ⟨z, hz, hb⟩ := List.all_eq_false.mp h
    have hm : z ∈ lackK ls f g := mem_lackK.mpr ⟨hz, by cases q : rchB f g z with | true => exact absurd q hb | false => rfl⟩
    rw [decide_eq_false (fun e => by rw [List.eq_nil_of_length_eq_zero e] at hm; cases hm)]
theorem dictEq_nil {ks : List (Key × V)} {e : Key → Bool} : dictEqB ks [] e = decide (ks.length = 0) := by
  unfold dictEqB
  cases ks with
  | nil => rfl
  | cons p r =>
    rw [show decide ((p :: r).length = ([] : List (Key × V)).length) = false from decide_eq_false (by simp), Bool.false_and]
    exact (decide_eq_false (by simp)).symm
/-- the part of lackF on the first ones -/
def lackP (ls : List Str) (f g : Sh) : Sh := fun z => if z ∈ lackK ls f g then g z else (0, 0)
theorem lackP_nil {f g : Sh} : lackP [] f g = fun _ => (0, 0) := by
  funext z
  unfold lackP lackK
  rw [if_neg (by simp)]
theorem lackP_all {ls : List Str} {f g : Sh} (hg : ∀ z, ¬ z ∈ ls → g z = (0, 0)) : lackP ls f g = lackF f g := by
  funext z
  unfold lackP lackF
  by_cases c : z ∈ ls
  · cases h : rchB f g z with
    | true => rw [if_neg (fun q => by have := (mem_lackK.mp q).2; rw [h] at this; cases this), if_pos rfl]
    | false => rw [if_pos (mem_lackK.mpr ⟨c, h⟩), if_neg Bool.false_ne_true]
  · rw [if_neg (fun q => c (mem_lackK.mp q).1), hg z c]
    split <;> rfl
theorem lackP_yes {ls : List Str} {f g : Sh} {z : Str} (h : rchB f g z = true) : lackP (ls ++ [z]) f g = lackP ls f g := by
  have e : lackK (ls ++ [z]) f g = lackK ls f g := by rw [lackK_snoc, h]; rfl
  unfold lackP
  rw [e]
theorem lackP_no {ls : List Str} {f g : Sh} {z : Str} (h : rchB f g z = false) : lackP (ls ++ [z]) f g = setF (lackP ls f g) z (g z) := by
  have e : lackK (ls ++ [z]) f g = lackK ls f g ++ [z] := by rw [lackK_snoc, h]; rfl
  funext w
  show (if w ∈ lackK (ls ++ [z]) f g then g w else (0, 0)) = if w = z then g z else if w ∈ lackK ls f g then g w else (0, 0)
  rw [e]
  by_cases c : w = z
  · rw [if_pos c, if_pos (by rw [c]; simp), c]
  · rw [if_neg c]
    by_cases d : w ∈ lackK ls f g
    · rw [if_pos d, if_pos (List.mem_append_left _ d)]
    · rw [if_neg d, if_neg (by simp [d, c])]
/-- names are names, and no share is (0, 0) -/
structure NmP (ks : List Str) (f : Sh) : Prop where
  nm : NmOk ks
  pos : ∀ z ∈ ks, 0 < (f z).1 ∨ 0 < (f z).2
  lim : ∀ z, (f z).1 < LIM ∧ (f z).2 < LIM
theorem lim_pos : (0 : Int) < LIM := by decide
theorem NmP.nil : NmP [] (fun _ => (0, 0)) := ⟨NmOk.nil, fun z h => (by cases h), fun _ => ⟨lim_pos, lim_pos⟩⟩
theorem NmP.add {ks : List Str} {f : Sh} (h : NmP ks f) {z : Str} {a b : Int} (hz : nameB z = true) (hp : 0 < a ∨ 0 < b) (hl : a < LIM ∧ b < LIM) : NmP (addK ks z) (setF f z (a, b)) := by
  refine ⟨h.nm.add hz, fun w hw => ?_, fun w => ?_⟩
  · unfold setF
    split
    · exact hp
    · rename_i c
      exact h.pos w ((mem_addK.mp hw).resolve_right c)
  · unfold setF
    split
    · exact hl
    · exact h.lim w
theorem lim_min (i : Int) : (if (10 ^ (60 : Int).toNat - 1 : Int) < i then (10 ^ (60 : Int).toNat - 1 : Int) else i) < LIM := by
  have e : LIM = 10 ^ (60 : Int).toNat := rfl
  split <;> omega
theorem pos_of {a b : Int} (ha : 0 ≤ a) (hb : 0 ≤ b) (h : (decide (a = 0) && decide (b = 0)) = false) : 0 < a ∨ 0 < b := by
  by_cases c : a = 0
  · by_cases d : b = 0
    · rw [decide_eq_true c, decide_eq_true d] at h; cases h
    · right; omega
  · left; omega
end Gc
namespace Gc
open PySem L2 Evl
theorem sorted_filter {l : List Str} (p : Str → Bool) (h : PyProof.Rows.sortedS l = true) : PyProof.Rows.sortedS (l.filter p) = true := by
  refine PyProof.Rows.sortedS_of_pairwise _ (List.Pairwise.filter _ ?_)
  refine List.Pairwise.imp (fun {a b} q => ?_) (sorted_pw h)
  rw [PyProof.Rows.ltCps_eq, decide_eq_false_iff_not]
  exact List.not_lt.mpr q
theorem lackK_take {ys : List Str} {f g : Sh} {i : Nat} {z : Str} (h : ys[i]? = some z) : lackK (ys.take (i + 1)) f g = if rchB f g z = true then lackK (ys.take i) f g else lackK (ys.take i) f g ++ [z] := by
  rw [take_snoc h, lackK_snoc]
theorem addK_lack {ys : List Str} (nd : ys.Nodup) {f g : Sh} {i : Nat} {z : Str} (h : ys[i]? = some z) : addK (lackK (ys.take i) f g) z = lackK (ys.take i) f g ++ [z] := if_neg fun q => not_take nd h (mem_lackK.mp q).1
/-- where it is reached nothing is put, else its share -/
theorem lack_yes {ys : List Str} {f g : Sh} {i : Nat} {z : Str} (h : ys[i]? = some z) (b : rchB f g z = true) : lackK (ys.take (i + 1)) f g = lackK (ys.take i) f g ∧ lackP (ys.take (i + 1)) f g = lackP (ys.take i) f g := by
  refine ⟨by rw [lackK_take h, if_pos b], ?_⟩
  rw [take_snoc h, lackP_yes b]
theorem lack_no {ys : List Str} (nd : ys.Nodup) {f g : Sh} {i : Nat} {z : Str} (h : ys[i]? = some z) (b : rchB f g z = false) : lackK (ys.take (i + 1)) f g = addK (lackK (ys.take i) f g) z ∧ lackP (ys.take (i + 1)) f g = setF (lackP (ys.take i) f g) z ((g z).1, (g z).2) := by
  refine ⟨by rw [lackK_take h, if_neg (by rw [b]; exact Bool.false_ne_true), addK_lack nd h], ?_⟩
  rw [take_snoc h, lackP_no b]
/-- of the page without names all is lacking -/
theorem rch_zero {g : Sh} {z : Str} (h : 0 < (g z).1 ∨ 0 < (g z).2) : rchB (fun _ => (0, 0)) g z = false := by
  show (decide ((g z).1 ≤ 0) && decide ((g z).2 ≤ 0)) = false
  rcases h with h | h
  · rw [decide_eq_false (by omega), Bool.false_and]
  · rw [decide_eq_false (p := (g z).2 ≤ 0) (by omega), Bool.and_false]
theorem lackK_zero {ls : List Str} {g : Sh} (h : ∀ z ∈ ls, 0 < (g z).1 ∨ 0 < (g z).2) : lackK ls (fun _ => (0, 0)) g = ls := by
  unfold lackK
  exact List.filter_eq_self.mpr fun z hz => by rw [rch_zero (h z hz)]; rfl
/-- not reached: one of both is greater -/
theorem rch_or {a b c d : Int} : (decide (a < c) || decide (b < d)) = !reachB a b c d := by
  show _ = !(decide (c ≤ a) && decide (d ≤ b))
  by_cases h : a < c
  · rw [decide_eq_true h, decide_eq_false (p := c ≤ a) (by omega)]; rfl
  · rw [decide_eq_false h, decide_eq_true (p := c ≤ a) (by omega)]
    by_cases q : b < d
    · rw [decide_eq_true q, decide_eq_false (p := d ≤ b) (by omega)]; rfl
    · rw [decide_eq_false q, decide_eq_true (p := d ≤ b) (by omega)]; rfl
theorem reach_both {a b c d : Int} (h : reachB a b c d = true) : c ≤ a ∧ d ≤ b := by
  unfold reachB at h
  rw [Bool.and_eq_true] at h
  exact ⟨of_decide_eq_true h.1, of_decide_eq_true h.2⟩
theorem reach_not {a b c d : Int} (h : reachB a b c d = false) (h1 : ¬ a < c) : b < d := by
  unfold reachB at h
  rw [decide_eq_true (p := c ≤ a) (by omega), Bool.true_and] at h
  have := of_decide_eq_false h
  omega
/-- what stands at a heap of law k06 -/
structure C6 (K : PySem.W.Frag) (H0 H : Hp) (o1 o2 c1 c2 D : Addr) (k1 k2 : List (Key × V)) (n1 n2 : List Str) (f1 f2 : Sh) : Prop where
  r1 : H o1 = some (.dK k1)
  r2 : H o2 = some (.dK k2)
  x1 : H c1 = some (.dK k1)
  x2 : H c2 = some (.dK k2)
  xd : H D = some (.lst [.ref c1, .ref c2])
  p1 : PgK K H k1 n1 f1
  p2 : PgK K H k2 n2 f2
  e : Ex H0 H
theorem C6.ex {K : PySem.W.Frag} {H0 H H' : Hp} {o1 o2 c1 c2 D : Addr} {k1 k2 : List (Key × V)} {n1 n2 : List Str} {f1 f2 : Sh} (c : C6 K H0 H o1 o2 c1 c2 D k1 k2 n1 n2 f1 f2) (e : Ex H H') : C6 K H0 H' o1 o2 c1 c2 D k1 k2 n1 n2 f1 f2 :=
  ⟨e _ _ c.r1, e _ _ c.r2, e _ _ c.x1, e _ _ c.x2, e _ _ c.xd, c.p1.et (Et.of e), c.p2.et (Et.of e), c.e.trans e⟩
/-- all but the old ones stays -/
theorem ex_of_none {H H' : Hp} {r : Addr} (e : Ex H H') (h : H' r = none) : H r = none := by
  cases z : H r with
  | none => rfl
  | some o => have := e _ _ z; rw [h] at this; cases this
end Gc

local macro_rules | `(tactic| walk_at "gc_pg") => `(tactic| exact Gc.PgK.nil)

namespace Gc
open PySem L2 Evl
theorem len0 {α : Type} : ([] : List α).length < 1000 := by show 0 < 1000; decide
theorem len1 {α : Type} {a : α} : [a].length < 1000 := by show 1 < 1000; decide
theorem len2 {α : Type} {a b : α} : [a, b].length < 1000 := by show 2 < 1000; decide
/-- a hand: its name z, its page at d -/
abbrev insH (C dx : Addr) (z : Str) (d : Addr) : HO := .ins C dx [("name", .str z), ("known", .ref d)]
def addAt (p : Int) (s : Int × Int) (m : Int) : Int × Int := if p = 0 then (s.1 + m, s.2) else (s.1, s.2 + m)
theorem all_getD {P : V → Prop} {xs : List V} {i : Int} (h0 : 0 ≤ i) (h1 : i < xs.length) (h : ∀ v ∈ xs, P v) : P (xs.getD i.toNat .non) := h _ (getD_mem h0 h1)
theorem amount_bad {m : Int} (h : m < 1 ∨ 1000000000 < m) : amountB m = false := by
  unfold amountB
  rcases h with h | h
  · rw [decide_eq_false (by omega), Bool.false_and]
  · rw [decide_eq_false (p := m ≤ 1000000000) (by omega), Bool.and_false]
theorem totF_one {z : Str} {f : Sh} : totF [z] f = (f z).1 - (f z).2 := by unfold totF; simp
/-- the page of one name -/
def oneF (z : Str) (s : Int × Int) : Sh := fun w => if w = z then s else (0, 0)
theorem oneF_at {z : Str} {s : Int × Int} : oneF z s z = s := if_pos rfl
theorem oneF_ne {z w : Str} {s : Int × Int} (h : ¬ w = z) : oneF z s w = (0, 0) := if_neg h
theorem PgK.one {K : PySem.W.Frag} {H : Hp} {z : Str} {t : Addr} {s : Int × Int} (h : ShAt K H t s.1 s.2) : PgK K H [(.inr z, .ref t)] [z] (oneF z s) := by
  refine ⟨rfl, List.nodup_cons.mpr ⟨by simp, List.nodup_nil⟩, fun w v q => ?_, fun w hw => oneF_ne (fun c => hw (by rw [c]; simp))⟩
  have hm := valV_mem q
  have e : ((.inr w : Key), v) = (.inr z, V.ref t) := by simpa using hm
  cases e
  exact ⟨t, rfl, by rw [oneF_at]; exact h⟩
theorem mxF_one {f : Sh} {z : Str} {s : Int × Int} (hf : NN f) (h1 : (f z).1 ≤ s.1) (h2 : (f z).2 ≤ s.2) : mxF f (oneF z s) = setF f z s := by
  funext w
  show (gmax (f w).1 (oneF z s w).1, gmax (f w).2 (oneF z s w).2) = if w = z then s else f w
  by_cases c : w = z
  · rw [if_pos c, c, oneF_at]
    have g : ∀ i j : Int, i ≤ j → gmax i j = j := fun i j h => by unfold gmax; split <;> omega
    rw [g _ _ h1, g _ _ h2]
  · rw [if_neg c, oneF_ne c, gmax_0 (hf w).1, gmax_0 (hf w).2]
theorem addAt_ge {p : Int} {s : Int × Int} {m : Int} (hm : 0 ≤ m) : s.1 ≤ (addAt p s m).1 ∧ s.2 ≤ (addAt p s m).2 := by
  unfold addAt
  split
  · exact ⟨by show s.1 ≤ s.1 + m; omega, Int.le_refl _⟩
  · exact ⟨Int.le_refl _, by show s.2 ≤ s.2 + m; omega⟩
theorem amount_pos {m : Int} (h : amountB m = true) : 1 ≤ m := by
  unfold amountB at h
  simp only [Bool.and_eq_true, decide_eq_true_eq] at h
  exact h.1
theorem sqT_ins {K : PySem.W.Frag} {H : Hp} {p C dx : Addr} {fs : List (Str × V)} {o : HO} (h : H p = some (.ins C dx fs)) {a : Addr} {xs : List V} (q : SqT K H a xs) : SqT K (upd H p o) a xs := by
  rcases q with (q | ⟨od, q⟩) | q
  · exact .inl (.inl (by rw [upd_ne (fun z => by rw [z, h] at q; cases q)]; exact q))
  · exact .inl (.inr ⟨od, by rw [upd_ne (fun z => by rw [z, h] at q; cases q)]; exact q⟩)
  · exact .inr q
theorem PgK.ins {K : PySem.W.Frag} {H : Hp} {p C dx : Addr} {fs : List (Str × V)} {o : HO} (h : H p = some (.ins C dx fs)) {kvs : List (Key × V)} {ks : List Str} {f : Sh} (g : PgK K H kvs ks f) : PgK K (upd H p o) kvs ks f :=
  ⟨g.keys, g.nd, fun z v q => let ⟨t, h1, h2⟩ := g.at_ z v q; ⟨t, h1, sqT_ins h h2⟩, g.out⟩
theorem sqT_exs {K : PySem.W.Frag} {S : Addr → Prop} {H H' : Hp} (e : Exs S H H') (hS : ∀ p, S p → (∃ C dx fs, H p = some (.ins C dx fs)) ∨ ∃ xs, H p = some (.lst xs)) {a : Addr} {xs : List V} (q : SqT K H a xs) : SqT K H' a xs := by
  rcases q with (q | ⟨od, q⟩) | q
  · exact .inl (.inl (e _ _ (fun z => by rcases hS _ z with ⟨_, _, _, h⟩ | ⟨_, h⟩ <;> (rw [q] at h; cases h)) q))
  · exact .inl (.inr ⟨od, e _ _ (fun z => by rcases hS _ z with ⟨_, _, _, h⟩ | ⟨_, h⟩ <;> (rw [q] at h; cases h)) q⟩)
  · exact .inr q
/-- the hand at x, of the name z, that has raised a and lowered b -/
structure HandAt (K : PySem.W.Frag) (C : Addr) (H : Hp) (x : Addr) (z : Str) (a b : Int) : Prop where
  it : ∃ dx d kvs ks f, H x = some (insH C dx z d) ∧ H d = some (.dK kvs) ∧ PgK K H kvs ks f ∧ NN f ∧ 0 ≤ a ∧ 0 ≤ b ∧ ((a = 0 ∧ b = 0 ∧ ks = []) ∨ (¬ (a = 0 ∧ b = 0) ∧ ks = [z] ∧ f z = (a, b)))
theorem HandAt.exs {K : PySem.W.Frag} {C : Addr} {H H' : Hp} {x : Addr} {z : Str} {a b : Int} {S : Addr → Prop} (h : HandAt K C H x z a b) (e : Exs S H H') (hS : ∀ p, S p → (∃ C dx fs, H p = some (.ins C dx fs)) ∨ ∃ xs, H p = some (.lst xs)) (hx : ¬ S x) : HandAt K C H' x z a b := by
  obtain ⟨dx, d, kvs, ks, f, h1, h2, h3, h4, h5, h6, h7⟩ := h.it
  refine ⟨dx, d, kvs, ks, f, e _ _ hx h1, e _ _ (fun z => ?_) h2, ⟨h3.keys, h3.nd, fun z v q => let ⟨t, g1, g2⟩ := h3.at_ z v q; ⟨t, g1, sqT_exs e hS g2⟩, h3.out⟩, h4, h5, h6, h7⟩
  rcases hS _ z with ⟨_, _, _, h⟩ | ⟨_, h⟩ <;> (rw [h2] at h; cases h)
theorem HandAt.ex {K : PySem.W.Frag} {C : Addr} {H H' : Hp} {x : Addr} {z : Str} {a b : Int} (h : HandAt K C H x z a b) (e : Ex H H') : HandAt K C H' x z a b := h.exs (S := fun _ => False) (Exs.of e) (fun _ q => q.elim) id
theorem only_one {z : Str} : ∀ {ys : List Str}, ys.Nodup → (∀ w, w ∈ ys ↔ w = z) → ys = [z]
  | [], _, h => absurd ((h z).mpr rfl) (by simp)
  | [y], _, h => by rw [(h y).mp (by simp)]
  | y1 :: y2 :: r, nd, h => by
    have e1 := (h y1).mp (by simp)
    have e2 := (h y2).mp (by simp)
    have := (List.nodup_cons.mp nd).1
    rw [e1, e2] at this
    exact absurd (by simp) this
theorem HandAt.grown {K : PySem.W.Frag} {C : Addr} {H' : Hp} {x dx d' : Addr} {z : Str} {a b p m : Int} {ks ys : List Str} {f : Sh} {kvs' : List (Key × V)} (hout : ∀ w, ¬ w ∈ ks → f w = (0, 0)) (hnn : NN f) (ha : 0 ≤ a) (hb : 0 ≤ b) (hm : amountB m = true)
    (hc : (a = 0 ∧ b = 0 ∧ ks = []) ∨ (¬ (a = 0 ∧ b = 0) ∧ ks = [z] ∧ f z = (a, b))) (h1 : H' x = some (insH C dx z d')) (h2 : H' d' = some (.dK kvs')) (h3 : PgK K H' kvs' ys (setF f z (addAt p (f z) m))) (h4 : ∀ w, w ∈ ys ↔ w ∈ ks ∨ w = z) :
    HandAt K C H' x z (addAt p (a, b) m).1 (addAt p (a, b) m).2 ∧ totF ys (setF f z (addAt p (f z) m)) = (addAt p (a, b) m).1 - (addAt p (a, b) m).2 := by
  have hm1 := amount_pos hm
  have hfz : f z = (a, b) := by
    rcases hc with ⟨rfl, rfl, rfl⟩ | ⟨_, _, e⟩
    · exact hout z (by simp)
    · exact e
  have hys : ys = [z] := by
    refine only_one h3.nd (fun w => (h4 w).trans ?_)
    rcases hc with ⟨_, _, rfl⟩ | ⟨_, rfl, _⟩ <;> simp
  rw [hfz] at h3
  have hge := addAt_ge (p := p) (s := (a, b)) (m := m) (by omega)
  have hne : ¬ ((addAt p (a, b) m).1 = 0 ∧ (addAt p (a, b) m).2 = 0) := by
    unfold addAt
    split
    · show ¬ (a + m = 0 ∧ b = 0); omega
    · show ¬ (a = 0 ∧ b + m = 0); omega
  have g1 : a ≤ (addAt p (a, b) m).1 := hge.1
  have g2 : b ≤ (addAt p (a, b) m).2 := hge.2
  refine ⟨⟨dx, d', kvs', ys, _, h1, h2, h3, hnn.set (a := (addAt p (a, b) m).1) (b := (addAt p (a, b) m).2) (by omega) (by omega), by omega, by omega, .inr ⟨hne, hys, setF_same⟩⟩, ?_⟩
  rw [hys, totF_one, hfz, setF_same]
theorem make_ex {H H' : Hp} {x dx C : Addr} (hx : H x = none) (hdx : H dx = none) (e : Exs (fun a => a = x) (upd (upd H dx (.own x)) x (.ins C dx [])) H') : Ex H H' :=
  Exs.ex (Exs.trans (Exs.of (Ex.mut (Ex.new hdx) hx)) e) (fun a q => by rw [q]; exact hx)
theorem HandAt.new {K : PySem.W.Frag} {C : Addr} {H : Hp} {x dx d : Addr} {z : Str} (h1 : H x = some (insH C dx z d)) (h2 : H d = some (.dK [])) : HandAt K C H x z 0 0 :=
  ⟨dx, d, [], [], fun _ => (0, 0), h1, h2, PgK.nil, NN.zero, Int.le_refl _, Int.le_refl _, .inl ⟨rfl, rfl, rfl⟩⟩
theorem name_len {z : Str} (h : nameB z = true) : z.length ≤ 100000 := by have := ((nameB_iff z).mp h).2.1; omega
/-- what stands at a heap of law k07 -/
structure C7 (K : PySem.W.Frag) (C : Addr) (H0 H : Hp) (L1 L2 L3 s0 s1 x0 x1 : Addr) (z0 z1 : Str) : Prop where
  e : Ex H0 H
  l1 : H L1 = some (.lst [.str z0, .str z1])
  l2 : H L2 = some (.lst [.ref x0, .ref x1])
  l3 : H L3 = some (.lst [.ref s0, .ref s1])
  w0 : ∃ a b, H s0 = some (.lst [.int a, .int b]) ∧ HandAt K C H x0 z0 a b
  w1 : ∃ a b, H s1 = some (.lst [.int a, .int b]) ∧ HandAt K C H x1 z1 a b
section
variable {K : PySem.W.Frag} {C : Addr} {H0 H H' : Hp} {L1 L2 L3 s0 s1 x0 x1 : Addr} {z0 z1 : Str}
theorem C7.ex (c : C7 K C H0 H L1 L2 L3 s0 s1 x0 x1 z0 z1) (e : Ex H H') : C7 K C H0 H' L1 L2 L3 s0 s1 x0 x1 z0 z1 := by
  obtain ⟨a0, b0, g0, k0⟩ := c.w0
  obtain ⟨a1, b1, g1, k1⟩ := c.w1
  exact ⟨c.e.trans e, e _ _ c.l1, e _ _ c.l2, e _ _ c.l3, ⟨a0, b0, e _ _ g0, k0.ex e⟩, ⟨a1, b1, e _ _ g1, k1.ex e⟩⟩
/-- one of both hands: what it is, and what is left to tell where it changed -/
theorem C7.pick (c : C7 K C H0 H L1 L2 L3 s0 s1 x0 x1 z0 z1) (hx : x0 ≠ x1) (hs : s0 ≠ s1) (n0 : H0 s0 = none) (n1 : H0 s1 = none) (m0 : H0 x0 = none) (m1 : H0 x1 = none) (g0 : nameB z0 = true) (g1 : nameB z1 = true) {i : Int} (hi : i = 0 ∨ i = 1) :
    ∃ s x z a b, atI [V.ref s0, .ref s1] i = some (.ref s) ∧ atI [V.ref x0, .ref x1] i = some (.ref x) ∧ atI [V.str z0, .str z1] i = some (.str z) ∧ nameB z = true ∧ H s = some (.lst [.int a, .int b]) ∧ HandAt K C H x z a b ∧ H0 s = none ∧ H0 x = none ∧
      ∀ H' a' b', Exs (fun b => b = x ∨ b = s) H H' → H' s = some (.lst [.int a', .int b']) → HandAt K C H' x z a' b' → C7 K C H0 H' L1 L2 L3 s0 s1 x0 x1 z0 z1 := by
  obtain ⟨a0, b0, t0, k0⟩ := c.w0
  obtain ⟨a1, b1, t1, k1⟩ := c.w1
  have key : ∀ {s x s' x' : Addr} {z z' : Str} {a b a' b' : Int}, x' ≠ x → s' ≠ s → H0 s = none → H0 x = none → H s = some (.lst [.int a, .int b]) → HandAt K C H x z a b → H s' = some (.lst [.int a', .int b']) → HandAt K C H x' z' a' b' →
      ∀ H', Exs (fun b => b = x ∨ b = s) H H' → Ex H0 H' ∧ H' L1 = some (.lst [.str z0, .str z1]) ∧ H' L2 = some (.lst [.ref x0, .ref x1]) ∧ H' L3 = some (.lst [.ref s0, .ref s1]) ∧ H' s' = some (.lst [.int a', .int b']) ∧ HandAt K C H' x' z' a' b' := by
    intro s x s' x' z z' a b a' b' hx hs ns nx hs1 hx1 hs2 hx2 H' e
    obtain ⟨dx, d, kvs, ks, f, q1, _⟩ := hx1.it
    have nl : ∀ L y r, H L = some (.lst (y :: r)) → (∀ i, y ≠ .int i) → ¬ (L = x ∨ L = s) := fun L y r q hy z => by
      rcases z with rfl | rfl
      · rw [q1] at q; cases q
      · rw [hs1] at q; cases q; exact hy _ rfl
    refine ⟨fun b o q => e b o (fun z => by rcases z with rfl | rfl <;> simp_all) (c.e b o q), e _ _ (nl _ _ _ c.l1 (by intro i z; cases z)) c.l1, e _ _ (nl _ _ _ c.l2 (by intro i z; cases z)) c.l2, e _ _ (nl _ _ _ c.l3 (by intro i z; cases z)) c.l3, e _ _ (fun z => ?_) hs2, hx2.exs e (fun p hp => ?_) (fun z => ?_)⟩
    · rcases z with rfl | z
      · rw [q1] at hs2; cases hs2
      · exact hs z
    · rcases hp with rfl | rfl
      · exact .inl ⟨_, _, _, q1⟩
      · exact .inr ⟨_, hs1⟩
    · rcases z with z | rfl
      · exact hx z
      · obtain ⟨_, _, _, _, _, q2, _⟩ := hx2.it
        rw [hs1] at q2; cases q2
  rcases hi with rfl | rfl
  · refine ⟨s0, x0, z0, a0, b0, rfl, rfl, rfl, g0, t0, k0, n0, m0, fun H' a' b' e h1 h2 => ?_⟩
    obtain ⟨q0, q1, q2, q3, q4, q5⟩ := key (Ne.symm hx) (Ne.symm hs) n0 m0 t0 k0 t1 k1 H' e
    exact ⟨q0, q1, q2, q3, ⟨_, _, h1, h2⟩, ⟨_, _, q4, q5⟩⟩
  · refine ⟨s1, x1, z1, a1, b1, rfl, rfl, rfl, g1, t1, k1, n1, m1, fun H' a' b' e h1 h2 => ?_⟩
    obtain ⟨q0, q1, q2, q3, q4, q5⟩ := key hx hs n1 m1 t1 k1 t0 k0 H' e
    exact ⟨q0, q1, q2, q3, ⟨_, _, q4, q5⟩, ⟨_, _, h1, h2⟩⟩
end
/-- how the five classes of errors answer isinstance, and what kind tells -/
inductive KindOf : Bool → Bool → Bool → Bool → Bool → Str → Prop
  | name : KindOf true false false false false "name"
  | amount : KindOf false true false false false "amount"
  | page : KindOf false false true false false "page"
  | forged : KindOf false false false true false "forged"
  | note : KindOf false false false false true "note"
end Gc
local macro_rules | `(tactic| walk_at "gc_pg") => `(tactic| first
  | exact fun _ h => h
  | with_reducible exact Gc.len0
  | with_reducible exact Gc.len1
  | with_reducible exact Gc.len2
  | exact L2.upd_same
  | exact Or.inl (Evl.sq_of L2.upd_same)
  | exact Exists.intro _ (Evl.sq_of L2.upd_same)
  | exact Evl.sq_of L2.upd_same)

namespace Gc
open PySem L2 Evl
/-- a page as is_page wants it -/
theorem PgK.pageJ {K : PySem.W.Frag} {H : Hp} {kvs : List (Key × V)} {ks : List Str} {f : Sh} (h : PgK K H kvs ks f) (hn : NN f) (hp : NmP ks f) (hl : ks.length ≤ 200) : PageJ K H kvs true := by
  have hk : ∀ p ∈ kvs, ∃ z ∈ ks, p.1 = .inr z := fun p hp => by
    have q : p.1 ∈ kvs.map (·.1) := List.mem_map.mpr ⟨p, hp, rfl⟩
    rw [h.keys] at q
    obtain ⟨z, hz, e⟩ := List.mem_map.mp q
    exact ⟨z, hz, e.symm⟩
  have hlen := h.len
  refine ⟨fun p hp' => ?_, by omega, fun k => match k with | .inr z => pairB (some (f z).1) (some (f z).2) | .inl _ => false, fun k v q => ?_, ?_⟩
  · obtain ⟨z, hz, e⟩ := hk p hp'
    rw [e]
    show z.length ≤ 100000
    have := ((nameB_iff z).mp (hp.nm z hz)).2.1
    omega
  · have hm := valV_mem q
    obtain ⟨z, hz, e⟩ := hk _ hm
    have e' : k = .inr z := e
    subst e'
    obtain ⟨t, ht, hs⟩ := h.at_ z v q
    subst ht
    exact .two hs (.int _) (.int _)
  · rw [decide_eq_true (by omega), Bool.true_and]
    refine (List.all_eq_true.mpr fun p hp' => ?_).symm
    obtain ⟨z, hz, e⟩ := hk p hp'
    rw [e]
    show (nameB z && pairB (some (f z).1) (some (f z).2)) = true
    have h1 := hn z
    have h2 := hp.lim z
    have h3 := hp.pos z hz
    rw [hp.nm z hz]
    unfold pairB goodN
    simp only [Bool.true_and, Bool.and_eq_true, decide_eq_true_eq]
    exact ⟨⟨h1.1, h2.1⟩, ⟨h1.2, h2.2⟩, by omega⟩
/-- no page: a dict that is none, or no dict -/
def NoPg (K : PySem.W.Frag) (H : Hp) (v : V) : Prop := (∃ (e : Addr) (kvs : List (Key × V)), v = .ref e ∧ H e = some (.dK kvs) ∧ PageJ K H kvs false) ∨ ∃ t : String, TyX K H v (.type t) ∧ PySem.W.kitOne K (.type t) (.type "dict") = some false
end Gc
namespace Gc
open PySem L2 Evl
theorem let_inj8 {i j : Int} {s : Nat} (h1 : atI LET.cps.toList i = some s) (h2 : atI LET.cps.toList j = some s) (i0 : 0 ≤ i) (i1 : i < 26) (j0 : 0 ≤ j) (j1 : j < 26) : i = j := by
  have nd : LET.cps.toList.Nodup := by decide +kernel
  have hl : LET.cps.toList.length = 26 := by decide +kernel
  have key : ∀ k : Int, 0 ≤ k → k < 26 → ∀ s, atI LET.cps.toList k = some s → LET.cps.toList[k.toNat]? = some s := fun k k0 k1 s h => by
    have hk : k.toNat < LET.cps.toList.length := by omega
    have q : atI LET.cps.toList ((k.toNat : Nat) : Int) = some LET.cps.toList[k.toNat] := atI_nat (List.getElem?_eq_getElem hk)
    rw [show ((k.toNat : Nat) : Int) = k by omega, h] at q
    rw [List.getElem?_eq_getElem hk, Option.some.inj q]
  obtain ⟨hi, e1⟩ := List.getElem?_eq_some_iff.mp (key i i0 i1 s h1)
  obtain ⟨hj, e2⟩ := List.getElem?_eq_some_iff.mp (key j j0 j1 s h2)
  have pw := List.pairwise_iff_getElem.mp (List.nodup_iff_pairwise_ne.mp nd)
  rcases Nat.lt_trichotomy i.toNat j.toNat with c | c | c
  · exact absurd (e1.trans e2.symm) (pw _ _ hi hj c)
  · omega
  · exact absurd (e2.trans e1.symm) (pw _ _ hj hi c)
/-- the many names -/
def NmQ (j : Nat) (z : Str) : Prop := ∃ s1 s2, atI LET.cps.toList ((j : Int) % 26) = some s1 ∧ atI LET.cps.toList ((j : Int) / 26) = some s2 ∧ z = (⟨#[s1]⟩ ++ ⟨#[s2]⟩ : Str) ++ ("q" : Str)
theorem nmQ_inj {i j : Nat} {z : Str} (h1 : NmQ i z) (h2 : NmQ j z) (hi : i < 201) (hj : j < 201) : i = j := by
  obtain ⟨a1, a2, x1, x2, x3⟩ := h1
  obtain ⟨b1, b2, y1, y2, y3⟩ := h2
  rw [x3] at y3
  have e := congrArg (fun z : Str => z.cps.toList) y3
  simp only [app_tl] at e
  have e1 : a1 = b1 := (List.cons.inj e).1
  have e2 : a2 = b2 := (List.cons.inj (List.cons.inj e).2).1
  subst e1 e2
  have q1 := let_inj8 x1 y1 (by omega) (by omega) (by omega) (by omega)
  have q2 := let_inj8 x2 y2 (by omega) (by omega) (by omega) (by omega)
  omega
theorem nmQ_nd {zs : List Str} (h : ∀ j z, zs[j]? = some z → NmQ j z) (hl : zs.length ≤ 201) : zs.Nodup := by
  refine List.nodup_iff_pairwise_ne.mpr (List.pairwise_iff_getElem.mpr fun i j hi hj hij e => ?_)
  have := nmQ_inj (h i _ (List.getElem?_eq_getElem hi)) (by rw [e]; exact h j _ (List.getElem?_eq_getElem hj)) (by omega) (by omega)
  omega
theorem nameB_q {s1 s2 : Nat} (h1 : s1 ∈ LET.cps.toList) (h2 : s2 ∈ LET.cps.toList) : nameB ((⟨#[s1]⟩ ++ ⟨#[s2]⟩ : Str) ++ ("q" : Str)) = true := by
  refine (nameB_iff _).mpr ⟨?_, ?_, fun x hx => ?_⟩
  · rw [app_len, app_len]; show 1 ≤ 1 + 1 + 1; decide
  · rw [app_len, app_len]; show 1 + 1 + 1 ≤ 8; decide
  · rw [app_tl, app_tl] at hx
    have hx' : x ∈ [s1] ++ [s2] ++ [113] := hx
    simp only [List.mem_append, List.mem_cons, List.not_mem_nil, or_false] at hx'
    rcases hx' with (rfl | rfl) | rfl
    · exact h1
    · exact h2
    · decide +kernel
theorem PgK.allOk {K : PySem.W.Frag} {H : Hp} {kvs : List (Key × V)} {ks : List Str} {f : Sh} (h : PgK K H kvs ks f) (hn : NN f) (hp : NmP ks f) : AllOk K H kvs := fun p hp' => by
  have q : p.1 ∈ kvs.map (·.1) := List.mem_map.mpr ⟨p, hp', rfl⟩
  rw [h.keys] at q
  obtain ⟨z, hz, e⟩ := List.mem_map.mp q
  have nd : (kvs.map (·.1)).Nodup := by rw [h.keys]; exact List.Pairwise.map _ (fun a b n e => n (Sum.inr.inj e)) h.nd
  obtain ⟨t, ht, hs⟩ := h.there hz
  rw [e, val_nodup nd p hp'] at ht
  have e2 : p.2 = .ref t := Option.some.inj ht
  rw [← e, e2]
  refine ⟨hp.nm z hz, ?_⟩
  have h1 := hn z
  have h2 := hp.lim z
  have h3 := hp.pos z hz
  have hb : pairB (some (f z).1) (some (f z).2) = true := by
    unfold pairB goodN
    simp only [Bool.and_eq_true, decide_eq_true_eq]
    exact ⟨⟨h1.1, h2.1⟩, ⟨h1.2, h2.2⟩, by omega⟩
  rw [← hb]
  exact .two hs (.int _) (.int _)
theorem mem_put {kvs : List (Key × V)} {k : Key} {v : V} {p : Key × V} (h : p ∈ putK kvs k v) : p = (k, v) ∨ p ∈ kvs := by
  unfold putK at h
  split at h
  · obtain ⟨q, hq, e⟩ := List.mem_map.mp h
    by_cases c : q.1 = k
    · rw [if_pos c] at e
      left
      rw [← e, c]
    · rw [if_neg c] at e
      right
      rw [← e]
      exact hq
  · rcases List.mem_append.mp h with c | c
    · exact .inr c
    · exact .inl (List.mem_singleton.mp c)
theorem put_mem {kvs : List (Key × V)} {k : Key} {v : V} : (k, v) ∈ putK kvs k v := valV_mem (by rw [valV_put, if_pos rfl])
theorem AllOk.put {K : PySem.W.Frag} {H : Hp} {kvs : List (Key × V)} {k : Key} {v : V} (h : AllOk K H kvs) (hk : keyB k = true) (hv : ShJ K H v true) : AllOk K H (putK kvs k v) := fun p hp => by
  rcases mem_put hp with rfl | q
  · exact ⟨hk, hv⟩
  · exact h p q
theorem AllOk.odd {K : PySem.W.Frag} {H : Hp} {kvs : List (Key × V)} {k : Key} {v : V} {b : Bool} (h : AllOk K H kvs) (hv : ShJ K H v b) (e : (keyB k && b) = false) : OneOdd K H (putK kvs k v) :=
  ⟨(k, v), put_mem, b, hv, e, fun p hp => (mem_put hp).imp id fun q => (h p q).2⟩
theorem AllOk.sz {K : PySem.W.Frag} {H : Hp} {kvs : List (Key × V)} (h : AllOk K H kvs) : ∀ p ∈ kvs, keySz p.1 := fun p hp => by
  have q := (h p hp).1
  cases e : p.1 with
  | inl n => trivial
  | inr z =>
    rw [e] at q
    have := ((nameB_iff z).mp q).2.1
    show z.length ≤ 100000
    omega
theorem sz_put {kvs : List (Key × V)} {k : Key} {v : V} (h : ∀ p ∈ kvs, keySz p.1) (hk : keySz k) : ∀ p ∈ putK kvs k v, keySz p.1 := fun p hp => by
  rcases mem_put hp with rfl | q
  · exact hk
  · exact h p q
theorem PgK.ndk {K : PySem.W.Frag} {H : Hp} {kvs : List (Key × V)} {ks : List Str} {f : Sh} (h : PgK K H kvs ks f) : (kvs.map (·.1)).Nodup := by
  rw [h.keys]; exact List.Pairwise.map _ (fun a b n e => n (Sum.inr.inj e)) h.nd
theorem keyPut {kvs : List (Key × V)} {k k0 : Key} {v : V} : k ∈ (putK kvs k0 v).map (·.1) ↔ k ∈ kvs.map (·.1) ∨ k = k0 := by
  have iff : ∀ {kvs : List (Key × V)} {k : Key}, k ∈ kvs.map (·.1) ↔ (valV kvs k).isSome = true := by
    intro kvs k
    constructor
    · intro h
      obtain ⟨p, hp, e⟩ := List.mem_map.mp h
      obtain ⟨v, hv⟩ := valV_some hp
      rw [← e, hv]
      rfl
    · intro h
      cases q : valV kvs k with
      | none => rw [q] at h; cases h
      | some v => exact valV_in q
  rw [iff, iff, valV_put]
  by_cases c : k = k0
  · rw [if_pos c]; simp [c]
  · rw [if_neg c]; simp [c]
end Gc
namespace Gc
open PySem L2 Evl
/-- two pages of the same names and shares are alike -/
theorem PgK.alike {K : PySem.W.Frag} {H : Hp} {kvs kvs2 : List (Key × V)} {ks ls : List Str} {f g : Sh} (h : PgK K H kvs ks f) (q : PgK K H kvs2 ls g) (hm : ∀ w, w ∈ ks ↔ w ∈ ls) (hf : ∀ w ∈ ks, f w = g w) :
    (∀ p ∈ kvs, ∀ v', valV kvs2 p.1 = some v' → EqJ K H p.2 v' ((fun _ => true) p.1)) ∧ dictEqB kvs kvs2 (fun _ => true) = true := by
  have hk : ∀ p ∈ kvs, ∃ z ∈ ks, p.1 = .inr z := fun p hp => by
    have c : p.1 ∈ kvs.map (·.1) := List.mem_map.mpr ⟨p, hp, rfl⟩
    rw [h.keys] at c
    obtain ⟨z, hz, e⟩ := List.mem_map.mp c
    exact ⟨z, hz, e.symm⟩
  refine ⟨fun p hp v' hv => ?_, ?_⟩
  · obtain ⟨z, hz, e⟩ := hk p hp
    obtain ⟨t, ht, hs⟩ := h.there hz
    rw [e] at hv
    obtain ⟨t2, rfl, hs2⟩ := q.at_ z v' hv
    have e2 : p.2 = .ref t := by
      have c := val_nodup h.ndk p hp
      rw [e, ht] at c
      exact (Option.some.inj c).symm
    rw [e2]
    rw [← hf z hz] at hs2
    refine .inr ⟨_, _, two_dp hs, two_dp hs2, shp2 _ _, shp2 _ _, ?_⟩
    rw [eqv2, decide_eq_true rfl, decide_eq_true rfl]
    rfl
  · have hl : ks.length = ls.length := Nat.le_antisymm (nd_len h.nd fun w hw => (hm w).mp hw) (nd_len q.nd fun w hw => (hm w).mpr hw)
    unfold dictEqB
    rw [h.len, q.len, decide_eq_true hl, Bool.true_and]
    refine List.all_eq_true.mpr fun p hp => ?_
    obtain ⟨z, hz, e⟩ := hk p hp
    obtain ⟨t, ht, _⟩ := q.there ((hm z).mp hz)
    rw [e, ht]
    rfl
theorem NmP.of {ks ls : List Str} {f : Sh} (h : NmP ks f) (hm : ∀ w, w ∈ ls ↔ w ∈ ks) : NmP ls f := ⟨fun z hz => h.nm z ((hm z).mp hz), fun z hz => h.pos z ((hm z).mp hz), h.lim⟩
theorem mem_lack_of {ks ls : List Str} {f g : Sh} (hm : ∀ w, w ∈ ks ↔ w ∈ ls) (w : Str) : w ∈ lackK ks f g ↔ w ∈ lackK ls f g := by rw [mem_lackK, mem_lackK, hm w]
theorem gmax_lt {i j k : Int} (h1 : i < k) (h2 : j < k) : gmax i j < k := by unfold gmax; split <;> omega
theorem NmP.mx {ks ls ms : List Str} {f g : Sh} (h : NmP ks f) (q : NmP ls g) (hf : NN f) (hg : NN g) (hm : ∀ w, w ∈ ms ↔ w ∈ ks ∨ w ∈ ls) : NmP ms (mxF f g) := by
  refine ⟨fun z hz => ((hm z).mp hz).elim (h.nm z) (q.nm z), fun z hz => ?_, fun z => ⟨gmax_lt (h.lim z).1 (q.lim z).1, gmax_lt (h.lim z).2 (q.lim z).2⟩⟩
  show 0 < gmax (f z).1 (g z).1 ∨ 0 < gmax (f z).2 (g z).2
  have h1 := hf z
  have h2 := hg z
  unfold gmax
  rcases (hm z).mp hz with c | c
  · have := h.pos z c
    split <;> split <;> omega
  · have := q.pos z c
    split <;> split <;> omega
theorem NNmx {f g : Sh} (hf : NN f) (hg : NN g) : NN (mxF f g) := fun z => by
  have h1 := hf z
  have h2 := hg z
  show 0 ≤ gmax (f z).1 (g z).1 ∧ 0 ≤ gmax (f z).2 (g z).2
  unfold gmax
  constructor
  · split <;> omega
  · split <;> omega
theorem mx_trust {f g : Sh} {z : Str} (h : rchB f g z = true) : mxF f g z = f z := by
  have q : reachB (f z).1 (f z).2 (g z).1 (g z).2 = true := h
  unfold reachB at q
  rw [Bool.and_eq_true, decide_eq_true_eq, decide_eq_true_eq] at q
  show (gmax (f z).1 (g z).1, gmax (f z).2 (g z).2) = f z
  unfold gmax
  rw [if_neg (by omega), if_neg (by omega)]
theorem tyV_dct {K : PySem.W.Frag} {H : Hp} {a : Addr} {kvs : List (Key × V)} (h : H a = some (.dK kvs)) : tyV K "dict" (.ref a) H := .inr (.inr (.inl ⟨rfl, .inl ⟨_, h⟩⟩))
theorem PgK.tps {K : PySem.W.Frag} {H H' : Hp} {kvs : List (Key × V)} {ks : List Str} {f : Sh} (h : PgK K H kvs ks f) (e : ∀ a xs, SqT K H a xs → SqT K H' a xs) : PgK K H' kvs ks f :=
  ⟨h.keys, h.nd, fun z v q => let ⟨t, h1, h2⟩ := h.at_ z v q; ⟨t, h1, e _ _ h2⟩, h.out⟩
theorem NoPg.ex {K : PySem.W.Frag} {H H' : Hp} {v : V} (e : Ex H H') (h : NoPg K H v) : NoPg K H' v := by
  rcases h with ⟨p, kvs, h1, h2, h3⟩ | ⟨t, h1, h2⟩
  · exact .inl ⟨p, kvs, h1, e _ _ h2, h3.et (Et.of e)⟩
  · exact .inr ⟨t, tyx_mono e h1, h2⟩
/-- the hand at the start: what it raised and lowered -/
structure HS (K : PySem.W.Frag) (C : Addr) (H : Hp) (x dx : Addr) (z : Str) (a b : Int) : Prop where
  it : ∃ d kvs ks, H x = some (insH C dx z d) ∧ H d = some (.dK kvs) ∧ PgK K H kvs ks (oneF z (a, b)) ∧ PyProof.Rows.sortedS ks = true ∧ ∀ w, w ∈ ks ↔ w = z ∧ (0 < a ∨ 0 < b)
theorem oneF_zero {z : Str} : oneF z (0, 0) = fun _ => (0, 0) := by
  funext w
  unfold oneF
  split <;> rfl
theorem setF_one {z : Str} {s s' : Int × Int} : setF (oneF z s) z s' = oneF z s' := by
  funext w
  unfold setF oneF
  by_cases c : w = z
  · rw [if_pos c, if_pos c]
  · rw [if_neg c, if_neg c, if_neg c]
theorem oneF_nn {z : Str} {a b : Int} (ha : 0 ≤ a) (hb : 0 ≤ b) : NN (oneF z (a, b)) := fun w => by
  unfold oneF
  split
  · exact ⟨ha, hb⟩
  · exact ⟨Int.le_refl _, Int.le_refl _⟩
theorem oneF_nm {z : Str} {a b : Int} {kl : List Str} (hz : nameB z = true) (ha : a ≤ 14) (hb : b ≤ 2) (h : ∀ w, w ∈ kl ↔ w = z ∧ (0 < a ∨ 0 < b)) : NmP kl (oneF z (a, b)) := by
  refine ⟨fun w hw => by rw [((h w).mp hw).1]; exact hz, fun w hw => by rw [((h w).mp hw).1, oneF_at]; exact ((h w).mp hw).2, fun w => ?_⟩
  unfold oneF
  split
  · exact ⟨by show a < 10 ^ 60; omega, by show b < 10 ^ 60; omega⟩
  · exact ⟨lim_pos, lim_pos⟩
theorem HS.new {K : PySem.W.Frag} {C : Addr} {H : Hp} {x dx d : Addr} {z : Str} (h1 : H x = some (insH C dx z d)) (h2 : H d = some (.dK [])) : HS K C H x dx z 0 0 :=
  ⟨d, [], [], h1, h2, by rw [oneF_zero]; exact PgK.nil, rfl, fun w => ⟨fun q => (by cases q), fun q => absurd q.2 (by omega)⟩⟩
end Gc

namespace Gc
open PySem L2 Evl
/-! ### pages joined in any order -/
def leSh (f g : Sh) : Prop := ∀ z, (f z).1 ≤ (g z).1 ∧ (f z).2 ≤ (g z).2
theorem leSh.antisymm {f g : Sh} (h1 : leSh f g) (h2 : leSh g f) : f = g := by
  funext z
  exact Prod.ext (Int.le_antisymm (h1 z).1 (h2 z).1) (Int.le_antisymm (h1 z).2 (h2 z).2)
theorem gmax_le {i j k : Int} : gmax i j ≤ k ↔ i ≤ k ∧ j ≤ k := by unfold gmax; split <;> omega
theorem mxF_le {f g h : Sh} : leSh (mxF f g) h ↔ leSh f h ∧ leSh g h := by
  constructor
  · intro q
    exact ⟨fun z => ⟨(gmax_le.mp (q z).1).1, (gmax_le.mp (q z).2).1⟩, fun z => ⟨(gmax_le.mp (q z).1).2, (gmax_le.mp (q z).2).2⟩⟩
  · rintro ⟨q1, q2⟩ z
    exact ⟨gmax_le.mpr ⟨(q1 z).1, (q2 z).1⟩, gmax_le.mpr ⟨(q1 z).2, (q2 z).2⟩⟩
theorem leSh.refl (f : Sh) : leSh f f := fun _ => ⟨Int.le_refl _, Int.le_refl _⟩
/-- a page as the lists hold it: where it stands, its items, names, shares -/
structure Rc where
  d : Addr
  kvs : List (Key × V)
  ks : List Str
  f : Sh
abbrev Rc.v (r : Rc) : V := .ref r.d
structure RcOk (K : PySem.W.Frag) (H : Hp) (r : Rc) : Prop where
  at_ : H r.d = some (.dK r.kvs)
  pg : PgK K H r.kvs r.ks r.f
  nn : NN r.f
theorem RcOk.ex {K : PySem.W.Frag} {H H' : Hp} {r : Rc} (h : RcOk K H r) (e : Ex H H') : RcOk K H' r := ⟨e _ _ h.at_, h.pg.et (Et.of e), h.nn⟩
structure RcGood (r : Rc) : Prop where
  nm : NmP r.ks r.f
  zz : ¬ ("zzzzzzzz" : Str) ∈ r.ks
  len : r.ks.length ≤ 96
def supF : List Rc → Sh
  | [] => fun _ => (0, 0)
  | r :: rs => mxF r.f (supF rs)
def InK (rs : List Rc) (w : Str) : Prop := ∃ r ∈ rs, w ∈ r.ks
theorem NN.mx {f g : Sh} (hf : NN f) (hg : NN g) : NN (mxF f g) := fun z => by
  have h1 := hf z
  have h2 := hg z
  show 0 ≤ gmax (f z).1 (g z).1 ∧ 0 ≤ gmax (f z).2 (g z).2
  unfold gmax
  constructor
  · split <;> omega
  · split <;> omega
theorem supF_nn : ∀ {rs : List Rc}, (∀ r ∈ rs, NN r.f) → NN (supF rs)
  | [], _ => NN.zero
  | r :: rs, h => (h r List.mem_cons_self).mx (supF_nn fun q hq => h q (List.mem_cons_of_mem _ hq))
theorem supF_le {g : Sh} (hg : NN g) : ∀ {rs : List Rc}, leSh (supF rs) g ↔ ∀ r ∈ rs, leSh r.f g
  | [] => ⟨fun _ r hr => (by cases hr), fun _ z => hg z⟩
  | r :: rs => by
    show leSh (mxF r.f (supF rs)) g ↔ _
    rw [mxF_le, supF_le hg (rs := rs)]
    constructor
    · rintro ⟨h1, h2⟩ q hq
      rcases List.mem_cons.mp hq with c | c
      · rw [c]; exact h1
      · exact h2 q c
    · intro h
      exact ⟨h r List.mem_cons_self, fun q hq => h q (List.mem_cons_of_mem _ hq)⟩
theorem supF_ge {rs : List Rc} (h : ∀ r ∈ rs, NN r.f) {r : Rc} (hr : r ∈ rs) : leSh r.f (supF rs) := (supF_le (supF_nn h)).mp (leSh.refl _) r hr
theorem supF_eq {rs qs : List Rc} (h1 : ∀ r ∈ rs, NN r.f) (h2 : ∀ r ∈ qs, NN r.f) (h : ∀ r, r ∈ rs ↔ r ∈ qs) : supF rs = supF qs :=
  leSh.antisymm ((supF_le (supF_nn h2)).mpr fun r hr => supF_ge h2 ((h r).mp hr)) ((supF_le (supF_nn h1)).mpr fun r hr => supF_ge h1 ((h r).mpr hr))
theorem supF_app {rs qs : List Rc} (h1 : ∀ r ∈ rs, NN r.f) (h2 : ∀ r ∈ qs, NN r.f) : mxF (supF rs) (supF qs) = supF (rs ++ qs) := by
  have h3 : ∀ r ∈ rs ++ qs, NN r.f := fun r hr => (List.mem_append.mp hr).elim (h1 r) (h2 r)
  refine leSh.antisymm (mxF_le.mpr ⟨(supF_le (supF_nn h3)).mpr fun r hr => supF_ge h3 (List.mem_append_left _ hr), (supF_le (supF_nn h3)).mpr fun r hr => supF_ge h3 (List.mem_append_right _ hr)⟩) ((supF_le ((supF_nn h1).mx (supF_nn h2))).mpr fun r hr => ?_)
  rcases List.mem_append.mp hr with c | c
  · exact fun z => ⟨Int.le_trans (supF_ge h1 c z).1 ((mxF_le.mp (leSh.refl (mxF (supF rs) (supF qs)))).1 z).1, Int.le_trans (supF_ge h1 c z).2 ((mxF_le.mp (leSh.refl (mxF (supF rs) (supF qs)))).1 z).2⟩
  · exact fun z => ⟨Int.le_trans (supF_ge h2 c z).1 ((mxF_le.mp (leSh.refl (mxF (supF rs) (supF qs)))).2 z).1, Int.le_trans (supF_ge h2 c z).2 ((mxF_le.mp (leSh.refl (mxF (supF rs) (supF qs)))).2 z).2⟩
theorem mxF_zero {f : Sh} (h : NN f) : mxF f (fun _ => (0, 0)) = f := by
  funext z
  exact Prod.ext (gmax_0 (h z).1) (gmax_0 (h z).2)
theorem supF_one {r : Rc} (h : NN r.f) : supF [r] = r.f := mxF_zero h
theorem supF_snoc {rs : List Rc} {r : Rc} (h1 : ∀ r ∈ rs, NN r.f) (h2 : NN r.f) : mxF (supF rs) r.f = supF (rs ++ [r]) := by
  rw [← supF_one h2, supF_app h1 (fun q hq => by rw [List.mem_singleton.mp hq]; exact h2)]
theorem inK_snoc {rs : List Rc} {r : Rc} {w : Str} : InK (rs ++ [r]) w ↔ InK rs w ∨ w ∈ r.ks := by
  unfold InK
  constructor
  · rintro ⟨q, hq, hw⟩
    rcases List.mem_append.mp hq with c | c
    · exact .inl ⟨q, c, hw⟩
    · rw [List.mem_singleton.mp c] at hw; exact .inr hw
  · rintro (⟨q, hq, hw⟩ | h)
    · exact ⟨q, List.mem_append_left _ hq, hw⟩
    · exact ⟨r, by simp, h⟩
theorem inK_app {rs qs : List Rc} {w : Str} : InK (rs ++ qs) w ↔ InK rs w ∨ InK qs w := by
  unfold InK
  constructor
  · rintro ⟨q, hq, hw⟩
    exact (List.mem_append.mp hq).imp (fun c => ⟨q, c, hw⟩) (fun c => ⟨q, c, hw⟩)
  · rintro (⟨q, hq, hw⟩ | ⟨q, hq, hw⟩)
    · exact ⟨q, List.mem_append_left _ hq, hw⟩
    · exact ⟨q, List.mem_append_right _ hq, hw⟩
theorem inK_eq {rs qs : List Rc} (h : ∀ r, r ∈ rs ↔ r ∈ qs) {w : Str} : InK rs w ↔ InK qs w := ⟨fun ⟨r, h1, h2⟩ => ⟨r, (h r).mp h1, h2⟩, fun ⟨r, h1, h2⟩ => ⟨r, (h r).mpr h1, h2⟩⟩
/-- how many names there are -/
theorem inK_len {rs : List Rc} {m : Nat} (hl : ∀ r ∈ rs, r.ks.length ≤ m) {ys : List Str} (nd : ys.Nodup) (h : ∀ w ∈ ys, InK rs w) : ys.length ≤ rs.length * m := by
  have key : ∀ rs : List Rc, (∀ r ∈ rs, r.ks.length ≤ m) → (rs.flatMap (·.ks)).length ≤ rs.length * m := by
    intro rs
    induction rs with
    | nil => intro _; simp
    | cons r rs ih =>
      intro h
      rw [List.flatMap_cons, List.length_append, List.length_cons, Nat.succ_mul]
      have := ih (fun q hq => h q (List.mem_cons_of_mem _ hq))
      have := h r List.mem_cons_self
      omega
  refine Nat.le_trans (nd_len nd (m := rs.flatMap (·.ks)) fun w hw => ?_) (key rs hl)
  obtain ⟨r, hr, hw'⟩ := h w hw
  exact List.mem_flatMap.mpr ⟨r, hr, hw'⟩
theorem supF_out {rs : List Rc} {z : Str} (h : ∀ r ∈ rs, r.f z = (0, 0)) : supF rs z = (0, 0) := by
  induction rs with
  | nil => rfl
  | cons r rs ih =>
    show (gmax (r.f z).1 (supF rs z).1, gmax (r.f z).2 (supF rs z).2) = _
    rw [h r List.mem_cons_self, ih (fun q hq => h q (List.mem_cons_of_mem _ hq))]
    rfl
/-- names but one -/
def noZ (ks : List Str) : List Str := ks.filter fun z => !decide (z = "zzzzzzzz")
theorem mem_noZ {ks : List Str} {z : Str} : z ∈ noZ ks ↔ z ∈ ks ∧ ¬ z = "zzzzzzzz" := by
  unfold noZ
  rw [List.mem_filter]
  simp
theorem capF_snoc {l : List Str} {z : Str} {m : Sh} : setF (capF l m) z (m z) = capF (l ++ [z]) m := by
  funext w
  unfold setF capF
  by_cases c : w = z
  · rw [if_pos c, if_pos (by rw [c]; simp), c]
  · rw [if_neg c]
    by_cases d : w ∈ l
    · rw [if_pos d, if_pos (List.mem_append_left _ d)]
    · rw [if_neg d, if_neg (by simp [d, c])]
theorem noZ_snoc {l : List Str} {z : Str} : noZ (l ++ [z]) = if z = "zzzzzzzz" then noZ l else noZ l ++ [z] := by
  unfold noZ
  rw [List.filter_append]
  by_cases c : z = "zzzzzzzz" <;> simp [c]
theorem capF_good {ks : List Str} {f : Sh} (h : NmP ks f) : NmP (noZ ks) (capF (noZ ks) f) := by
  refine ⟨fun z hz => h.nm z (mem_noZ.mp hz).1, fun z hz => ?_, fun z => ?_⟩
  · unfold capF
    rw [if_pos hz]
    exact h.pos z (mem_noZ.mp hz).1
  · unfold capF
    split
    · exact h.lim z
    · exact ⟨lim_pos, lim_pos⟩
theorem capF_nn {l : List Str} {f : Sh} (h : NN f) : NN (capF l f) := fun z => by
  unfold capF
  split
  · exact h z
  · exact ⟨Int.le_refl _, Int.le_refl _⟩
theorem noZ_len {ks : List Str} : (noZ ks).length ≤ ks.length := List.length_filter_le _ _
/-- from_left(pages), from_right(pages) -/
theorem map_at {rs : List Rc} {i : Nat} {x : V} (h : (rs.map Rc.v)[i]? = some x) : ∃ r, rs[i]? = some r ∧ x = .ref r.d := by
  rw [List.getElem?_map] at h
  cases q : rs[i]? with
  | none => rw [q] at h; cases h
  | some r => rw [q] at h; cases h; exact ⟨r, rfl, rfl⟩
def sp_from (K : PySem.W.Frag) : Sp := fun vs H Q _ => ∃ (L : Addr) (rs : List Rc), vs = [.ref L] ∧ H L = some (.lst (rs.map Rc.v)) ∧ (∀ r ∈ rs, RcOk K H r) ∧ rs.length ≤ 7 ∧ (∀ r ∈ rs, r.ks.length ≤ 96) ∧
  ∀ p kvs ys H', Ex H H' → H' p = some (.dK kvs) → PgK K H' kvs ys (supF rs) → PyProof.Rows.sortedS ys = true → (∀ w, w ∈ ys ↔ InK rs w) → Q (.ref p) H'
theorem totF_perm {ks ls : List Str} {f : Sh} (h : ks.Perm ls) : totF ks f = totF ls f := by
  unfold totF
  induction h with
  | nil => rfl
  | cons x _ ih => simp only [List.map_cons, List.sum_cons]; omega
  | swap x y l => simp only [List.map_cons, List.sum_cons]; omega
  | trans _ _ ih1 ih2 => exact ih1.trans ih2
theorem totF_mem {ks ls : List Str} {f : Sh} (h1 : ks.Nodup) (h2 : ls.Nodup) (h : ∀ w, w ∈ ks ↔ w ∈ ls) : totF ks f = totF ls f := totF_perm ((List.perm_ext_iff_of_nodup h1 h2).mpr h)
theorem rch_out {f g : Sh} {z : Str} (hf : NN f) (hg : g z = (0, 0)) : rchB f g z = true := by
  show reachB (f z).1 (f z).2 (g z).1 (g z).2 = true
  have h := hf z
  rw [hg]
  unfold reachB
  rw [decide_eq_true (p := (0 : Int) ≤ (f z).1) h.1, decide_eq_true (p := (0 : Int) ≤ (f z).2) h.2]
  rfl
/-! ### what stands whatever the list at D is -/
def RcF (K : PySem.W.Frag) (D : Addr) (H : Hp) (r : Rc) : Prop := ∀ xs, RcOk K (upd H D (.lst xs)) r
theorem upd_twice {H : Hp} {D : Addr} {o o' : HO} : upd (upd H D o) D o' = upd H D o' := by
  funext a
  by_cases c : a = D
  · subst c; rw [upd_same, upd_same]
  · rw [upd_ne c, upd_ne c, upd_ne c]
theorem RcF.upd {K : PySem.W.Frag} {D : Addr} {H : Hp} {r : Rc} {o : HO} (h : RcF K D H r) : RcF K D (L2.upd H D o) r := fun xs => by rw [upd_twice]; exact h xs
theorem RcF.ne {K : PySem.W.Frag} {D : Addr} {H : Hp} {r : Rc} (h : RcF K D H r) : r.d ≠ D := fun c => by
  have q := (h []).at_
  rw [c, upd_same] at q
  cases q
theorem RcF.of {K : PySem.W.Frag} {D : Addr} {H : Hp} {r : Rc} {xs : List V} (h : RcOk K H r) (hD : H D = some (.lst xs)) : RcF K D H r := fun ys => by
  have c : r.d ≠ D := fun c => by have q := h.at_; rw [c, hD] at q; cases q
  exact ⟨(upd_ne c).trans h.at_, h.pg.et (Et.lst hD), h.nn⟩
theorem RcF.it {K : PySem.W.Frag} {D : Addr} {H : Hp} {r : Rc} {xs : List V} (h : RcF K D H r) (hD : H D = some (.lst xs)) : RcOk K H r := by
  have e : L2.upd H D (.lst xs) = H := by
    funext a
    by_cases c : a = D
    · subst c; rw [upd_same, hD]
    · rw [upd_ne c]
  have q := h xs
  rw [e] at q
  exact q
theorem rg2 : ∀ n : Nat, 2 ≤ n → n ≤ 7 → RgC 0 ((n : Int) - 1) 2 (n / 2)
  | 2, _, _ => ⟨by decide, by decide, by decide +kernel, by decide +kernel⟩
  | 3, _, _ => ⟨by decide, by decide, by decide +kernel, by decide +kernel⟩
  | 4, _, _ => ⟨by decide, by decide, by decide +kernel, by decide +kernel⟩
  | 5, _, _ => ⟨by decide, by decide, by decide +kernel, by decide +kernel⟩
  | 6, _, _ => ⟨by decide, by decide, by decide +kernel, by decide +kernel⟩
  | 7, _, _ => ⟨by decide, by decide, by decide +kernel, by decide +kernel⟩
  | 0, h, _ => absurd h (by decide)
  | 1, h, _ => absurd h (by decide)
  | n + 8, _, h => absurd h (by omega)
theorem take_two {qs : List Rc} {i : Nat} {r1 r2 : Rc} (h1 : qs[2 * i]? = some r1) (h2 : qs[2 * i + 1]? = some r2) : qs.take (2 * (i + 1)) = qs.take (2 * i) ++ [r1, r2] := by
  rw [show 2 * (i + 1) = (2 * i + 1) + 1 by omega, take_snoc h2, take_snoc h1, List.append_assoc]
  rfl
theorem supF_two {qs fs : List Rc} {r1 r2 : Rc} (n1 : ∀ r ∈ qs, NN r.f) (n2 : NN r1.f) (n3 : NN r2.f) (h : supF fs = supF qs) (nf : ∀ r ∈ fs, NN r.f) {d : Addr} {kvs : List (Key × V)} {ks : List Str} : supF (fs ++ [⟨d, kvs, ks, mxF r1.f r2.f⟩]) = supF (qs ++ [r1, r2]) := by
  rw [← supF_snoc (r := ⟨d, kvs, ks, mxF r1.f r2.f⟩) nf (n2.mx n3), h, ← supF_app n1 (fun r hr => by
    simp only [List.mem_cons, List.not_mem_nil, or_false] at hr
    rcases hr with rfl | rfl
    · exact n2
    · exact n3)]
  show mxF (supF qs) (mxF r1.f r2.f) = mxF (supF qs) (mxF r1.f (mxF r2.f fun _ => (0, 0)))
  rw [mxF_zero n3]
theorem cutV_lo {xs : List V} {c : Nat} (h : c ≤ xs.length) : cutV xs (some (c : Int)) none = xs.drop c := by
  unfold cutV
  rw [HT.sIx_none, HT.sIx_nat, Nat.min_eq_left h, List.take_of_length_le (by rw [List.length_drop]; exact Nat.le_refl _)]
theorem cutV_hi {xs : List V} {c : Nat} (h : c ≤ xs.length) : cutV xs none (some (c : Int)) = xs.take c := by
  unfold cutV
  rw [HT.sIx_none, HT.sIx_nat, Nat.min_eq_left h, List.drop_zero, Nat.sub_zero]
/-- the pages turned, one of them twice -/
def turned (rs : List Rc) (c i : Nat) (r : Rc) : List Rc := (rs.drop c ++ rs.take c).take i ++ [r] ++ (rs.drop c ++ rs.take c).drop i
theorem mem_turned {rs : List Rc} {c i : Nat} {r : Rc} (hr : r ∈ rs) (q : Rc) : q ∈ turned rs c i r ↔ q ∈ rs := by
  have h1 : q ∈ rs.drop c ++ rs.take c ↔ q ∈ rs := by
    rw [List.mem_append, or_comm, ← List.mem_append, List.take_append_drop]
  unfold turned
  rw [← h1]
  constructor
  · intro h
    rcases List.mem_append.mp h with h | h
    · rcases List.mem_append.mp h with h | h
      · exact List.mem_of_mem_take h
      · rw [List.mem_singleton.mp h, List.mem_append, or_comm, ← List.mem_append, List.take_append_drop]; exact hr
    · exact List.mem_of_mem_drop h
  · intro h
    rw [← List.take_append_drop i (rs.drop c ++ rs.take c)] at h
    rcases List.mem_append.mp h with h | h
    · exact List.mem_append_left _ (List.mem_append_left _ h)
    · exact List.mem_append_right _ h
theorem len_turned {rs : List Rc} {c i : Nat} {r : Rc} (hi : i ≤ rs.length) (hc : c ≤ rs.length) : (turned rs c i r).length = rs.length + 1 := by
  unfold turned
  simp only [List.length_append, List.length_take, List.length_drop, List.length_cons, List.length_nil]
  omega
end Gc

namespace Gc
open PySem L2 Evl
theorem cut_tail12 (z : Str) (n : Nat) (h : n ≤ z.length) : (cutS z (some (n : Int)) none).cps.toList = z.cps.toList.drop n := by
  show List.take (HT.sIx z.length z.length none - HT.sIx z.length 0 (some (n : Int))) (List.drop (HT.sIx z.length 0 (some (n : Int))) z.cps.toList) = _
  rw [HT.sIx_none, HT.sIx_nat, Nat.min_eq_left h, List.take_of_length_le (by rw [List.length_drop, tl_len]; exact Nat.le_refl _)]
/-! ### names with a mark in a word's middle -/
structure Mk12 (c : Int) (a : Nat) (j : Nat) (z : Str) : Prop where
  it : ∃ s, atI LET.cps.toList (((j : Int) * 17 + c) % 26) = some s ∧ z.cps.toList[a]? = some s ∧ z.cps.toList[a + 1]? = some 97
  nm : nameB z = true
  len : 3 ≤ z.length
structure Nms12 (c : Int) (a : Nat) (n : Option Nat) (zs : List Str) : Prop where
  mark : ∀ j z, zs[j]? = some z → Mk12 c a j z
  way : a = 0 ∨ ∃ m, n = some m
  lens : ∀ m, n = some m → ∀ z ∈ zs, z.length = m
theorem Nms12.nil {c : Int} {a : Nat} {n : Option Nat} (h : a = 0 ∨ ∃ m, n = some m) : Nms12 c a n [] := ⟨fun j z q => by simp at q, h, fun m _ z q => by cases q⟩
theorem Nms12.snoc {c : Int} {a : Nat} {n : Option Nat} {zs : List Str} {z : Str} (h : Nms12 c a n zs) (h1 : Mk12 c a zs.length z) (h2 : ∀ m, n = some m → z.length = m) : Nms12 c a n (zs ++ [z]) := by
  refine ⟨fun j w q => ?_, h.way, fun m hm w hw => ?_⟩
  · by_cases d : j < zs.length
    · rw [List.getElem?_append_left d] at q
      exact h.mark j w q
    · rw [List.getElem?_append_right (by omega)] at q
      cases e : j - zs.length with
      | zero => rw [e] at q; cases q; rw [show j = zs.length by omega]; exact h1
      | succ n => rw [e] at q; simp at q
  · rcases List.mem_append.mp hw with d | d
    · exact h.lens m hm w d
    · rw [List.mem_singleton.mp d]; exact h2 m hm
theorem mk12_inj {c : Int} {a i j : Nat} {z w : Str} (h1 : Mk12 c a i z) (h2 : Mk12 c a j w) (e : z.cps.toList[a]? = w.cps.toList[a]?) (hi : i < 26) (hj : j < 26) : i = j := by
  obtain ⟨s, x1, x2, _⟩ := h1.it
  obtain ⟨t, y1, y2, _⟩ := h2.it
  rw [x2, y2] at e
  cases e
  have := let_inj8 x1 y1 (by omega) (by omega) (by omega) (by omega)
  omega
theorem Nms12.at_ {c : Int} {a : Nat} {n : Option Nat} {zs : List Str} (h : Nms12 c a n zs) {z : Str} (hz : z ∈ zs) : ∃ j, zs[j]? = some z ∧ Mk12 c a j z := by
  obtain ⟨j, hj⟩ := List.mem_iff_getElem?.mp hz
  exact ⟨j, hj, h.mark j z hj⟩
theorem Nms12.nm {c : Int} {a : Nat} {n : Option Nat} {zs : List Str} (h : Nms12 c a n zs) : NmOk zs := fun z hz => by
  obtain ⟨j, _, m⟩ := h.at_ hz
  exact m.nm
theorem Nms12.same {c : Int} {a : Nat} {n : Option Nat} {zs : List Str} (h : Nms12 c a n zs) (hl : zs.length ≤ 26) {z w : Str} (hz : z ∈ zs) (hw : w ∈ zs) (e : z.cps.toList[a]? = w.cps.toList[a]?) : z = w := by
  obtain ⟨i, hi, m1⟩ := h.at_ hz
  obtain ⟨j, hj, m2⟩ := h.at_ hw
  have l1 := (List.getElem?_eq_some_iff.mp hi).1
  have l2 := (List.getElem?_eq_some_iff.mp hj).1
  have := mk12_inj m1 m2 e (by omega) (by omega)
  rw [this, hj] at hi
  exact (Option.some.inj hi).symm
theorem Nms12.nd {c : Int} {a : Nat} {n : Option Nat} {zs : List Str} (h : Nms12 c a n zs) (hl : zs.length ≤ 26) : zs.Nodup := by
  refine List.nodup_iff_pairwise_ne.mpr (List.pairwise_iff_getElem.mpr fun i j hi hj hij e => ?_)
  have := mk12_inj (h.mark i _ (List.getElem?_eq_getElem hi)) (h.mark j _ (List.getElem?_eq_getElem hj)) (by rw [e]) (by omega) (by omega)
  omega
/-- no name: what has no small a -/
theorem Nms12.no_a {c : Int} {a : Nat} {n : Option Nat} {zs : List Str} (h : Nms12 c a n zs) {w : Str} (hw : ¬ 97 ∈ w.cps.toList) : ¬ w ∈ zs := fun q => by
  obtain ⟨j, _, m⟩ := h.at_ q
  obtain ⟨s, _, _, y⟩ := m.it
  exact hw (List.mem_of_getElem? y)
/-- no name: what is none -/
theorem Nms12.no_nm {c : Int} {a : Nat} {n : Option Nat} {zs : List Str} (h : Nms12 c a n zs) {w : Str} (hw : nameB w = false) : ¬ w ∈ zs := fun q => by
  rw [h.nm w q] at hw
  cases hw
theorem Nms12.short {c : Int} {a : Nat} {n : Option Nat} {zs : List Str} (h : Nms12 c a n zs) {w : Str} (hw : w.length < 3) : ¬ w ∈ zs := fun q => by
  obtain ⟨j, _, m⟩ := h.at_ q
  have := m.len
  omega
theorem Nms12.twice {c : Int} {a : Nat} {n : Option Nat} {zs : List Str} (h : Nms12 c a n zs) (hl : zs.length ≤ 26) {z : Str} (hz : z ∈ zs) : ¬ (z ++ z) ∈ zs := fun q => by
  obtain ⟨j, _, m⟩ := h.at_ hz
  have hlen := m.len
  have e2 : (z ++ z).length = z.length + z.length := app_len z z
  rcases h.way with e | ⟨k, e⟩
  · subst e
    have e1 : z.cps.toList[0]? = (z ++ z).cps.toList[0]? := by
      rw [app_tl, List.getElem?_append_left (by rw [tl_len]; omega)]
    have := h.same hl hz q e1
    rw [← this] at e2
    omega
  · have h1 := h.lens k e z hz
    have h2 := h.lens k e _ q
    omega
theorem nameB_out {w : Str} {c : Nat} (hc : c ∈ w.cps.toList) (h : ¬ c ∈ LET.cps.toList) : nameB w = false := by
  cases q : nameB w with
  | false => rfl
  | true => exact absurd (((nameB_iff w).mp q).2.2 c hc) h
theorem mark_at {u v : List Nat} {s1 s2 : Nat} : (u ++ s1 :: s2 :: v)[u.length]? = some s1 ∧ (u ++ s1 :: s2 :: v)[u.length + 1]? = some s2 := by
  constructor
  · rw [List.getElem?_append_right (Nat.le_refl _), Nat.sub_self]; rfl
  · rw [List.getElem?_append_right (by omega), show u.length + 1 - u.length = 1 by omega]; rfl
/-- the mark put into a word -/
theorem mark_in {w : Str} {s : Nat} {a : Nat} (h1 : s ∈ LET.cps.toList) (hw : nameB w = true) (h6 : w.length ≤ 6) (ha : a ≤ w.length) :
    (((cutS w none (some (a : Int)) ++ (⟨#[s]⟩ ++ ⟨#[97]⟩ : Str)) ++ cutS w (some (a : Int)) none)).length = w.length + 2 ∧
    nameB ((cutS w none (some (a : Int)) ++ (⟨#[s]⟩ ++ ⟨#[97]⟩ : Str)) ++ cutS w (some (a : Int)) none) = true ∧
    ((cutS w none (some (a : Int)) ++ (⟨#[s]⟩ ++ ⟨#[97]⟩ : Str)) ++ cutS w (some (a : Int)) none).cps.toList[a]? = some s ∧
    ((cutS w none (some (a : Int)) ++ (⟨#[s]⟩ ++ ⟨#[97]⟩ : Str)) ++ cutS w (some (a : Int)) none).cps.toList[a + 1]? = some 97 := by
  have e : ((cutS w none (some (a : Int)) ++ (⟨#[s]⟩ ++ ⟨#[97]⟩ : Str)) ++ cutS w (some (a : Int)) none).cps.toList = w.cps.toList.take a ++ s :: 97 :: w.cps.toList.drop a := by
    rw [app_tl, app_tl, app_tl, cut_tl, cut_tail12 w a ha, List.append_assoc]
    rfl
  obtain ⟨a1, a2, a3⟩ := (nameB_iff w).mp hw
  have el : (w.cps.toList.take a).length = a := by rw [List.length_take, tl_len]; omega
  have m := mark_at (u := w.cps.toList.take a) (v := w.cps.toList.drop a) (s1 := s) (s2 := 97)
  rw [el, ← e] at m
  have hlen : ((cutS w none (some (a : Int)) ++ (⟨#[s]⟩ ++ ⟨#[97]⟩ : Str)) ++ cutS w (some (a : Int)) none).length = w.length + 2 := by
    rw [← tl_len, e, List.length_append, List.length_cons, List.length_cons, List.length_drop, el, tl_len]
    omega
  refine ⟨hlen, (nameB_iff _).mpr ⟨by omega, by omega, fun c hc => ?_⟩, m.1, m.2⟩
  rw [e] at hc
  rcases List.mem_append.mp hc with q | q
  · exact a3 c (List.mem_of_mem_take q)
  · rcases List.mem_cons.mp q with q | q
    · rw [q]; exact h1
    · rcases List.mem_cons.mp q with q | q
      · rw [q]; decide +kernel
      · exact a3 c (List.mem_of_mem_drop q)
theorem cut6 {w : Str} (hw : nameB w = true) : nameB (cutS w none (some 6)) = true ∧ (cutS w none (some 6)).length ≤ 6 ∧ 1 ≤ (cutS w none (some 6)).length := by
  obtain ⟨a1, a2, a3⟩ := (nameB_iff w).mp hw
  have e := cut_len w 6
  have e' : (cutS w none (some 6)).length = min 6 w.length := e
  refine ⟨(nameB_iff _).mpr ⟨by omega, by omega, fun c hc => ?_⟩, by omega, by omega⟩
  have hc' : c ∈ (cutS w none (some ((6 : Nat) : Int))).cps.toList := hc
  rw [cut_tl] at hc'
  exact a3 c (List.mem_of_mem_take hc')
theorem let_0 : atI LET.cps.toList 0 = some 97 := by decide +kernel
end Gc

namespace Gc
open PySem L2 Evl
/-! ### rooms: hands and pages by name -/
/-- the page at d tells f of names in ns, by numbers up to B; X is another place -/
structure PG (K : PySem.W.Frag) (X : Option Addr) (H : Hp) (ns : List Str) (B : Int) (d : Addr) (kvs : List (Key × V)) (ks : List Str) (f : Sh) : Prop where
  at_ : H d = some (.dK kvs)
  pg : PgK K H kvs ks f
  nm : NmP ks f
  nn : NN f
  sub : ∀ z ∈ ks, z ∈ ns
  bd : ∀ z, (f z).1 ≤ B ∧ (f z).2 ≤ B
  ne : ∀ x, X = some x → d ≠ x
section
variable {K : PySem.W.Frag} {X : Option Addr} {H H' : Hp} {ns ks ls : List Str} {B B' : Int} {d e : Addr} {kvs kv2 : List (Key × V)} {f g : Sh} {S : Addr → Prop}
theorem PG.len (h : PG K X H ns B d kvs ks f) : ks.length ≤ ns.length := nd_len h.pg.nd h.sub
theorem PG.mem (h : PG K X H ns B d kvs ks f) {z : Str} : z ∈ ks ↔ ¬ f z = (0, 0) := by
  constructor
  · intro q e
    have := h.nm.pos z q
    rw [e] at this
    rcases this with q | q
    · exact absurd q (by decide)
    · exact absurd q (by decide)
  · intro q
    by_cases c : z ∈ ks
    · exact c
    · exact absurd (h.pg.out z c) q
theorem PG.same (h : PG K X H ns B d kvs ks f) (q : PG K X H ns B' e kv2 ls f) (z : Str) : z ∈ ks ↔ z ∈ ls := h.mem.trans q.mem.symm
theorem PG.out (h : PG K X H ns B d kvs ks f) {z : Str} (hz : ¬ z ∈ ns) : f z = (0, 0) := by
  by_cases c : z ∈ ks
  · exact absurd (h.sub z c) hz
  · exact h.pg.out z c
theorem PG.exs (h : PG K X H ns B d kvs ks f) (e : Exs S H H') (hS : ∀ p, S p → (∃ C dx fs, H p = some (.ins C dx fs)) ∨ ∃ xs, H p = some (.lst xs)) : PG K X H' ns B d kvs ks f :=
  ⟨e _ _ (fun c => by rcases hS _ c with ⟨_, _, _, q⟩ | ⟨_, q⟩ <;> (rw [h.at_] at q; cases q)) h.at_, h.pg.tps fun a xs q => sqT_exs e hS q, h.nm, h.nn, h.sub, h.bd, h.ne⟩
theorem PG.ex (h : PG K X H ns B d kvs ks f) (e : Ex H H') : PG K X H' ns B d kvs ks f := ⟨e _ _ h.at_, h.pg.et (Et.of e), h.nm, h.nn, h.sub, h.bd, h.ne⟩
/-- the other place is a dict that changes -/
theorem PG.put {x : Addr} {kvx kvx' : List (Key × V)} (h : PG K (some x) H ns B d kvs ks f) (hx : H x = some (.dK kvx)) : PG K (some x) (upd H x (.dK kvx')) ns B d kvs ks f :=
  ⟨by rw [upd_ne (h.ne x rfl)]; exact h.at_, h.pg.et (Et.dK hx), h.nm, h.nn, h.sub, h.bd, h.ne⟩
theorem PG.up (h : PG K X H ns B d kvs ks f) (hB : B ≤ B') : PG K X H ns B' d kvs ks f := ⟨h.at_, h.pg, h.nm, h.nn, h.sub, fun z => ⟨Int.le_trans (h.bd z).1 hB, Int.le_trans (h.bd z).2 hB⟩, h.ne⟩
theorem PG.wth {x : Addr} (h : PG K none H ns B d kvs ks f) (hx : H x = none) : PG K (some x) H ns B d kvs ks f :=
  ⟨h.at_, h.pg, h.nm, h.nn, h.sub, h.bd, fun y hy c => by cases hy; rw [← c, h.at_] at hx; cases hx⟩
end
/-- the hand at x, of the name z, tells f -/
structure HandP (K : PySem.W.Frag) (C : Addr) (X : Option Addr) (H : Hp) (ns : List Str) (B : Int) (x : Addr) (z : Str) (f : Sh) : Prop where
  it : ∃ dx d kvs ks, H x = some (insH C dx z d) ∧ PG K X H ns B d kvs ks f ∧ PyProof.Rows.sortedS ks = true
structure Hands (K : PySem.W.Frag) (C : Addr) (X : Option Addr) (H : Hp) (ns : List Str) (B : Int) (D : Addr) (kvh : List (Key × V)) (F : Str → Sh) : Prop where
  at_ : H D = some (.dK kvh)
  keys : kvh.map (·.1) = ns.map Sum.inr
  nd : ns.Nodup
  nm : NmOk ns
  ne : ∀ x, X = some x → D ≠ x
  hand : ∀ z ∈ ns, ∃ x, valV kvh (.inr z) = some (.ref x) ∧ HandP K C X H ns B x z (F z)
structure Pages (K : PySem.W.Frag) (H : Hp) (ns : List Str) (B : Int) (D : Addr) (kvp : List (Key × V)) (F : Str → Sh) : Prop where
  at_ : H D = some (.dK kvp)
  keys : kvp.map (·.1) = ns.map Sum.inr
  page : ∀ z ∈ ns, ∃ p kvs ks, valV kvp (.inr z) = some (.ref p) ∧ PG K (some D) H ns B p kvs ks (F z)
/-- where the hands are -/
def HandO (kvh : List (Key × V)) (a : Addr) : Prop := ∃ z, valV kvh (.inr z) = some (.ref a)
def setH (F : Str → Sh) (z : Str) (f : Sh) : Str → Sh := fun w => if w = z then f else F w
theorem setH_same {F : Str → Sh} {z : Str} {f : Sh} : setH F z f z = f := if_pos rfl
theorem setH_ne {F : Str → Sh} {z w : Str} {f : Sh} (h : ¬ w = z) : setH F z f w = F w := if_neg h
section
variable {K : PySem.W.Frag} {C : Addr} {X : Option Addr} {H H' : Hp} {ns : List Str} {B B' : Int} {D : Addr} {kvh kvp : List (Key × V)} {F : Str → Sh}
theorem key_in {kvs : List (Key × V)} (h : kvs.map (·.1) = ns.map Sum.inr) {z : Str} {v : V} (q : valV kvs (.inr z) = some v) : z ∈ ns := by
  have m : (Sum.inr z : Key) ∈ kvs.map (·.1) := List.mem_map.mpr ⟨_, valV_mem q, rfl⟩
  rw [h] at m
  obtain ⟨w, hw, e⟩ := List.mem_map.mp m
  cases e
  exact hw
theorem key_out {kvs : List (Key × V)} (h : kvs.map (·.1) = ns.map Sum.inr) {z : Str} (q : ¬ z ∈ ns) : valV kvs (.inr z) = none := by
  cases c : valV kvs (.inr z) with
  | none => rfl
  | some v => exact absurd (key_in h c) q
theorem Hands.ho (h : Hands K C X H ns B D kvh F) {a : Addr} (q : HandO kvh a) : ∃ z ∈ ns, HandP K C X H ns B a z (F z) := by
  obtain ⟨z, hz⟩ := q
  have m := key_in h.keys hz
  obtain ⟨x, hx, hp⟩ := h.hand z m
  rw [hz] at hx
  cases hx
  exact ⟨z, m, hp⟩
theorem Hands.ins (h : Hands K C X H ns B D kvh F) {a : Addr} (q : HandO kvh a) : ∃ C dx fs, H a = some (.ins C dx fs) := by
  obtain ⟨z, _, hp⟩ := h.ho q
  obtain ⟨dx, d, _, _, hx, _⟩ := hp.it
  exact ⟨_, _, _, hx⟩
theorem Hands.ex (h : Hands K C X H ns B D kvh F) (e : Ex H H') : Hands K C X H' ns B D kvh F :=
  ⟨e _ _ h.at_, h.keys, h.nd, h.nm, h.ne, fun z hz => by
    obtain ⟨x, hx, hp⟩ := h.hand z hz
    obtain ⟨dx, d, kvs, ks, h1, h2, h3⟩ := hp.it
    exact ⟨x, hx, ⟨dx, d, kvs, ks, e _ _ h1, h2.ex e, h3⟩⟩⟩
theorem Hands.up (h : Hands K C X H ns B D kvh F) (hB : B ≤ B') : Hands K C X H ns B' D kvh F :=
  ⟨h.at_, h.keys, h.nd, h.nm, h.ne, fun z hz => by
    obtain ⟨x, hx, hp⟩ := h.hand z hz
    obtain ⟨dx, d, kvs, ks, h1, h2, h3⟩ := hp.it
    exact ⟨x, hx, ⟨dx, d, kvs, ks, h1, h2.up hB, h3⟩⟩⟩
theorem Hands.wth {x : Addr} (h : Hands K C none H ns B D kvh F) (hx : H x = none) : Hands K C (some x) H ns B D kvh F :=
  ⟨h.at_, h.keys, h.nd, h.nm, fun y hy c => (by cases hy; rw [← c, h.at_] at hx; cases hx), fun z hz => by
    obtain ⟨x, hx', hp⟩ := h.hand z hz
    obtain ⟨dx, d, kvs, ks, h1, h2, h3⟩ := hp.it
    exact ⟨x, hx', ⟨dx, d, kvs, ks, h1, h2.wth hx, h3⟩⟩⟩
/-- the dict of the pages changes -/
theorem Hands.put {x : Addr} {kvx kvx' : List (Key × V)} (h : Hands K C (some x) H ns B D kvh F) (hx : H x = some (.dK kvx)) : Hands K C (some x) (upd H x (.dK kvx')) ns B D kvh F :=
  ⟨by rw [upd_ne (h.ne x rfl)]; exact h.at_, h.keys, h.nd, h.nm, h.ne, fun z hz => by
    obtain ⟨y, hy, hp⟩ := h.hand z hz
    obtain ⟨dx, d, kvs, ks, h1, h2, h3⟩ := hp.it
    exact ⟨y, hy, ⟨dx, d, kvs, ks, by rw [upd_ne (fun c => by rw [c, hx] at h1; cases h1)]; exact h1, h2.put hx, h3⟩⟩⟩
/-- one hand changes -/
theorem Hands.step (h : Hands K C X H ns B D kvh F) {z : Str} {x dx d' : Addr} {kvs' : List (Key × V)} {ks' : List Str} {f' : Sh} (hz : z ∈ ns) (hx : valV kvh (.inr z) = some (.ref x)) (e : Exs (fun a => a = x) H H')
    (h1 : H' x = some (insH C dx z d')) (hp : PG K X H' ns B d' kvs' ks' f') (hs : PyProof.Rows.sortedS ks' = true) : Hands K C X H' ns B D kvh (setH F z f') := by
  have hi : ∃ C dx fs, H x = some (.ins C dx fs) := h.ins ⟨z, hx⟩
  have hS : ∀ p, p = x → (∃ C dx fs, H p = some (.ins C dx fs)) ∨ ∃ xs, H p = some (.lst xs) := fun p c => .inl (c ▸ hi)
  obtain ⟨dx0, d0, _, _, hx0, _⟩ := (show HandP K C X H ns B x z (F z) by obtain ⟨y, hy, q⟩ := h.hand z hz; rw [hx] at hy; cases hy; exact q).it
  refine ⟨e _ _ (fun c => by obtain ⟨_, _, _, q⟩ := hi; rw [← c, h.at_] at q; cases q) h.at_, h.keys, h.nd, h.nm, h.ne, fun w hw => ?_⟩
  by_cases c : w = z
  · subst c
    rw [setH_same]
    exact ⟨x, hx, ⟨dx, d', kvs', ks', h1, hp, hs⟩⟩
  · rw [setH_ne c]
    obtain ⟨y, hy, q⟩ := h.hand w hw
    obtain ⟨dy, d, kvs, ks, g1, g2, g3⟩ := q.it
    refine ⟨y, hy, ⟨dy, d, kvs, ks, e _ _ (fun c2 => ?_) g1, g2.exs e hS, g3⟩⟩
    rw [c2, hx0] at g1
    unfold insH at g1
    simp only [Option.some.injEq, HO.ins.injEq, List.cons.injEq, Prod.mk.injEq, V.str.injEq, true_and] at g1
    exact c g1.2.1.symm
theorem Pages.exs {S : Addr → Prop} (h : Pages K H ns B D kvp F) (e : Exs S H H') (hS : ∀ p, S p → (∃ C dx fs, H p = some (.ins C dx fs)) ∨ ∃ xs, H p = some (.lst xs)) : Pages K H' ns B D kvp F :=
  ⟨e _ _ (fun c => by rcases hS _ c with ⟨_, _, _, q⟩ | ⟨_, q⟩ <;> (rw [h.at_] at q; cases q)) h.at_, h.keys, fun z hz => by
    obtain ⟨p, kvs, ks, hp, q⟩ := h.page z hz
    exact ⟨p, kvs, ks, hp, q.exs e hS⟩⟩
theorem Pages.ex (h : Pages K H ns B D kvp F) (e : Ex H H') : Pages K H' ns B D kvp F :=
  ⟨e _ _ h.at_, h.keys, fun z hz => by
    obtain ⟨p, kvs, ks, hp, q⟩ := h.page z hz
    exact ⟨p, kvs, ks, hp, q.ex e⟩⟩
theorem Pages.up (h : Pages K H ns B D kvp F) (hB : B ≤ B') : Pages K H ns B' D kvp F :=
  ⟨h.at_, h.keys, fun z hz => by
    obtain ⟨p, kvs, ks, hp, q⟩ := h.page z hz
    exact ⟨p, kvs, ks, hp, q.up hB⟩⟩
theorem put_keys {kvs : List (Key × V)} {k : Key} {v : V} (h : k ∈ kvs.map (·.1)) : (putK kvs k v).map (·.1) = kvs.map (·.1) := by
  obtain ⟨p, hp, e⟩ := List.mem_map.mp h
  have ha : (kvs.any fun kv => decide (kv.fst = k)) = true := List.any_eq_true.mpr ⟨p, hp, decide_eq_true e⟩
  unfold putK
  rw [if_pos ha, List.map_map]
  refine List.map_congr_left fun q _ => ?_
  show (if q.1 = k then (q.1, v) else q).1 = q.1
  by_cases c : q.1 = k
  · rw [if_pos c]
  · rw [if_neg c]
/-- one page changes -/
theorem Pages.step (h : Pages K H ns B D kvp F) {z : Str} {p : Addr} {kvs : List (Key × V)} {ks : List Str} {f : Sh} (hz : z ∈ ns) (hp : PG K (some D) H ns B p kvs ks f) :
    Pages K (upd H D (.dK (putK kvp (.inr z) (.ref p)))) ns B D (putK kvp (.inr z) (.ref p)) (setH F z f) := by
  refine ⟨upd_same, by rw [put_keys (by rw [h.keys]; exact List.mem_map.mpr ⟨z, hz, rfl⟩), h.keys], fun w hw => ?_⟩
  by_cases c : w = z
  · subst c
    rw [setH_same]
    exact ⟨p, kvs, ks, by rw [valV_put, if_pos rfl], hp.put h.at_⟩
  · rw [setH_ne c]
    obtain ⟨q, kv2, k2, h1, h2⟩ := h.page w hw
    exact ⟨q, kv2, k2, by rw [valV_put, if_neg (fun e => c (Sum.inr.inj e))]; exact h1, h2.put h.at_⟩
end
/-! ### how many, by all names -/
theorem tot_all {ks ns : List Str} {f : Sh} (h1 : ks.Nodup) (h2 : ns.Nodup) (hs : ∀ z ∈ ks, z ∈ ns) (ho : ∀ z, ¬ z ∈ ks → f z = (0, 0)) : totF ks f = totF ns f := by
  have e : totF ns f = totF (ns.filter fun z => decide (z ∈ ks)) f := by
    have go : ∀ l : List Str, totF l f = totF (l.filter fun z => decide (z ∈ ks)) f := by
      intro l
      induction l with
      | nil => rfl
      | cons a r ih =>
        by_cases c : a ∈ ks
        · rw [List.filter_cons_of_pos (by simp [c])]
          unfold totF at ih ⊢
          rw [List.map_cons, List.map_cons, List.sum_cons, List.sum_cons, ih]
        · rw [List.filter_cons_of_neg (by simp [c]), ← ih]
          unfold totF
          rw [List.map_cons, List.sum_cons, ho a c]
          simp
    exact go ns
  rw [e]
  refine totF_mem h1 (List.Pairwise.filter _ h2) fun w => ?_
  rw [List.mem_filter]
  constructor
  · exact fun q => ⟨hs w q, by simp [q]⟩
  · exact fun q => by simpa using q.2
theorem cnt_all {ls ns : List Str} {f g : Sh} (h1 : ls.Nodup) (h2 : ns.Nodup) (hs : ∀ z ∈ ls, z ∈ ns) (ho : ∀ z, ¬ z ∈ ls → g z = (0, 0)) (hf : NN f) : (lackK ls f g).length = (lackK ns f g).length := by
  have p : (lackK ls f g).Perm (lackK ns f g) := (List.perm_ext_iff_of_nodup (List.Pairwise.filter _ h1) (List.Pairwise.filter _ h2)).mpr fun w => by
    show w ∈ lackK ls f g ↔ w ∈ lackK ns f g
    rw [mem_lackK, mem_lackK]
    constructor
    · exact fun q => ⟨hs w q.1, q.2⟩
    · intro q
      refine ⟨?_, q.2⟩
      by_cases c : w ∈ ls
      · exact c
      · rw [rch_out hf (ho w c)] at q
        exact absurd q.2 (by decide)
  exact p.length_eq
/-- a room that is being made -/
structure RI (C : Addr) (H : Hp) (D : Addr) (kvh : List (Key × V)) (zs : List Str) : Prop where
  at_ : H D = some (.dK kvh)
  keys : kvh.map (·.1) = zs.map Sum.inr
  nd : zs.Nodup
  nm : NmOk zs
  hand : ∀ z ∈ zs, ∃ x dx d, valV kvh (.inr z) = some (.ref x) ∧ H x = some (insH C dx z d) ∧ H d = some (.dK []) ∧ d ≠ D
theorem RI.nil {C : Addr} {H : Hp} {D : Addr} (h : H D = some (.dK [])) : RI C H D [] [] := ⟨h, rfl, List.nodup_nil, NmOk.nil, fun z hz => by cases hz⟩
theorem RI.ex {C : Addr} {H H' : Hp} {D : Addr} {kvh : List (Key × V)} {zs : List Str} (h : RI C H D kvh zs) (e : Ex H H') : RI C H' D kvh zs :=
  ⟨e _ _ h.at_, h.keys, h.nd, h.nm, fun z hz => by
    obtain ⟨x, dx, d, h1, h2, h3, h4⟩ := h.hand z hz
    exact ⟨x, dx, d, h1, e _ _ h2, e _ _ h3, h4⟩⟩
theorem RI.exs {C r : Addr} {H H' : Hp} {D : Addr} {kvh : List (Key × V)} {zs : List Str} (h : RI C H D kvh zs) (e : Exs (fun a => a = r) H H') (hr : ∃ C' dx, H r = some (.ins C' dx [])) : RI C H' D kvh zs := by
  obtain ⟨C', dx', hr⟩ := hr
  refine ⟨e _ _ (fun c => by have q := h.at_; rw [c, hr] at q; cases q) h.at_, h.keys, h.nd, h.nm, fun z hz => ?_⟩
  obtain ⟨x, dx, d, h1, h2, h3, h4⟩ := h.hand z hz
  exact ⟨x, dx, d, h1, e _ _ (fun c => by rw [c, hr] at h2; unfold insH at h2; simp at h2) h2, e _ _ (fun c => by rw [c, hr] at h3; cases h3) h3, h4⟩
theorem RI.miss {C : Addr} {H : Hp} {D : Addr} {kvh : List (Key × V)} {zs : List Str} (h : RI C H D kvh zs) {z : Str} (hz : ¬ z ∈ zs) : valV kvh (.inr z) = none := key_out h.keys hz
theorem RI.has {C : Addr} {H : Hp} {D : Addr} {kvh : List (Key × V)} {zs : List Str} (h : RI C H D kvh zs) {z : Str} (hz : z ∈ zs) : ∃ v, valV kvh (.inr z) = some v := by
  obtain ⟨x, _, _, q, _⟩ := h.hand z hz
  exact ⟨_, q⟩
theorem put_new {kvs : List (Key × V)} {k : Key} {v : V} (h : valV kvs k = none) (hk : ¬ k ∈ kvs.map (·.1)) : putK kvs k v = kvs ++ [(k, v)] := by
  unfold putK
  rw [if_neg]
  rw [List.any_eq_true]
  rintro ⟨p, hp, e⟩
  exact hk (List.mem_map.mpr ⟨p, hp, of_decide_eq_true e⟩)
theorem RI.add {C : Addr} {H : Hp} {D : Addr} {kvh : List (Key × V)} {zs : List Str} (h : RI C H D kvh zs) {z : Str} {x dx d : Addr} (hn : nameB z = true) (hz : ¬ z ∈ zs) (hx : H x = some (insH C dx z d)) (hd : H d = some (.dK [])) (hdD : d ≠ D) :
    RI C (upd H D (.dK (putK kvh (.inr z) (.ref x)))) D (putK kvh (.inr z) (.ref x)) (zs ++ [z]) := by
  have e := put_new (v := .ref x) (h.miss hz) (by rw [h.keys]; intro q; obtain ⟨w, hw, e⟩ := List.mem_map.mp q; cases e; exact hz hw)
  refine ⟨upd_same, by rw [e, List.map_append, h.keys, List.map_append]; rfl, ?_, fun w hw => ?_, fun w hw => ?_⟩
  · refine List.nodup_append.mpr ⟨h.nd, List.nodup_cons.mpr ⟨by simp, List.nodup_nil⟩, fun a ha b hb c => ?_⟩
    rw [List.mem_singleton.mp hb] at c
    exact hz (c ▸ ha)
  · rcases List.mem_append.mp hw with q | q
    · exact h.nm w q
    · rw [List.mem_singleton.mp q]; exact hn
  · have up : ∀ {a : Addr} {o : HO}, a ≠ D → H a = some o → upd H D (.dK (putK kvh (.inr z) (.ref x))) a = some o := fun n q => by rw [upd_ne n]; exact q
    rcases List.mem_append.mp hw with q | q
    · obtain ⟨y, dy, d', h1, h2, h3, h4⟩ := h.hand w q
      exact ⟨y, dy, d', by rw [valV_put, if_neg (fun c => hz (by rw [← Sum.inr.inj c]; exact q))]; exact h1, up (fun c => by rw [c, h.at_] at h2; cases h2) h2, up h4 h3, h4⟩
    · rw [List.mem_singleton.mp q]
      exact ⟨x, dx, d, by rw [valV_put, if_pos rfl], up (fun c => by rw [c, h.at_] at hx; cases hx) hx, up hdD hd, hdD⟩
theorem RI.hands {K : PySem.W.Frag} {C : Addr} {H : Hp} {D : Addr} {kvh : List (Key × V)} {zs : List Str} (h : RI C H D kvh zs) : Hands K C none H zs 0 D kvh (fun _ _ => (0, 0)) :=
  ⟨h.at_, h.keys, h.nd, h.nm, fun x hx => (by cases hx), fun z hz => by
    obtain ⟨x, dx, d, h1, h2, h3, h4⟩ := h.hand z hz
    exact ⟨x, h1, ⟨dx, d, [], [], h2, ⟨h3, PgK.nil, NmP.nil, NN.zero, fun w hw => (by cases hw), fun _ => ⟨Int.le_refl _, Int.le_refl _⟩, fun x hx => by cases hx⟩, rfl⟩⟩⟩
theorem sqL_exs {K : PySem.W.Frag} {r : Addr} {H H' : Hp} (e : Exs (fun a => a = r) H H') (hr : ∃ C dx, H r = some (.ins C dx [])) {a : Addr} {xs : List V} (q : SqL K H a xs) : SqL K H' a xs := by
  obtain ⟨C, dx, hr⟩ := hr
  have up : ∀ {a : Addr} {o : L2.HO}, H a = some o → (∀ C dx, ¬ o = .ins C dx []) → H' a = some o := fun {a o} q n => e _ _ (fun c => n C dx (by rw [c, hr] at q; exact (Option.some.inj q).symm)) q
  rcases q with (q | ⟨od, q⟩) | q
  · exact .inl (.inl (up q (fun _ _ c => by cases c)))
  · exact .inl (.inr ⟨od, up q (fun _ _ c => by cases c)⟩)
  · exact .inr q
/-- the names of a row that a room takes -/
def RowOk (xs : List V) : Prop := ∃ ns : List Str, xs = ns.map V.str ∧ NmOk ns ∧ ns.Nodup
theorem str_inj : ∀ {a b : List Str}, a.map V.str = b.map V.str → a = b
  | [], [], _ => rfl
  | [], _ :: _, h => by cases h
  | _ :: _, [], h => by cases h
  | x :: a, y :: b, h => by
    have h1 := (List.cons.inj h).1
    cases h1
    rw [str_inj (List.cons.inj h).2]
theorem row_at {xs : List V} {ns : List Str} (e : xs = ns.map V.str) {i : Nat} {v : V} (h : xs[i]? = some v) : ∃ z, ns[i]? = some z ∧ v = .str z := by
  rw [e, List.getElem?_map] at h
  cases q : ns[i]? with
  | none => rw [q] at h; cases h
  | some z => rw [q] at h; cases h; exact ⟨z, rfl, rfl⟩
theorem row_twice {xs : List V} {zs : List Str} {i : Nat} {z : Str} (ht : xs.take i = zs.map V.str) (h : xs[i]? = some (.str z)) (hz : z ∈ zs) : ¬ RowOk xs := by
  rintro ⟨ns, e, _, nd⟩
  obtain ⟨w, hw, e2⟩ := row_at e h
  cases e2
  rw [e, ← List.map_take] at ht
  rw [← str_inj ht] at hz
  obtain ⟨j, hj⟩ := List.mem_iff_getElem?.mp hz
  have hji : j < i := by
    have := (List.getElem?_eq_some_iff.mp hj).1
    rw [List.length_take] at this
    omega
  rw [List.getElem?_take_of_lt hji] at hj
  obtain ⟨a1, a2⟩ := List.getElem?_eq_some_iff.mp hj
  obtain ⟨b1, b2⟩ := List.getElem?_eq_some_iff.mp hw
  exact (List.pairwise_iff_getElem.mp (List.nodup_iff_pairwise_ne.mp nd)) j i a1 b1 hji (a2.trans b2.symm)
theorem row_not {xs : List V} {i : Nat} {v : V} (h : xs[i]? = some v) (hv : ∀ z, v = .str z → nameB z = false) : ¬ RowOk xs := by
  rintro ⟨ns, e, hn, _⟩
  rw [e, List.getElem?_map] at h
  cases q : ns[i]? with
  | none => rw [q] at h; cases h
  | some z =>
    rw [q] at h
    have := hv z (Option.some.inj h).symm
    rw [hn z (List.mem_of_getElem? q)] at this
    cases this
theorem exs_new {S : Addr → Prop} {H H' : Hp} {D : Addr} {o : L2.HO} (e : Exs S H H') (hD : H D = none) : Exs S H (upd H' D o) := fun a u n q => by
  rw [upd_ne (fun c => by rw [c, hD] at q; cases q)]
  exact e a u n q
theorem at_key {kvs : List (Key × V)} {ns : List Str} (h : kvs.map (·.1) = ns.map Sum.inr) (nd : ns.Nodup) {i : Nat} {k : Key} {v : V} (q : kvs[i]? = some (k, v)) : ∃ z, k = .inr z ∧ ns[i]? = some z ∧ valV kvs (.inr z) = some v := by
  have c : (kvs.map (·.1))[i]? = some k := by rw [List.getElem?_map, q]; rfl
  rw [h, List.getElem?_map] at c
  cases d : ns[i]? with
  | none => rw [d] at c; cases c
  | some z =>
    rw [d] at c
    cases c
    have nk : (kvs.map (·.1)).Nodup := by rw [h]; exact List.Pairwise.map _ (fun a b n e => n (Sum.inr.inj e)) nd
    exact ⟨z, rfl, rfl, val_nodup nk _ (List.mem_of_getElem? q)⟩
theorem er_ins {H H' : Hp} (e : Er H H') {a C dx : Addr} {fs : List (Str × V)} (h : H a = some (.ins C dx fs)) : H' a = some (.ins C dx fs) := by
  rcases e a _ h with q | ⟨_, q | ⟨_, q⟩, _⟩
  · exact q
  · cases q
  · cases q
/-! ### pages compared -/
def sameB (ns : List Str) (f g : Sh) : Bool := ns.all fun w => decide (f w = g w)
def eqE (f g : Sh) : Key → Bool := fun k => match k with | .inr z => decide (f z = g z) | .inl _ => true
theorem pair_eq (s t : Int × Int) : (decide (s.1 = t.1) && decide (s.2 = t.2)) = decide (s = t) := by
  by_cases c : s = t
  · rw [c, decide_eq_true rfl, decide_eq_true rfl, decide_eq_true rfl]; rfl
  · rw [decide_eq_false c]
    by_cases d : s.1 = t.1
    · have : ¬ s.2 = t.2 := fun e => c (Prod.ext d e)
      rw [decide_eq_false this, Bool.and_false]
    · rw [decide_eq_false d, Bool.false_and]
theorem PgK.eqg {K : PySem.W.Frag} {H : Hp} {kvs kvs2 : List (Key × V)} {ks ls ns : List Str} {f g : Sh} (h : PgK K H kvs ks f) (q : PgK K H kvs2 ls g) (hs : ∀ z ∈ ks, z ∈ ns) (qs : ∀ z ∈ ls, z ∈ ns) (hp : ∀ z, z ∈ ks ↔ ¬ f z = (0, 0)) (qp : ∀ z, z ∈ ls ↔ ¬ g z = (0, 0)) :
    (∀ p ∈ kvs, ∀ v', valV kvs2 p.1 = some v' → EqJ K H p.2 v' (eqE f g p.1)) ∧ dictEqB kvs kvs2 (eqE f g) = sameB ns f g := by
  have hk : ∀ p ∈ kvs, ∃ z ∈ ks, p.1 = .inr z := fun p hp => by
    have c : p.1 ∈ kvs.map (·.1) := List.mem_map.mpr ⟨p, hp, rfl⟩
    rw [h.keys] at c
    obtain ⟨z, hz, e⟩ := List.mem_map.mp c
    exact ⟨z, hz, e.symm⟩
  refine ⟨fun p hp => ?_, ?_⟩
  · obtain ⟨z, hz, e⟩ := hk p hp
    intro v' hv
    obtain ⟨t, ht, hs⟩ := h.there hz
    rw [e] at hv
    obtain ⟨t2, rfl, hs2⟩ := q.at_ z v' hv
    have e2 : p.2 = .ref t := by
      have c := val_nodup h.ndk p hp
      rw [e, ht] at c
      exact (Option.some.inj c).symm
    rw [e2, e]
    refine .inr ⟨_, _, two_dp hs, two_dp hs2, shp2 _ _, shp2 _ _, ?_⟩
    rw [eqv2]
    exact (pair_eq _ _).symm
  · rw [Bool.eq_iff_iff]
    unfold dictEqB sameB
    rw [Bool.and_eq_true, decide_eq_true_eq, h.len, q.len, List.all_eq_true, List.all_eq_true]
    constructor
    · rintro ⟨hl, ha⟩ w _
      have hin : ∀ z ∈ ks, z ∈ ls ∧ f z = g z := fun z hz => by
        obtain ⟨t, ht, _⟩ := h.there hz
        have a := ha _ (valV_mem ht)
        rw [Bool.and_eq_true] at a
        obtain ⟨a1, a2⟩ := a
        refine ⟨?_, of_decide_eq_true a2⟩
        cases c : valV kvs2 (.inr z) with
        | none => rw [c] at a1; cases a1
        | some v => exact q.mem.mpr ⟨v, c⟩
      rw [decide_eq_true_eq]
      by_cases c : w ∈ ks
      · exact (hin w c).2
      · have d : ¬ w ∈ ls := fun d => by
          have := nd_len (l := w :: ks) (m := ls) (List.nodup_cons.mpr ⟨c, h.nd⟩) (fun z hz => by
            rcases List.mem_cons.mp hz with e | e
            · rw [e]; exact d
            · exact (hin z e).1)
          rw [List.length_cons] at this
          omega
        rw [h.out w c, q.out w d]
    · intro ha
      have hfg : ∀ z, f z = g z := fun z => by
        by_cases c : z ∈ ns
        · exact of_decide_eq_true (ha z c)
        · rw [h.out z (fun d => c (hs z d)), q.out z (fun d => c (qs z d))]
      have hm : ∀ z, z ∈ ks ↔ z ∈ ls := fun z => by rw [hp, qp, hfg z]
      refine ⟨Nat.le_antisymm (nd_len h.nd fun w hw => (hm w).mp hw) (nd_len q.nd fun w hw => (hm w).mpr hw), fun p hp' => ?_⟩
      obtain ⟨z, hz, e⟩ := hk p hp'
      obtain ⟨t, ht, _⟩ := q.there ((hm z).mp hz)
      rw [e, ht]
      show decide (f z = g z) = true
      exact decide_eq_true (hfg z)
theorem PG.eqg {K : PySem.W.Frag} {X Y : Option Addr} {H : Hp} {ns : List Str} {B B' : Int} {d e : Addr} {kvs kv2 : List (Key × V)} {ks ls : List Str} {f g : Sh} (h : PG K X H ns B d kvs ks f) (q : PG K Y H ns B' e kv2 ls g) :
    (∀ p ∈ kvs, ∀ v', valV kv2 p.1 = some v' → EqJ K H p.2 v' (eqE f g p.1)) ∧ dictEqB kvs kv2 (eqE f g) = sameB ns f g := h.pg.eqg q.pg h.sub q.sub (fun _ => h.mem) (fun _ => q.mem)
/-! ### a meeting -/
theorem mxF_self (f : Sh) : mxF f f = f := by
  funext z
  show (gmax (f z).1 (f z).1, gmax (f z).2 (f z).2) = f z
  have g : ∀ i : Int, gmax i i = i := fun i => by unfold gmax; split <;> rfl
  rw [g, g]
theorem PG.mx {K : PySem.W.Frag} {X Y : Option Addr} {H H1 H' : Hp} {ns ks ls ys : List Str} {B : Int} {d e d' : Addr} {kvs kv2 kvs' : List (Key × V)} {f g : Sh} (h : PG K X H ns B d kvs ks f) (q : PG K Y H1 ns B e kv2 ls g)
    (h1 : H' d' = some (.dK kvs')) (h2 : PgK K H' kvs' ys (mxF f g)) (hm : ∀ w, w ∈ ys ↔ w ∈ ks ∨ w ∈ ls) (hne : ∀ x, X = some x → d' ≠ x) : PG K X H' ns B d' kvs' ys (mxF f g) :=
  ⟨h1, h2, h.nm.mx q.nm h.nn q.nn hm, NNmx h.nn q.nn, fun z hz => ((hm z).mp hz).elim (h.sub z) (q.sub z), fun z => ⟨gmax_le.mpr ⟨(h.bd z).1, (q.bd z).1⟩, gmax_le.mpr ⟨(h.bd z).2, (q.bd z).2⟩⟩, hne⟩
theorem Hands.at_hand {K : PySem.W.Frag} {C : Addr} {X : Option Addr} {H : Hp} {ns : List Str} {B : Int} {D : Addr} {kvh : List (Key × V)} {F : Str → Sh} (h : Hands K C X H ns B D kvh F) {z : Str} (hz : z ∈ ns) :
    ∃ x dx d kvs ks, valV kvh (.inr z) = some (.ref x) ∧ H x = some (insH C dx z d) ∧ PG K X H ns B d kvs ks (F z) ∧ PyProof.Rows.sortedS ks = true := by
  obtain ⟨x, hx, hp⟩ := h.hand z hz
  obtain ⟨dx, d, kvs, ks, h1, h2, h3⟩ := hp.it
  exact ⟨x, dx, d, kvs, ks, hx, h1, h2, h3⟩
theorem PG.cnt {K : PySem.W.Frag} {X : Option Addr} {H : Hp} {ns ls : List Str} {B : Int} {e : Addr} {kv2 : List (Key × V)} {f g : Sh} (q : PG K X H ns B e kv2 ls g) (nd : ns.Nodup) (hf : NN f) : (lackK ls f g).length = (lackK ns f g).length :=
  cnt_all q.pg.nd nd q.sub q.pg.out hf
theorem PG.tot {K : PySem.W.Frag} {X : Option Addr} {H : Hp} {ns ls : List Str} {B : Int} {e : Addr} {kv2 : List (Key × V)} {g : Sh} (q : PG K X H ns B e kv2 ls g) (nd : ns.Nodup) : totF ls g = totF ns g :=
  tot_all q.pg.nd nd q.sub q.pg.out
theorem exs_in {kvh : List (Key × V)} {z : Str} {x : Addr} {H H' : Hp} (hx : valV kvh (.inr z) = some (.ref x)) (e : Exs (fun a => a = x) H H') : Exs (HandO kvh) H H' := e.new fun a c => .inl ⟨z, by rw [c]; exact hx⟩
/-! ### names that are none of the room -/
theorem upper_out {z : Str} (h : nameB z = true) (ha : 97 ∈ z.cps.toList) : nameB (Txt.upper z) = false := by
  have hA : ∀ c ∈ z.cps.toList, c < 128 := fun c hc => by
    have q : ∀ c ∈ LET.cps.toList, c < 128 := by decide +kernel
    exact q c (((nameB_iff z).mp h).2.2 c hc)
  rw [PyProof.Rows.upper_ascii hA]
  refine nameB_out (c := 65) ?_ (by decide +kernel)
  rw [Array.toList_map]
  exact List.mem_map.mpr ⟨97, ha, by decide⟩
theorem Nms12.has_a {c : Int} {a : Nat} {n : Option Nat} {zs : List Str} (h : Nms12 c a n zs) {z : Str} (hz : z ∈ zs) : 97 ∈ z.cps.toList := by
  obtain ⟨j, _, m⟩ := h.at_ hz
  obtain ⟨s, _, _, y⟩ := m.it
  exact List.mem_of_getElem? y
theorem app_out {x y : Str} {c : Nat} (hc : ¬ c ∈ LET.cps.toList) (h : c ∈ x.cps.toList ∨ c ∈ y.cps.toList) : nameB (x ++ y) = false :=
  nameB_out (c := c) (by rw [app_tl]; exact List.mem_append.mpr h) hc
theorem op_goE {t u : TS} {D : Ends} {σ : L2.St} {H : Hp} (h : ∀ (N : L2.St → Hp → Prop) (R : VK) (B E : L2.St → Hp → Prop), (∀ σ' H', u D σ' H' → N σ' H') → (∀ v H', D.rt v H' → R v H') → t ⟨N, R, B, E⟩ σ H) : Evl.tCut t u D σ H := ⟨u D, h _ D.rt D.bk D.ct (fun _ _ q => q) (fun _ _ q => q), fun _ _ q => q⟩
/-- what is no name, whatever the list R holds -/
def OddV (H : Hp) (R : Addr) (v : V) : Prop := (∃ z : Str, v = .str z ∧ z.length ≤ 100000 ∧ nameB z = false) ∨ (∃ i, v = .int i) ∨ v = .non ∨ (∃ b, v = .bl b) ∨ (∃ t xs, v = .ref t ∧ H t = some (.tup xs)) ∨ ∃ t xs, v = .ref t ∧ H t = some (.lst xs) ∧ t ≠ R
theorem OddV.ex {H H' : Hp} {R : Addr} {v : V} (h : OddV H R v) (e : Ex H H') : OddV H' R v := by
  rcases h with h | h | h | h | ⟨t, xs, h1, h2⟩ | ⟨t, xs, h1, h2, h3⟩
  · exact .inl h
  · exact .inr (.inl h)
  · exact .inr (.inr (.inl h))
  · exact .inr (.inr (.inr (.inl h)))
  · exact .inr (.inr (.inr (.inr (.inl ⟨t, xs, h1, e _ _ h2⟩))))
  · exact .inr (.inr (.inr (.inr (.inr ⟨t, xs, h1, e _ _ h2, h3⟩))))
theorem OddV.put {H : Hp} {R : Addr} {v : V} {ys zs : List V} (h : OddV H R v) (hR : H R = some (.lst ys)) : OddV (upd H R (.lst zs)) R v := by
  rcases h with h | h | h | h | ⟨t, xs, h1, h2⟩ | ⟨t, xs, h1, h2, h3⟩
  · exact .inl h
  · exact .inr (.inl h)
  · exact .inr (.inr (.inl h))
  · exact .inr (.inr (.inr (.inl h)))
  · exact .inr (.inr (.inr (.inr (.inl ⟨t, xs, h1, by rw [upd_ne (fun c => by rw [c, hR] at h2; cases h2)]; exact h2⟩))))
  · exact .inr (.inr (.inr (.inr (.inr ⟨t, xs, h1, by rw [upd_ne h3]; exact h2, h3⟩))))
theorem OddV.room {K : PySem.W.Frag} {H : Hp} {R r C dr : Addr} {v : V} (h : OddV H R v) (hr : H r = some (.ins C dr [])) : (∃ z : Str, v = .str z ∧ z.length ≤ 100000) ∨ ((∀ H', Exs (fun a => a = r) H H' → NoStr K H' v) ∧ ∀ z, ¬ v = .str z) := by
  rcases h with ⟨z, h1, h2, _⟩ | ⟨i, rfl⟩ | rfl | ⟨b, rfl⟩ | ⟨t, xs, rfl, h2⟩ | ⟨t, xs, rfl, h2, _⟩
  · exact .inl ⟨z, h1, h2⟩
  · exact .inr ⟨fun _ _ => NoStr.int _, fun z c => by cases c⟩
  · exact .inr ⟨fun _ _ => NoStr.non, fun z c => by cases c⟩
  · exact .inr ⟨fun _ _ => NoStr.bl _, fun z c => by cases c⟩
  · exact .inr ⟨fun H' e => NoStr.tup (Evl.st_of (e _ _ (fun c => by rw [c, hr] at h2; cases h2) h2)), fun z c => by cases c⟩
  · exact .inr ⟨fun H' e => NoStr.lst (Evl.sq_of (e _ _ (fun c => by rw [c, hr] at h2; cases h2) h2)), fun z c => by cases c⟩
theorem OddV.bad {H : Hp} {R : Addr} {v : V} (h : OddV H R v) : ∀ z, v = .str z → nameB z = false := fun z e => by
  rcases h with ⟨w, h1, _, h3⟩ | ⟨i, rfl⟩ | rfl | ⟨b, rfl⟩ | ⟨t, xs, rfl, h2⟩ | ⟨t, xs, rfl, h2, _⟩
  · rw [h1] at e; cases e; exact h3
  all_goals cases e
theorem ins_at {α : Type} {xs : List α} {q : Nat} {v : α} (h : q ≤ xs.length) : (xs.take q ++ [v] ++ xs.drop q)[q]? = some v := by
  rw [List.append_assoc, List.getElem?_append_right (by rw [List.length_take]; omega), List.length_take, Nat.min_eq_left h, Nat.sub_self]
  rfl
theorem ins_dup {zs : List Str} {q : Nat} {z : Str} (hz : z ∈ zs) : ¬ RowOk (((zs.map V.str).take q ++ [.str z] ++ (zs.map V.str).drop q)) := by
  rintro ⟨ns, e, _, nd⟩
  have e2 : (zs.take q ++ [z] ++ zs.drop q).map V.str = ns.map V.str := by
    rw [← e, List.map_append, List.map_append, List.map_take, List.map_drop]
    rfl
  rw [← str_inj e2] at nd
  rw [List.append_assoc] at nd
  obtain ⟨_, n2, n3⟩ := List.nodup_append.mp nd
  have hz' : z ∈ zs.take q ++ zs.drop q := by rw [List.take_append_drop]; exact hz
  rcases List.mem_append.mp hz' with c | c
  · exact n3 z c z (by simp) rfl
  · exact (List.nodup_cons.mp n2).1 c
/-- a page of one name -/
theorem PG.one {K : PySem.W.Frag} {X : Option Addr} {H : Hp} {ns : List Str} {B : Int} {e t : Addr} {v : Str} {s : Int × Int} (h : H e = some (.dK [(.inr v, .ref t)])) (ht : ShAt K H t s.1 s.2) (hv : v ∈ ns) (hn : nameB v = true) (h0 : 0 ≤ s.1 ∧ 0 ≤ s.2) (hp : 0 < s.1 ∨ 0 < s.2) (hB : s.1 ≤ B ∧ s.2 ≤ B) (hB0 : 0 ≤ B) (hL : B < LIM) (hne : ∀ x, X = some x → e ≠ x) :
    PG K X H ns B e [(.inr v, .ref t)] [v] (oneF v s) := by
  have cas : ∀ z, oneF v s z = s ∨ oneF v s z = (0, 0) := fun z => by
    by_cases c : z = v
    · left; rw [c]; exact oneF_at
    · right; exact oneF_ne c
  refine ⟨h, PgK.one ht, ⟨fun z hz => by rw [List.mem_singleton.mp hz]; exact hn, fun z hz => by rw [List.mem_singleton.mp hz, oneF_at]; exact hp, fun z => ?_⟩, fun z => ?_, fun z hz => by rw [List.mem_singleton.mp hz]; exact hv, fun z => ?_, hne⟩
  · rcases cas z with c | c <;> rw [c]
    · exact ⟨by omega, by omega⟩
    · exact ⟨lim_pos, lim_pos⟩
  · rcases cas z with c | c <;> rw [c]
    · exact h0
    · exact ⟨Int.le_refl _, Int.le_refl _⟩
  · rcases cas z with c | c <;> rw [c]
    · exact hB
    · exact ⟨hB0, hB0⟩
theorem big_lim {B : Int} (h : B ≤ 2000000) : B < LIM := Int.lt_of_le_of_lt h (by decide)
/-! ### the law's side -/
theorem Hands.exl {K : PySem.W.Frag} {C : Addr} {X : Option Addr} {H H' : Hp} {ns : List Str} {B : Int} {D N : Addr} {kvh : List (Key × V)} {F : Str → Sh} (h : Hands K C X H ns B D kvh F) (e : Exs (fun a => a = N) H H') (hN : ∃ xs, H N = some (.lst xs)) : Hands K C X H' ns B D kvh F := by
  obtain ⟨xs, hN⟩ := hN
  refine ⟨e _ _ (fun c => by have q := h.at_; rw [c, hN] at q; cases q) h.at_, h.keys, h.nd, h.nm, h.ne, fun z hz => ?_⟩
  obtain ⟨x, hx, hp⟩ := h.hand z hz
  obtain ⟨dx, d, kvs, ks, h1, h2, h3⟩ := hp.it
  exact ⟨x, hx, ⟨dx, d, kvs, ks, e _ _ (fun c => by rw [c, hN] at h1; cases h1) h1, h2.exs e (fun p c => .inr ⟨xs, c ▸ hN⟩), h3⟩⟩
theorem sqL_exs2 {K : PySem.W.Frag} {S : Addr → Prop} {H H' : Hp} (e : Exs S H H') (hS : ∀ p, S p → (∃ C dx fs, H p = some (.ins C dx fs)) ∨ ∃ kvs : List (Key × V), H p = some (.dK kvs)) {a : Addr} {xs : List V} (q : SqL K H a xs) : SqL K H' a xs := by
  have no : ∀ {o : L2.HO}, H a = some o → (∀ C dx fs, ¬ o = .ins C dx fs) → (∀ kvs : List (Key × V), ¬ o = .dK kvs) → ¬ S a := fun h n1 n2 c => by
    rcases hS a c with ⟨_, _, _, q⟩ | ⟨_, q⟩
    · rw [h] at q; exact n1 _ _ _ (Option.some.inj q)
    · rw [h] at q; exact n2 _ (Option.some.inj q)
  rcases q with (q | ⟨od, q⟩) | q
  · exact .inl (.inl (e _ _ (no q (fun _ _ _ c => by cases c) (fun _ c => by cases c)) q))
  · exact .inl (.inr ⟨od, e _ _ (no q (fun _ _ _ c => by cases c) (fun _ c => by cases c)) q⟩)
  · exact .inr q
theorem lst_exs2 {S : Addr → Prop} {H H' : Hp} (e : Exs S H H') (hS : ∀ p, S p → (∃ C dx fs, H p = some (.ins C dx fs)) ∨ ∃ kvs : List (Key × V), H p = some (.dK kvs)) {a : Addr} {xs : List V} (q : H a = some (.lst xs)) : H' a = some (.lst xs) :=
  e _ _ (fun c => by rcases hS a c with ⟨_, _, _, d⟩ | ⟨_, d⟩ <;> (rw [q] at d; cases d)) q
/-- pages that are being laid -/
structure PI (H : Hp) (D : Addr) (kvp : List (Key × V)) (ws : List Str) : Prop where
  at_ : H D = some (.dK kvp)
  keys : kvp.map (·.1) = ws.map Sum.inr
  page : ∀ z ∈ ws, ∃ p, valV kvp (.inr z) = some (.ref p) ∧ H p = some (.dK []) ∧ p ≠ D
theorem PI.nil {H : Hp} {D : Addr} (h : H D = some (.dK [])) : PI H D [] [] := ⟨h, rfl, fun z hz => by cases hz⟩
theorem PI.ex {H H' : Hp} {D : Addr} {kvp : List (Key × V)} {ws : List Str} (h : PI H D kvp ws) (e : Ex H H') : PI H' D kvp ws :=
  ⟨e _ _ h.at_, h.keys, fun z hz => by obtain ⟨p, h1, h2, h3⟩ := h.page z hz; exact ⟨p, h1, e _ _ h2, h3⟩⟩
theorem PI.add {H : Hp} {D : Addr} {kvp : List (Key × V)} {ws : List Str} (h : PI H D kvp ws) {z : Str} {p : Addr} (hz : ¬ z ∈ ws) (hp : H p = some (.dK [])) (hpD : p ≠ D) : PI (upd H D (.dK (putK kvp (.inr z) (.ref p)))) D (putK kvp (.inr z) (.ref p)) (ws ++ [z]) := by
  have e := put_new (v := .ref p) (key_out h.keys hz) (by rw [h.keys]; intro q; obtain ⟨w, hw, e⟩ := List.mem_map.mp q; cases e; exact hz hw)
  refine ⟨upd_same, by rw [e, List.map_append, h.keys, List.map_append]; rfl, fun w hw => ?_⟩
  rcases List.mem_append.mp hw with q | q
  · obtain ⟨p', h1, h2, h3⟩ := h.page w q
    exact ⟨p', by rw [valV_put, if_neg (fun c => hz (by rw [← Sum.inr.inj c]; exact q))]; exact h1, by rw [upd_ne h3]; exact h2, h3⟩
  · rw [List.mem_singleton.mp q]
    exact ⟨p, by rw [valV_put, if_pos rfl], by rw [upd_ne hpD]; exact hp, hpD⟩
theorem PI.pages {K : PySem.W.Frag} {H : Hp} {D : Addr} {kvp : List (Key × V)} {ws : List Str} (h : PI H D kvp ws) : Pages K H ws 0 D kvp (fun _ _ => (0, 0)) :=
  ⟨h.at_, h.keys, fun z hz => by
    obtain ⟨p, h1, h2, h3⟩ := h.page z hz
    exact ⟨p, [], [], h1, ⟨h2, PgK.nil, NmP.nil, NN.zero, fun w hw => (by cases hw), fun _ => ⟨Int.le_refl _, Int.le_refl _⟩, fun x hx c => by cases hx; exact h3 c⟩⟩⟩
theorem allSame_take {zs : List Str} {F : Str → Sh} {i : Nat} {z : Str} (h : zs[i]? = some z) : ((zs.take (i + 1)).all fun w => sameB zs (F w) (F (zs.headD ""))) = (((zs.take i).all fun w => sameB zs (F w) (F (zs.headD ""))) && sameB zs (F z) (F (zs.headD ""))) := by
  rw [take_snoc h, List.all_append]
  simp
theorem Hands.not_room {K : PySem.W.Frag} {C CR : Addr} {X : Option Addr} {H : Hp} {ns : List Str} {B : Int} {D r dr E : Addr} {kvh : List (Key × V)} {F : Str → Sh} (h : Hands K C X H ns B D kvh F) (hr : H r = some (.ins CR dr [("hands", .ref E)])) : ¬ HandO kvh r := fun q => by
  obtain ⟨z, _, hp⟩ := h.ho q
  obtain ⟨dx, d, _, _, hx, _⟩ := hp.it
  rw [hr] at hx
  unfold insH at hx
  simp at hx
end Gc

namespace Gc
open PySem L2 Evl
/-! ### sets of places, as dicts -/
def rowsN (hs : List Nat) : List (Key × V) := hs.map fun (k : Nat) => ((Sum.inl (k : Int) : Key), V.bl true)
def addN (hs : List Nat) (k : Nat) : List Nat := if k ∈ hs then hs else hs ++ [k]
theorem mem_addN {hs : List Nat} {k j : Nat} : j ∈ addN hs k ↔ j ∈ hs ∨ j = k := by
  unfold addN
  by_cases c : k ∈ hs
  · rw [if_pos c]
    constructor
    · exact .inl
    · rintro (h | h)
      · exact h
      · rw [h]; exact c
  · rw [if_neg c]; simp
theorem addN_nd {hs : List Nat} {k : Nat} (h : hs.Nodup) : (addN hs k).Nodup := by
  unfold addN
  by_cases c : k ∈ hs
  · rw [if_pos c]; exact h
  · rw [if_neg c]
    exact List.nodup_append.mpr ⟨h, List.nodup_cons.mpr ⟨by simp, List.nodup_nil⟩, fun a ha b hb e => c (by rw [← List.mem_singleton.mp hb, ← e]; exact ha)⟩
theorem rowsN_keys (hs : List Nat) : (rowsN hs).map (·.1) = hs.map fun (k : Nat) => (Sum.inl (k : Int) : Key) := by
  unfold rowsN
  rw [List.map_map]
  rfl
theorem rowsN_len (hs : List Nat) : (rowsN hs).length = hs.length := List.length_map _
theorem rowsN_at {hs : List Nat} {i : Nat} {key : Key} {v : V} (h : (rowsN hs)[i]? = some (key, v)) : ∃ k : Nat, hs[i]? = some k ∧ key = .inl (k : Int) ∧ v = .bl true := by
  unfold rowsN at h
  rw [List.getElem?_map] at h
  cases q : hs[i]? with
  | none => rw [q] at h; cases h
  | some k => rw [q] at h; cases h; exact ⟨k, rfl, rfl, rfl⟩
theorem key_nat {k : Nat} {hs : List Nat} : ((Sum.inl (k : Int) : Key) ∈ (rowsN hs).map (·.1)) ↔ k ∈ hs := by
  rw [rowsN_keys, List.mem_map]
  constructor
  · rintro ⟨j, hj, e⟩
    have : (j : Int) = (k : Int) := Sum.inl.inj e
    rw [show k = j by omega]
    exact hj
  · exact fun h => ⟨k, h, rfl⟩
theorem rowsN_val {hs : List Nat} {k : Nat} : valV (rowsN hs) (.inl (k : Int)) = if k ∈ hs then some (V.bl true) else none := by
  by_cases c : k ∈ hs
  · rw [if_pos c]
    have m : ((Sum.inl (k : Int) : Key), V.bl true) ∈ rowsN hs := List.mem_map.mpr ⟨k, c, rfl⟩
    obtain ⟨v, hv⟩ := valV_some m
    rw [hv]
    obtain ⟨j, _, e⟩ := List.mem_map.mp (valV_mem hv)
    cases e
    rfl
  · rw [if_neg c]
    cases q : valV (rowsN hs) (.inl (k : Int)) with
    | none => rfl
    | some v => exact absurd (key_nat.mp (List.mem_map.mpr ⟨_, valV_mem q, rfl⟩)) c
theorem rowsN_put {hs : List Nat} {k : Nat} : putK (rowsN hs) (.inl (k : Int)) (.bl true) = rowsN (addN hs k) := by
  unfold addN
  by_cases c : k ∈ hs
  · rw [if_pos c]
    have ha : ((rowsN hs).any fun kv => decide (kv.fst = Sum.inl (k : Int))) = true := by
      obtain ⟨p, hp, e⟩ := List.mem_map.mp (key_nat.mpr c)
      exact List.any_eq_true.mpr ⟨p, hp, decide_eq_true e⟩
    unfold putK
    rw [if_pos ha]
    unfold rowsN
    rw [List.map_map]
    refine List.map_congr_left fun j _ => ?_
    show (if (Sum.inl (j : Int) : Key) = Sum.inl (k : Int) then _ else _) = _
    split <;> rfl
  · rw [if_neg c]
    have ha : ¬ ((rowsN hs).any fun kv => decide (kv.fst = Sum.inl (k : Int))) = true := by
      rw [List.any_eq_true]
      rintro ⟨p, hp, e⟩
      exact c (key_nat.mp (List.mem_map.mpr ⟨p, hp, of_decide_eq_true e⟩))
    unfold putK
    rw [if_neg ha]
    unfold rowsN
    rw [List.map_append]
    rfl
/-- the deeds -/
structure DLs (K : PySem.W.Frag) (H : Hp) (L : Addr) (ds : List (Nat × Int)) : Prop where
  it : ∃ ts : List Addr, H L = some (.lst (ts.map V.ref)) ∧ ts.length = ds.length ∧ ∀ (i : Nat) t d, ts[i]? = some t → ds[i]? = some d → ShAt K H t (d.1 : Nat) d.2
theorem DLs.ex {K : PySem.W.Frag} {H H' : Hp} {L : Addr} {ds : List (Nat × Int)} (h : DLs K H L ds) (e : Ex H H') : DLs K H' L ds := by
  obtain ⟨ts, h1, h2, h3⟩ := h.it
  exact ⟨ts, e _ _ h1, h2, fun i t d a b => Er.sqT (Er.of e) (h3 i t d a b)⟩
/-- the deed at k -/
theorem DLs.get {K : PySem.W.Frag} {H : Hp} {L : Addr} {ds : List (Nat × Int)} (h : DLs K H L ds) {k : Nat} (hk : k < ds.length) : ∃ xs t, H L = some (.lst xs) ∧ atI xs (k : Int) = some (.ref t) ∧ ShAt K H t (ds[k].1 : Nat) ds[k].2 := by
  obtain ⟨ts, h1, h2, h3⟩ := h.it
  have hkt : k < ts.length := by omega
  exact ⟨_, ts[k], h1, atI_nat (by rw [List.getElem?_map, List.getElem?_eq_getElem hkt]; rfl), h3 k _ _ (List.getElem?_eq_getElem hkt) (List.getElem?_eq_getElem hk)⟩
/-- the sum of what was heard -/
def sumH (ds : List (Nat × Int)) (hs : List Nat) : Int := (hs.map fun k => (ds.getD k (0, 0)).2).sum
theorem sumH_snoc {ds : List (Nat × Int)} {hs : List Nat} {k : Nat} : sumH ds (hs ++ [k]) = sumH ds hs + (ds.getD k (0, 0)).2 := by
  unfold sumH
  rw [List.map_append, List.sum_append]
  simp
def ownN (ds : List (Nat × Int)) (k : Nat) : Nat := (ds.getD k (0, 0)).1
theorem getD_of {ds : List (Nat × Int)} {k : Nat} (h : k < ds.length) : ds.getD k (0, 0) = ds[k] := by
  rw [List.getD_eq_getElem?_getD, List.getElem?_eq_getElem h]
  rfl
/-- the owners of what is new -/
def ownersN (ds : List (Nat × Int)) (other : List Nat) : List Nat → List Nat → List Nat
  | acc, [] => acc
  | acc, k :: r => ownersN ds other (if k ∈ other then acc else addN acc (ownN ds k)) r
def ownersL (ds : List (Nat × Int)) (hs other : List Nat) : List Nat := hs.foldl (fun acc k => if k ∈ other then acc else addN acc (ownN ds k)) []
theorem ownersL_snoc {ds : List (Nat × Int)} {hs other : List Nat} {k : Nat} : ownersL ds (hs ++ [k]) other = if k ∈ other then ownersL ds hs other else addN (ownersL ds hs other) (ownN ds k) := by
  unfold ownersL
  rw [List.foldl_append]
  rfl
theorem ownersL_nd {ds : List (Nat × Int)} {other : List Nat} : ∀ hs : List Nat, (ownersL ds hs other).Nodup := by
  refine snoc_ind List.nodup_nil fun l a ih => ?_
  rw [ownersL_snoc]
  by_cases c : a ∈ other
  · rw [if_pos c]; exact ih
  · rw [if_neg c]; exact addN_nd ih
theorem mem_ownersL {ds : List (Nat × Int)} {other : List Nat} {o : Nat} : ∀ hs : List Nat, o ∈ ownersL ds hs other ↔ ∃ k ∈ hs, ¬ k ∈ other ∧ ownN ds k = o := by
  refine snoc_ind ⟨fun h => (by cases h), fun ⟨k, hk, _⟩ => (by cases hk)⟩ fun l a ih => ?_
  rw [ownersL_snoc]
  by_cases c : a ∈ other
  · rw [if_pos c, ih]
    constructor
    · rintro ⟨k, h1, h2⟩; exact ⟨k, List.mem_append_left _ h1, h2⟩
    · rintro ⟨k, h1, h2, h3⟩
      rcases List.mem_append.mp h1 with q | q
      · exact ⟨k, q, h2, h3⟩
      · rw [List.mem_singleton.mp q] at h2; exact absurd c h2
  · rw [if_neg c, mem_addN, ih]
    constructor
    · rintro (⟨k, h1, h2⟩ | h)
      · exact ⟨k, List.mem_append_left _ h1, h2⟩
      · exact ⟨a, by simp, c, h.symm⟩
    · rintro ⟨k, h1, h2, h3⟩
      rcases List.mem_append.mp h1 with q | q
      · exact .inl ⟨k, q, h2, h3⟩
      · rw [List.mem_singleton.mp q] at h3; exact .inr h3.symm
theorem ownersL_len {ds : List (Nat × Int)} {other : List Nat} : ∀ hs : List Nat, (ownersL ds hs other).length ≤ hs.length := by
  refine snoc_ind (Nat.le_refl _) fun l a ih => ?_
  rw [ownersL_snoc, List.length_append, List.length_singleton]
  split
  · omega
  · unfold addN
    split
    · omega
    · rw [List.length_append, List.length_singleton]; omega
def newsL (ds : List (Nat × Int)) (hs other : List Nat) : List Nat := hs.filter fun k => decide (ownN ds k ∈ ownersL ds hs other)
end Gc

namespace Gc
open PySem L2 Evl
/-! ### what is heard of, as sums -/
def posP (d : Nat × Int) : Int := if 0 < d.2 then d.2 else 0
def negP (d : Nat × Int) : Int := if 0 < d.2 then 0 else -d.2
theorem posP_0 (d : Nat × Int) : 0 ≤ posP d := by unfold posP; split <;> omega
theorem negP_0 (d : Nat × Int) : 0 ≤ negP d := by unfold negP; split <;> omega
def hsum (ds : List (Nat × Int)) (P : Nat → Bool) (g : Nat × Int → Int) : Int := ((List.range ds.length).map fun k => if P k = true then g (ds.getD k (0, 0)) else 0).sum
theorem sum_le_map {α : Type} {f g : α → Int} : ∀ {l : List α}, (∀ a ∈ l, f a ≤ g a) → (l.map f).sum ≤ (l.map g).sum
  | [], _ => Int.le_refl _
  | a :: r, h => by
    rw [List.map_cons, List.map_cons, List.sum_cons, List.sum_cons]
    have h1 := h a List.mem_cons_self
    have h2 := sum_le_map (l := r) fun b hb => h b (List.mem_cons_of_mem _ hb)
    omega
theorem sum_lt_map {α : Type} {f g : α → Int} : ∀ {l : List α} {a : α}, (∀ a ∈ l, f a ≤ g a) → a ∈ l → f a < g a → (l.map f).sum < (l.map g).sum
  | b :: r, a, h, ha, hl => by
    rw [List.map_cons, List.map_cons, List.sum_cons, List.sum_cons]
    have h1 := h b List.mem_cons_self
    have h2 := sum_le_map (l := r) fun b hb => h b (List.mem_cons_of_mem _ hb)
    rcases List.mem_cons.mp ha with e | e
    · subst e; omega
    · have := sum_lt_map (l := r) (fun b hb => h b (List.mem_cons_of_mem _ hb)) e hl
      omega
theorem hsum_mono {ds : List (Nat × Int)} {P Q : Nat → Bool} {g : Nat × Int → Int} (hg : ∀ d, 0 ≤ g d) (h : ∀ k, k < ds.length → P k = true → Q k = true) : hsum ds P g ≤ hsum ds Q g := by
  refine sum_le_map fun k hk => ?_
  have hk' := List.mem_range.mp hk
  by_cases c : P k = true
  · rw [if_pos c, if_pos (h k hk' c)]; exact Int.le_refl _
  · rw [if_neg c]
    split
    · exact hg _
    · exact Int.le_refl _
theorem hsum_strict {ds : List (Nat × Int)} {P Q : Nat → Bool} {g : Nat × Int → Int} (hg : ∀ d, 0 ≤ g d) (h : ∀ k, k < ds.length → P k = true → Q k = true) {k : Nat} (hk : k < ds.length) (hq : Q k = true) (hp : ¬ P k = true) (hpos : 0 < g (ds.getD k (0, 0))) : hsum ds P g < hsum ds Q g := by
  refine sum_lt_map (fun j hj => ?_) (List.mem_range.mpr hk) ?_
  · have hj' := List.mem_range.mp hj
    by_cases c : P j = true
    · rw [if_pos c, if_pos (h j hj' c)]; exact Int.le_refl _
    · rw [if_neg c]
      split
      · exact hg _
      · exact Int.le_refl _
  · rw [if_neg hp, if_pos hq]; exact hpos
theorem hsum_congr {ds : List (Nat × Int)} {P Q : Nat → Bool} {g : Nat × Int → Int} (h : ∀ k, k < ds.length → P k = Q k) : hsum ds P g = hsum ds Q g := by
  unfold hsum
  refine congrArg List.sum (List.map_congr_left fun k hk => ?_)
  rw [h k (List.mem_range.mp hk)]
theorem hsum_none {ds : List (Nat × Int)} {P : Nat → Bool} {g : Nat × Int → Int} (h : ∀ k, k < ds.length → ¬ P k = true) : hsum ds P g = 0 := by
  have e : hsum ds P g = hsum ds (fun _ => false) g := hsum_congr fun k hk => by
    cases q : P k with
    | false => rfl
    | true => exact absurd q (h k hk)
  rw [e]
  unfold hsum
  have : ∀ l : List Nat, (l.map fun k => if (false : Bool) = true then g (ds.getD k (0, 0)) else 0).sum = 0 := by
    intro l
    induction l with
    | nil => rfl
    | cons a r ih => rw [List.map_cons, List.sum_cons, ih]; rfl
  exact this _
/-- the name of the owner -/
def nmO (zs : List Str) (ds : List (Nat × Int)) (k : Nat) : Str := zs.getD (ownN ds k) ""
def atZ (zs : List Str) (ds : List (Nat × Int)) (p : Nat → Bool) (z : Str) : Nat → Bool := fun k => p k && decide (nmO zs ds k = z)
theorem atZ_iff {zs : List Str} {ds : List (Nat × Int)} {p : Nat → Bool} {z : Str} {k : Nat} : atZ zs ds p z k = true ↔ p k = true ∧ nmO zs ds k = z := by
  unfold atZ
  rw [Bool.and_eq_true, decide_eq_true_eq]
/-- the page of what is heard of -/
def pageF (zs : List Str) (ds : List (Nat × Int)) (p : Nat → Bool) : Sh := fun z => (hsum ds (atZ zs ds p z) posP, hsum ds (atZ zs ds p z) negP)
theorem hsum_0 {ds : List (Nat × Int)} {P : Nat → Bool} {g : Nat × Int → Int} (hg : ∀ d, 0 ≤ g d) : 0 ≤ hsum ds P g := by
  have := hsum_mono (ds := ds) (P := fun _ => false) (Q := P) hg (fun k _ h => by cases h)
  rw [hsum_none (P := fun _ => false) (fun k _ h => by cases h)] at this
  exact this
theorem pageF_nn {zs : List Str} {ds : List (Nat × Int)} {p : Nat → Bool} : NN (pageF zs ds p) := fun _ => ⟨hsum_0 posP_0, hsum_0 negP_0⟩
/-- what was heard of somebody is all up to some deed -/
def Closed (ds : List (Nat × Int)) (p : Nat → Bool) : Prop := ∀ j k, k < ds.length → p k = true → j < k → ownN ds j = ownN ds k → p j = true
/-- deeds by people that are there -/
structure DsOk (zs : List Str) (ds : List (Nat × Int)) : Prop where
  who : ∀ k, k < ds.length → ownN ds k < zs.length
  no0 : ∀ k, k < ds.length → ¬ (ds.getD k (0, 0)).2 = 0
  big : ∀ k, k < ds.length → -1000000000 ≤ (ds.getD k (0, 0)).2 ∧ (ds.getD k (0, 0)).2 ≤ 1000000000
theorem own_nm {zs : List Str} {ds : List (Nat × Int)} (h : DsOk zs ds) (nd : zs.Nodup) {j k : Nat} (hj : j < ds.length) (hk : k < ds.length) (e : nmO zs ds j = nmO zs ds k) : ownN ds j = ownN ds k := by
  have h1 := h.who j hj
  have h2 := h.who k hk
  unfold nmO at e
  rw [List.getD_eq_getElem?_getD, List.getD_eq_getElem?_getD, List.getElem?_eq_getElem h1, List.getElem?_eq_getElem h2] at e
  have e' : zs[ownN ds j] = zs[ownN ds k] := e
  rcases Nat.lt_trichotomy (ownN ds j) (ownN ds k) with c | c | c
  · exact absurd e' ((List.pairwise_iff_getElem.mp (List.nodup_iff_pairwise_ne.mp nd)) _ _ h1 h2 c)
  · exact c
  · exact absurd e'.symm ((List.pairwise_iff_getElem.mp (List.nodup_iff_pairwise_ne.mp nd)) _ _ h2 h1 c)
section
variable {zs : List Str} {ds : List (Nat × Int)} {p q : Nat → Bool}
/-- if q has a deed of z that p has not, p has none that q has not -/
theorem Closed.less (h : DsOk zs ds) (nd : zs.Nodup) (hp : Closed ds p) (hq : Closed ds q) {z : Str} {k : Nat} (hk : k < ds.length) (hz : nmO zs ds k = z) (h1 : q k = true) (h2 : ¬ p k = true) : ∀ j, j < ds.length → atZ zs ds p z j = true → atZ zs ds q z j = true := fun j hj hpj => by
  obtain ⟨a1, a2⟩ := atZ_iff.mp hpj
  refine atZ_iff.mpr ⟨?_, a2⟩
  have eo := own_nm h nd hj hk (a2.trans hz.symm)
  rcases Nat.lt_trichotomy j k with c | c | c
  · exact hq j k hk h1 c eo
  · rw [c]; exact h1
  · exact absurd (hp k j hj a1 c eo.symm) h2
theorem amount_split (h : DsOk zs ds) {k : Nat} (hk : k < ds.length) : 0 < posP (ds.getD k (0, 0)) ∨ 0 < negP (ds.getD k (0, 0)) := by
  have := h.no0 k hk
  unfold posP negP
  by_cases c : 0 < (ds.getD k (0, 0)).2
  · left; rw [if_pos c]; exact c
  · right; rw [if_neg c]; omega
theorem rch_page (h : DsOk zs ds) (nd : zs.Nodup) (hp : Closed ds p) (hq : Closed ds q) {z : Str} : rchB (pageF zs ds p) (pageF zs ds q) z = true ↔ ∀ k, k < ds.length → q k = true → nmO zs ds k = z → p k = true := by
  constructor
  · intro hr k hk h1 hz
    by_cases c : p k = true
    · exact c
    · have hl := hp.less h nd hq hk hz h1 c
      have hr' : (decide ((pageF zs ds q z).1 ≤ (pageF zs ds p z).1) && decide ((pageF zs ds q z).2 ≤ (pageF zs ds p z).2)) = true := hr
      rw [Bool.and_eq_true, decide_eq_true_eq, decide_eq_true_eq] at hr'
      have hqk : atZ zs ds q z k = true := atZ_iff.mpr ⟨h1, hz⟩
      have hpk : ¬ atZ zs ds p z k = true := fun e => c (atZ_iff.mp e).1
      rcases amount_split h hk with a | a
      · have := hsum_strict posP_0 hl hk hqk hpk a
        have h3 : hsum ds (atZ zs ds q z) posP ≤ hsum ds (atZ zs ds p z) posP := hr'.1
        omega
      · have := hsum_strict negP_0 hl hk hqk hpk a
        have h3 : hsum ds (atZ zs ds q z) negP ≤ hsum ds (atZ zs ds p z) negP := hr'.2
        omega
  · intro hr
    have hm : ∀ k, k < ds.length → atZ zs ds q z k = true → atZ zs ds p z k = true := fun k hk e => by
      obtain ⟨a, b⟩ := atZ_iff.mp e
      exact atZ_iff.mpr ⟨hr k hk a b, b⟩
    show (decide ((pageF zs ds q z).1 ≤ (pageF zs ds p z).1) && decide ((pageF zs ds q z).2 ≤ (pageF zs ds p z).2)) = true
    rw [Bool.and_eq_true, decide_eq_true_eq, decide_eq_true_eq]
    exact ⟨hsum_mono posP_0 hm, hsum_mono negP_0 hm⟩
def orP (p q : Nat → Bool) : Nat → Bool := fun k => p k || q k
theorem Closed.or (hp : Closed ds p) (hq : Closed ds q) : Closed ds (orP p q) := fun j k hk h hj he => by
  unfold orP at h ⊢
  rw [Bool.or_eq_true] at h ⊢
  exact h.imp (fun a => hp j k hk a hj he) (fun a => hq j k hk a hj he)
theorem gmax_of {i j : Int} (h : i ≤ j) : gmax i j = j := by unfold gmax; split <;> omega
theorem gmax_of' {i j : Int} (h : j ≤ i) : gmax i j = i := by unfold gmax; split <;> omega
theorem page_mx (h : DsOk zs ds) (nd : zs.Nodup) (hp : Closed ds p) (hq : Closed ds q) : mxF (pageF zs ds p) (pageF zs ds q) = pageF zs ds (orP p q) := by
  funext z
  show (gmax (hsum ds (atZ zs ds p z) posP) (hsum ds (atZ zs ds q z) posP), gmax (hsum ds (atZ zs ds p z) negP) (hsum ds (atZ zs ds q z) negP)) = (hsum ds (atZ zs ds (orP p q) z) posP, hsum ds (atZ zs ds (orP p q) z) negP)
  by_cases c : ∀ k, k < ds.length → q k = true → nmO zs ds k = z → p k = true
  · have hm : ∀ k, k < ds.length → atZ zs ds q z k = true → atZ zs ds p z k = true := fun k hk e => by
      obtain ⟨a, b⟩ := atZ_iff.mp e
      exact atZ_iff.mpr ⟨c k hk a b, b⟩
    have e : ∀ g, hsum ds (atZ zs ds (orP p q) z) g = hsum ds (atZ zs ds p z) g := fun g => hsum_congr fun k hk => by
      rw [Bool.eq_iff_iff, atZ_iff, atZ_iff]
      unfold orP
      rw [Bool.or_eq_true]
      exact ⟨fun ⟨a, b⟩ => ⟨a.elim id (fun a => c k hk a b), b⟩, fun ⟨a, b⟩ => ⟨.inl a, b⟩⟩
    rw [e, e, gmax_of' (hsum_mono posP_0 hm), gmax_of' (hsum_mono negP_0 hm)]
  · have ⟨k, hk, h1, hz, h2⟩ : ∃ k, k < ds.length ∧ q k = true ∧ nmO zs ds k = z ∧ ¬ p k = true := by
      refine Classical.byContradiction fun n => c fun k hk a b => Classical.byContradiction fun m => n ⟨k, hk, a, b, m⟩
    have hm := hp.less h nd hq hk hz h1 h2
    have e : ∀ g, hsum ds (atZ zs ds (orP p q) z) g = hsum ds (atZ zs ds q z) g := fun g => hsum_congr fun k hk => by
      rw [Bool.eq_iff_iff, atZ_iff]
      unfold orP
      rw [Bool.or_eq_true]
      constructor
      · rintro ⟨a | a, b⟩
        · exact hm k hk (atZ_iff.mpr ⟨a, b⟩)
        · exact atZ_iff.mpr ⟨a, b⟩
      · intro a
        exact ⟨.inr (atZ_iff.mp a).1, (atZ_iff.mp a).2⟩
    rw [e, e, gmax_of (hsum_mono posP_0 hm), gmax_of (hsum_mono negP_0 hm)]
/-- a share is nothing iff no deed was heard of -/
theorem page_zero (h : DsOk zs ds) {z : Str} : pageF zs ds p z = (0, 0) ↔ ∀ k, k < ds.length → p k = true → ¬ nmO zs ds k = z := by
  constructor
  · intro e k hk a b
    have hk' : atZ zs ds p z k = true := atZ_iff.mpr ⟨a, b⟩
    have e1 : hsum ds (atZ zs ds p z) posP = 0 := congrArg Prod.fst e
    have e2 : hsum ds (atZ zs ds p z) negP = 0 := congrArg Prod.snd e
    have z0 : ∀ g, hsum ds (fun _ => false) g = 0 := fun g => hsum_none fun k _ q => by cases q
    rcases amount_split h hk with c | c
    · have := hsum_strict (P := fun _ => false) posP_0 (fun _ _ q => by cases q) hk hk' (by simp) c
      rw [z0] at this; omega
    · have := hsum_strict (P := fun _ => false) negP_0 (fun _ _ q => by cases q) hk hk' (by simp) c
      rw [z0] at this; omega
  · intro hn
    have e : ∀ g, hsum ds (atZ zs ds p z) g = 0 := fun g => hsum_none fun k hk q => hn k hk (atZ_iff.mp q).1 (atZ_iff.mp q).2
    show (hsum ds (atZ zs ds p z) posP, hsum ds (atZ zs ds p z) negP) = (0, 0)
    rw [e, e]
end
end Gc
namespace Gc
open PySem L2 Evl
section
variable {zs : List Str} {ds : List (Nat × Int)}
def inP (hs : List Nat) : Nat → Bool := fun k => decide (k ∈ hs)
theorem inP_iff {hs : List Nat} {k : Nat} : inP hs k = true ↔ k ∈ hs := decide_eq_true_iff
theorem pageF_congr {p q : Nat → Bool} (h : ∀ k, k < ds.length → p k = q k) : pageF zs ds p = pageF zs ds q := by
  funext z
  have e : ∀ g, hsum ds (atZ zs ds p z) g = hsum ds (atZ zs ds q z) g := fun g => hsum_congr fun k hk => by unfold atZ; rw [h k hk]
  show (_, _) = (_, _)
  rw [e, e]
theorem mem_newsL {hs os : List Nat} {k : Nat} : k ∈ newsL ds hs os ↔ k ∈ hs ∧ ∃ j ∈ hs, ¬ j ∈ os ∧ ownN ds j = ownN ds k := by
  unfold newsL
  rw [List.mem_filter, decide_eq_true_eq, mem_ownersL]
theorem news_closed {hs os : List Nat} (hc : Closed ds (inP hs)) : Closed ds (inP (newsL ds hs os)) := fun j k hk h hj he => by
  rw [inP_iff, mem_newsL] at h ⊢
  obtain ⟨h1, i, h2, h3, h4⟩ := h
  exact ⟨inP_iff.mp (hc j k hk (inP_iff.mpr h1) hj he), i, h2, h3, h4.trans he.symm⟩
/-- a letter tells just the news -/
theorem letter_page (h : DsOk zs ds) (nd : zs.Nodup) {hs os : List Nat} (hk : ∀ k ∈ hs, k < ds.length) (hm : Closed ds (inP hs)) (ho : Closed ds (inP os)) : lackF (pageF zs ds (inP os)) (pageF zs ds (inP hs)) = pageF zs ds (inP (newsL ds hs os)) := by
  funext z
  unfold lackF
  by_cases c : rchB (pageF zs ds (inP os)) (pageF zs ds (inP hs)) z = true
  · rw [if_pos c]
    refine ((page_zero h).mpr fun k hk' a b => ?_).symm
    rw [inP_iff, mem_newsL] at a
    obtain ⟨_, j, h2, h3, h4⟩ := a
    have hn : nmO zs ds j = z := by unfold nmO; rw [h4]; exact b
    exact h3 (inP_iff.mp ((rch_page h nd ho hm).mp c j (hk j h2) (inP_iff.mpr h2) hn))
  · rw [if_neg c]
    have ⟨j, hj, j1, jz, j2⟩ : ∃ k, k < ds.length ∧ inP hs k = true ∧ nmO zs ds k = z ∧ ¬ inP os k = true := by
      refine Classical.byContradiction fun n => c ((rch_page h nd ho hm).mpr fun k hk a b => Classical.byContradiction fun m => n ⟨k, hk, a, b, m⟩)
    have e : ∀ g, hsum ds (atZ zs ds (inP hs) z) g = hsum ds (atZ zs ds (inP (newsL ds hs os)) z) g := fun g => hsum_congr fun k hk' => by
      rw [Bool.eq_iff_iff, atZ_iff, atZ_iff, inP_iff, inP_iff, mem_newsL]
      constructor
      · rintro ⟨a, b⟩
        exact ⟨⟨a, j, inP_iff.mp j1, fun q => j2 (inP_iff.mpr q), own_nm h nd hj hk' (jz.trans b.symm)⟩, b⟩
      · rintro ⟨a, b⟩
        exact ⟨a.1, b⟩
    show (_, _) = (_, _)
    rw [e, e]
/-- how many shares change -/
theorem count_page (h : DsOk zs ds) (nd : zs.Nodup) {hs ns : List Nat} (hk : ∀ k ∈ ns, k < ds.length) (hm : Closed ds (inP hs)) (hn : Closed ds (inP ns)) : (lackK zs (pageF zs ds (inP hs)) (pageF zs ds (inP ns))).length = (ownersL ds ns hs).length := by
  have hlt : ∀ o ∈ ownersL ds ns hs, o < zs.length := fun o ho => by
    obtain ⟨k, h1, _, h3⟩ := (mem_ownersL ns).mp ho
    rw [← h3]
    exact h.who k (hk k h1)
  have inj : ∀ a ∈ ownersL ds ns hs, ∀ b ∈ ownersL ds ns hs, zs.getD a "" = zs.getD b "" → a = b := fun a ha b hb e => by
    have h1 := hlt a ha
    have h2 := hlt b hb
    rw [List.getD_eq_getElem?_getD, List.getD_eq_getElem?_getD, List.getElem?_eq_getElem h1, List.getElem?_eq_getElem h2] at e
    have e' : zs[a] = zs[b] := e
    rcases Nat.lt_trichotomy a b with c | c | c
    · exact absurd e' ((List.pairwise_iff_getElem.mp (List.nodup_iff_pairwise_ne.mp nd)) _ _ h1 h2 c)
    · exact c
    · exact absurd e'.symm ((List.pairwise_iff_getElem.mp (List.nodup_iff_pairwise_ne.mp nd)) _ _ h2 h1 c)
  have nd2 : ((ownersL ds ns hs).map fun o => zs.getD o "").Nodup := by
    refine List.nodup_iff_pairwise_ne.mpr (List.pairwise_map.mpr ?_)
    have := List.nodup_iff_pairwise_ne.mp (ownersL_nd (ds := ds) (other := hs) ns)
    exact this.imp_of_mem fun ha hb n e => n (inj _ ha _ hb e)
  have p : (lackK zs (pageF zs ds (inP hs)) (pageF zs ds (inP ns))).Perm ((ownersL ds ns hs).map fun o => zs.getD o "") := (List.perm_ext_iff_of_nodup (List.Pairwise.filter _ nd) nd2).mpr fun z => by
    show z ∈ lackK zs _ _ ↔ _
    rw [mem_lackK, List.mem_map]
    constructor
    · rintro ⟨_, hr⟩
      have ⟨k, hk', k1, kz, k2⟩ : ∃ k, k < ds.length ∧ inP ns k = true ∧ nmO zs ds k = z ∧ ¬ inP hs k = true := by
        refine Classical.byContradiction fun n => ?_
        have := (rch_page h nd hm hn (z := z)).mpr fun k hk a b => Classical.byContradiction fun m => n ⟨k, hk, a, b, m⟩
        rw [this] at hr
        cases hr
      exact ⟨ownN ds k, (mem_ownersL ns).mpr ⟨k, inP_iff.mp k1, fun q => k2 (inP_iff.mpr q), rfl⟩, kz⟩
    · rintro ⟨o, ho, e⟩
      obtain ⟨k, h1, h2, h3⟩ := (mem_ownersL ns).mp ho
      have hz : nmO zs ds k = z := by unfold nmO; rw [h3]; exact e
      refine ⟨?_, ?_⟩
      · rw [← e]
        have := hlt o ho
        rw [List.getD_eq_getElem?_getD, List.getElem?_eq_getElem this]
        exact List.getElem_mem this
      · cases c : rchB (pageF zs ds (inP hs)) (pageF zs ds (inP ns)) z with
        | false => rfl
        | true => exact absurd (inP_iff.mp ((rch_page h nd hm hn).mp c k (hk k h1) (inP_iff.mpr h1) hz)) h2
  rw [p.length_eq, List.length_map]
theorem sum_add {α : Type} {f g : α → Int} : ∀ l : List α, (l.map fun a => f a + g a).sum = (l.map f).sum + (l.map g).sum
  | [] => rfl
  | a :: r => by
    rw [List.map_cons, List.map_cons, List.map_cons, List.sum_cons, List.sum_cons, List.sum_cons, sum_add r]
    omega
theorem sum_zero {α : Type} : ∀ l : List α, (l.map fun _ => (0 : Int)).sum = 0
  | [] => rfl
  | a :: r => by rw [List.map_cons, List.sum_cons, sum_zero r]; rfl
theorem sum_swap {α β : Type} (f : α → β → Int) (l : List α) : ∀ m : List β, (l.map fun a => (m.map fun b => f a b).sum).sum = (m.map fun b => (l.map fun a => f a b).sum).sum
  | [] => sum_zero l
  | b :: r => by
    have e : (l.map fun a => ((b :: r).map fun b => f a b).sum) = l.map fun a => f a b + (r.map fun b => f a b).sum := List.map_congr_left fun a _ => by rw [List.map_cons, List.sum_cons]
    rw [e, sum_add, sum_swap f l r, List.map_cons, List.sum_cons]
theorem sum_one {z0 : Str} {a : Int} : ∀ {l : List Str}, l.Nodup → (l.map fun z => if z0 = z then a else 0).sum = if z0 ∈ l then a else 0
  | [], _ => rfl
  | b :: r, h => by
    obtain ⟨h1, h2⟩ := List.nodup_cons.mp h
    rw [List.map_cons, List.sum_cons, sum_one h2]
    by_cases c : z0 = b
    · rw [if_pos c, if_neg (by rw [c]; exact h1), if_pos (by rw [c]; exact List.mem_cons_self)]
      omega
    · rw [if_neg c]
      by_cases d : z0 ∈ r
      · rw [if_pos d, if_pos (List.mem_cons_of_mem _ d)]; omega
      · rw [if_neg d, if_neg (by simp [c, d])]; rfl
theorem hsum_sub {P : Nat → Bool} : hsum ds P posP - hsum ds P negP = hsum ds P (·.2) := by
  have e : hsum ds P (·.2) + hsum ds P negP = hsum ds P posP := by
    unfold hsum
    rw [← sum_add]
    refine congrArg List.sum (List.map_congr_left fun k _ => ?_)
    by_cases c : P k = true
    · rw [if_pos c, if_pos c, if_pos c]
      show (ds.getD k (0, 0)).2 + negP (ds.getD k (0, 0)) = posP (ds.getD k (0, 0))
      unfold posP negP
      split <;> omega
    · rw [if_neg c, if_neg c, if_neg c]; rfl
  omega
/-- the total is the sum of what was heard of -/
theorem tot_page (h : DsOk zs ds) (nd : zs.Nodup) {p : Nat → Bool} : totF zs (pageF zs ds p) = hsum ds p (·.2) := by
  have e1 : totF zs (pageF zs ds p) = (zs.map fun z => ((List.range ds.length).map fun k => if atZ zs ds p z k = true then (ds.getD k (0, 0)).2 else 0).sum).sum := by
    unfold totF
    refine congrArg List.sum (List.map_congr_left fun z _ => ?_)
    exact hsum_sub
  rw [e1, sum_swap]
  unfold hsum
  refine congrArg List.sum (List.map_congr_left fun k hk => ?_)
  have hk' := List.mem_range.mp hk
  by_cases c : p k = true
  · rw [if_pos c]
    have e2 : (zs.map fun z => if atZ zs ds p z k = true then (ds.getD k (0, 0)).2 else 0) = zs.map fun z => if nmO zs ds k = z then (ds.getD k (0, 0)).2 else 0 := List.map_congr_left fun z _ => by
      by_cases d : nmO zs ds k = z
      · rw [if_pos d, if_pos (atZ_iff.mpr ⟨c, d⟩)]
      · rw [if_neg d, if_neg (fun q => d (atZ_iff.mp q).2)]
    rw [e2, sum_one nd, if_pos]
    have := h.who k hk'
    unfold nmO
    rw [List.getD_eq_getElem?_getD, List.getElem?_eq_getElem this]
    exact List.getElem_mem this
  · rw [if_neg c]
    have e2 : (zs.map fun z => if atZ zs ds p z k = true then (ds.getD k (0, 0)).2 else 0) = zs.map fun _ => (0 : Int) := List.map_congr_left fun z _ => if_neg fun q => c (atZ_iff.mp q).1
    rw [e2, sum_zero]
theorem sum_perm {l m : List Int} (h : l.Perm m) : l.sum = m.sum := by
  induction h with
  | nil => rfl
  | cons a _ ih => rw [List.sum_cons, List.sum_cons, ih]
  | swap a b l => rw [List.sum_cons, List.sum_cons, List.sum_cons, List.sum_cons]; omega
  | trans _ _ i1 i2 => exact i1.trans i2
theorem sumH_hsum {hs : List Nat} (hn : hs.Nodup) (hk : ∀ k ∈ hs, k < ds.length) : sumH ds hs = hsum ds (inP hs) (·.2) := by
  have p : hs.Perm ((List.range ds.length).filter fun k => decide (k ∈ hs)) := (List.perm_ext_iff_of_nodup hn (List.Pairwise.filter _ List.nodup_range)).mpr fun k => by
    rw [List.mem_filter, List.mem_range, decide_eq_true_eq]
    exact ⟨fun q => ⟨hk k q, q⟩, fun q => q.2⟩
  have e : ∀ l : List Nat, ((l.filter fun k => decide (k ∈ hs)).map fun k => (ds.getD k (0, 0)).2).sum = (l.map fun k => if inP hs k = true then (ds.getD k (0, 0)).2 else 0).sum := by
    intro l
    induction l with
    | nil => rfl
    | cons a r ih =>
      by_cases c : a ∈ hs
      · rw [List.filter_cons_of_pos (by simp [c]), List.map_cons, List.map_cons, List.sum_cons, List.sum_cons, ih, if_pos (inP_iff.mpr c)]
      · rw [List.filter_cons_of_neg (by simp [c]), List.map_cons, List.sum_cons, ih, if_neg (fun q => c (inP_iff.mp q))]
        omega
  unfold sumH
  rw [sum_perm (p.map _), e]
  rfl
/-- a deed more -/
theorem getD_old {d : Nat × Int} {k : Nat} (h : k < ds.length) : (ds ++ [d]).getD k (0, 0) = ds.getD k (0, 0) := by
  rw [List.getD_eq_getElem?_getD, List.getD_eq_getElem?_getD, List.getElem?_append_left h]
theorem getD_new {d : Nat × Int} : (ds ++ [d]).getD ds.length (0, 0) = d := by
  rw [List.getD_eq_getElem?_getD, List.getElem?_append_right (Nat.le_refl _), Nat.sub_self]
  rfl
theorem own_old {d : Nat × Int} {k : Nat} (h : k < ds.length) : ownN (ds ++ [d]) k = ownN ds k := by unfold ownN; rw [getD_old h]
theorem own_new {d : Nat × Int} : ownN (ds ++ [d]) ds.length = d.1 := by unfold ownN; rw [getD_new]
theorem hsum_add {d : Nat × Int} {P : Nat → Bool} {g : Nat × Int → Int} : hsum (ds ++ [d]) P g = hsum ds P g + if P ds.length = true then g d else 0 := by
  unfold hsum
  rw [List.length_append, List.length_singleton, List.range_succ, List.map_append, List.sum_append]
  have e : ((List.range ds.length).map fun k => if P k = true then g ((ds ++ [d]).getD k (0, 0)) else 0) = (List.range ds.length).map fun k => if P k = true then g (ds.getD k (0, 0)) else 0 := List.map_congr_left fun k hk => by rw [getD_old (List.mem_range.mp hk)]
  rw [e, List.map_cons, List.map_nil, List.sum_cons, List.sum_nil, getD_new]
  omega
theorem hsum_atZ {d : Nat × Int} {p : Nat → Bool} {z : Str} {g : Nat × Int → Int} : hsum (ds ++ [d]) (atZ zs (ds ++ [d]) p z) g = hsum ds (atZ zs ds p z) g + if p ds.length = true ∧ zs.getD d.1 "" = z then g d else 0 := by
  rw [hsum_add]
  have e : hsum ds (atZ zs (ds ++ [d]) p z) g = hsum ds (atZ zs ds p z) g := hsum_congr fun k hk => by unfold atZ nmO; rw [own_old hk]
  rw [e]
  by_cases c : p ds.length = true ∧ zs.getD d.1 "" = z
  · rw [if_pos c, if_pos (atZ_iff.mpr ⟨c.1, by unfold nmO; rw [own_new]; exact c.2⟩)]
  · rw [if_neg c, if_neg (fun q => c ⟨(atZ_iff.mp q).1, by have := (atZ_iff.mp q).2; unfold nmO at this; rw [own_new] at this; exact this⟩)]
theorem page_old {d : Nat × Int} {p : Nat → Bool} (h : ¬ p ds.length = true) : pageF zs (ds ++ [d]) p = pageF zs ds p := by
  funext z
  show (_, _) = (_, _)
  rw [hsum_atZ, hsum_atZ, if_neg (fun q => h q.1), if_neg (fun q => h q.1), Int.add_zero, Int.add_zero]
theorem page_new {i : Nat} {M : Int} {p : Nat → Bool} (h : p ds.length = true) (hM : 1 ≤ M) (P : Int) (hP : P = 0 ∨ P = 1) {a : Int} (ha : a = if P = 0 then M else -M) : pageF zs (ds ++ [(i, a)]) p = setF (pageF zs ds p) (zs.getD i "") (addAt P (pageF zs ds p (zs.getD i "")) M) := by
  funext z
  have e1 : posP (i, a) = if P = 0 then M else 0 := by
    rcases hP with rfl | rfl
    · rw [if_pos rfl] at ha ⊢
      subst ha
      exact if_pos (by show 0 < a; omega)
    · rw [if_neg (by decide)] at ha ⊢
      subst ha
      exact if_neg (by show ¬ 0 < -M; omega)
  have e2 : negP (i, a) = if P = 0 then 0 else M := by
    rcases hP with rfl | rfl
    · rw [if_pos rfl] at ha ⊢
      subst ha
      exact if_pos (by show 0 < a; omega)
    · rw [if_neg (by decide)] at ha ⊢
      subst ha
      refine (if_neg (by show ¬ 0 < -M; omega)).trans ?_
      show -(-M) = M
      omega
  show (hsum _ _ posP, hsum _ _ negP) = if z = zs.getD i "" then addAt P (pageF zs ds p (zs.getD i "")) M else pageF zs ds p z
  rw [hsum_atZ, hsum_atZ]
  by_cases c : z = zs.getD i ""
  · rw [if_pos c, if_pos (show p ds.length = true ∧ zs.getD (i, a).1 "" = z from ⟨h, c.symm⟩), if_pos (show p ds.length = true ∧ zs.getD (i, a).1 "" = z from ⟨h, c.symm⟩), e1, e2, c]
    unfold addAt
    rcases hP with rfl | rfl
    · rw [if_pos rfl, if_pos rfl, if_pos rfl, Int.add_zero]; rfl
    · rw [if_neg (by decide), if_neg (by decide), if_neg (by decide), Int.add_zero]; rfl
  · rw [if_neg c, if_neg (show ¬ (p ds.length = true ∧ zs.getD (i, a).1 "" = z) from fun q => c q.2.symm), if_neg (show ¬ (p ds.length = true ∧ zs.getD (i, a).1 "" = z) from fun q => c q.2.symm), Int.add_zero, Int.add_zero]
    rfl
theorem closed_old {d : Nat × Int} {hs : List Nat} (hk : ∀ k ∈ hs, k < ds.length) (h : Closed ds (inP hs)) : Closed (ds ++ [d]) (inP hs) := fun j k _ hp hj he => by
  have hk' := hk k (inP_iff.mp hp)
  rw [own_old hk', own_old (by omega)] at he
  exact h j k hk' hp hj he
theorem closed_new {d : Nat × Int} {hs : List Nat} (hk : ∀ k ∈ hs, k < ds.length) (h : Closed ds (inP hs)) (ho : ∀ k, k < ds.length → ownN ds k = d.1 → k ∈ hs) : Closed (ds ++ [d]) (inP (hs ++ [ds.length])) := fun j k _ hp hj he => by
  rw [inP_iff] at hp ⊢
  rcases List.mem_append.mp hp with q | q
  · have hk' := hk k q
    rw [own_old hk', own_old (by omega)] at he
    exact List.mem_append_left _ (inP_iff.mp (h j k hk' (inP_iff.mpr q) hj he))
  · rw [List.mem_singleton.mp q] at hj he
    rw [own_old hj, own_new] at he
    exact List.mem_append_left _ (ho j hj he)
theorem dsOk_add (h : DsOk zs ds) {d : Nat × Int} (h1 : d.1 < zs.length) (h2 : ¬ d.2 = 0) (h3 : -1000000000 ≤ d.2 ∧ d.2 ≤ 1000000000) : DsOk zs (ds ++ [d]) := by
  have cas : ∀ k, k < (ds ++ [d]).length → k < ds.length ∨ k = ds.length := fun k hk => by rw [List.length_append, List.length_singleton] at hk; omega
  refine ⟨fun k hk => ?_, fun k hk => ?_, fun k hk => ?_⟩
  · rcases cas k hk with c | c
    · rw [own_old c]; exact h.who k c
    · rw [c, own_new]; exact h1
  · rcases cas k hk with c | c
    · rw [getD_old c]; exact h.no0 k c
    · rw [c, getD_new]; exact h2
  · rcases cas k hk with c | c
    · rw [getD_old c]; exact h.big k c
    · rw [c, getD_new]; exact h3
end
end Gc
namespace Gc
open PySem L2 Evl
def unionL (hs ns : List Nat) : List Nat := ns.foldl addN hs
theorem unionL_snoc {hs l : List Nat} {k : Nat} : unionL hs (l ++ [k]) = addN (unionL hs l) k := by
  unfold unionL
  rw [List.foldl_append]
  rfl
theorem mem_unionL {hs : List Nat} {k : Nat} : ∀ ns : List Nat, k ∈ unionL hs ns ↔ k ∈ hs ∨ k ∈ ns := by
  refine snoc_ind ⟨fun h => .inl h, fun h => h.elim id (fun q => by cases q)⟩ fun l a ih => ?_
  rw [unionL_snoc, mem_addN, ih, List.mem_append, List.mem_singleton, or_assoc]
theorem unionL_nd {hs : List Nat} (h : hs.Nodup) : ∀ ns : List Nat, (unionL hs ns).Nodup := by
  refine snoc_ind h fun l a ih => ?_
  rw [unionL_snoc]
  exact addN_nd ih
theorem union_page {zs : List Str} {ds : List (Nat × Int)} {hs ns : List Nat} (h : DsOk zs ds) (nd : zs.Nodup) (hp : Closed ds (inP hs)) (hq : Closed ds (inP ns)) : mxF (pageF zs ds (inP hs)) (pageF zs ds (inP ns)) = pageF zs ds (inP (unionL hs ns)) := by
  rw [page_mx h nd hp hq]
  refine pageF_congr fun k _ => ?_
  rw [Bool.eq_iff_iff, inP_iff, mem_unionL]
  unfold orP
  rw [Bool.or_eq_true, inP_iff, inP_iff]
theorem union_closed {ds : List (Nat × Int)} {hs ns : List Nat} (hp : Closed ds (inP hs)) (hq : Closed ds (inP ns)) : Closed ds (inP (unionL hs ns)) := fun j k hk h hj he => by
  rw [inP_iff, mem_unionL] at h ⊢
  exact h.imp (fun a => inP_iff.mp (hp j k hk (inP_iff.mpr a) hj he)) (fun a => inP_iff.mp (hq j k hk (inP_iff.mpr a) hj he))
theorem nd_range {hs : List Nat} {n : Nat} (nd : hs.Nodup) (h : ∀ k ∈ hs, k < n) : hs.length ≤ n := by
  have := nd_len nd (m := List.range n) fun k hk => List.mem_range.mpr (h k hk)
  rwa [List.length_range] at this
end Gc

namespace Gc
open PySem L2 Evl
/-! ### hands in a row, and what they have heard of -/
structure HandE (K : PySem.W.Frag) (C : Addr) (H : Hp) (zs : List Str) (es : List Addr) (B : Int) (x : Addr) (z : Str) (f : Sh) : Prop where
  it : ∃ dx d kvs ks, H x = some (insH C dx z d) ∧ PG K none H zs B d kvs ks f ∧ PyProof.Rows.sortedS ks = true ∧ ¬ d ∈ es
/-- a letter kept: its page at l, its news at w -/
structure LetE (K : PySem.W.Frag) (H : Hp) (zs : List Str) (es : List Addr) (B : Int) (ds : List (Nat × Int)) (b : Addr) : Prop where
  it : ∃ l w kvs ks ns, SqT K H b [.ref l, .ref w] ∧ PG K none H zs B l kvs ks (pageF zs ds (inP ns)) ∧ H w = some (.dK (rowsN ns)) ∧ ¬ w ∈ es ∧ ¬ l ∈ es ∧ ns.Nodup ∧ (∀ k ∈ ns, k < ds.length) ∧ Closed ds (inP ns)
/-- what may change: hands, lists, what is heard of -/
def Loose (H : Hp) (es : List Addr) (S : Addr → Prop) : Prop := ∀ a, S a → (∃ C dx fs, H a = some (.ins C dx fs)) ∨ (∃ xs, H a = some (.lst xs)) ∨ (a ∈ es ∧ ∃ kvs : List (Key × V), H a = some (.dK kvs))
section
variable {K : PySem.W.Frag} {C : Addr} {H H' : Hp} {S : Addr → Prop} {zs : List Str} {es : List Addr} {B B' : Int} {ds : List (Nat × Int)}
theorem loose_tup (hS : Loose H es S) (e : Exs S H H') {a : Addr} {xs : List V} (q : SqT K H a xs) : SqT K H' a xs := by
  have no : ∀ {o : L2.HO}, H a = some o → (∀ C dx fs, ¬ o = .ins C dx fs) → (∀ ys, ¬ o = .lst ys) → (∀ kvs : List (Key × V), ¬ o = .dK kvs) → ¬ S a := fun h n1 n2 n3 c => by
    rcases hS a c with ⟨_, _, _, q⟩ | ⟨_, q⟩ | ⟨_, _, q⟩
    · rw [h] at q; exact n1 _ _ _ (Option.some.inj q)
    · rw [h] at q; exact n2 _ (Option.some.inj q)
    · rw [h] at q; exact n3 _ (Option.some.inj q)
  rcases q with (q | ⟨od, q⟩) | q
  · exact .inl (.inl (e _ _ (no q (fun _ _ _ c => by cases c) (fun _ c => by cases c) (fun _ c => by cases c)) q))
  · exact .inl (.inr ⟨od, e _ _ (no q (fun _ _ _ c => by cases c) (fun _ c => by cases c) (fun _ c => by cases c)) q⟩)
  · exact .inr q
theorem loose_dct (hS : Loose H es S) (e : Exs S H H') {a : Addr} {kvs : List (Key × V)} (h : H a = some (.dK kvs)) (hn : ¬ a ∈ es) : H' a = some (.dK kvs) :=
  e _ _ (fun c => by
    rcases hS a c with ⟨_, _, _, q⟩ | ⟨_, q⟩ | ⟨m, _, _⟩
    · rw [h] at q; cases q
    · rw [h] at q; cases q
    · exact hn m) h
theorem PG.loose {d : Addr} {kvs : List (Key × V)} {ks : List Str} {f : Sh} (h : PG K none H zs B d kvs ks f) (hS : Loose H es S) (e : Exs S H H') (hd : ¬ d ∈ es) : PG K none H' zs B d kvs ks f :=
  ⟨loose_dct hS e h.at_ hd, h.pg.tps fun _ _ q => loose_tup hS e q, h.nm, h.nn, h.sub, h.bd, h.ne⟩
theorem HandE.loose {x : Addr} {z : Str} {f : Sh} (h : HandE K C H zs es B x z f) (hS : Loose H es S) (e : Exs S H H') (hx : ¬ S x) : HandE K C H' zs es B x z f := by
  obtain ⟨dx, d, kvs, ks, h1, h2, h3, h4⟩ := h.it
  exact ⟨dx, d, kvs, ks, e _ _ hx h1, h2.loose hS e h4, h3, h4⟩
theorem LetE.loose {b : Addr} (h : LetE K H zs es B ds b) (hS : Loose H es S) (e : Exs S H H') : LetE K H' zs es B ds b := by
  obtain ⟨l, w, kvs, ks, ns, h1, h2, h3, h4, h5, h6, h7, h8⟩ := h.it
  exact ⟨l, w, kvs, ks, ns, loose_tup hS e h1, h2.loose hS e h5, loose_dct hS e h3 h4, h4, h5, h6, h7, h8⟩
theorem HandE.up {x : Addr} {z : Str} {f : Sh} (h : HandE K C H zs es B x z f) (hB : B ≤ B') : HandE K C H zs es B' x z f := by
  obtain ⟨dx, d, kvs, ks, h1, h2, h3, h4⟩ := h.it
  exact ⟨dx, d, kvs, ks, h1, h2.up hB, h3, h4⟩
/-- a deed more changes no old letter -/
theorem LetE.more {b : Addr} {d : Nat × Int} (h : LetE K H zs es B ds b) (hB : B ≤ B') : LetE K H zs es B' (ds ++ [d]) b := by
  obtain ⟨l, w, kvs, ks, ns, h1, h2, h3, h4, h5, h6, h7, h8⟩ := h.it
  refine ⟨l, w, kvs, ks, ns, h1, ?_, h3, h4, h5, h6, fun k hk => by rw [List.length_append]; have := h7 k hk; omega, closed_old h7 h8⟩
  rw [page_old (fun q => by have := h7 _ (inP_iff.mp q); omega)]
  exact h2.up hB
end
/-- the world of the law: hands xs, heard sets es, deeds ds, letters bs -/
structure HW (K : PySem.W.Frag) (C : Addr) (H : Hp) (zs : List Str) (B : Int) (hL eL dL bL : Addr) (xs es bs : List Addr) (ds : List (Nat × Int)) (hs : List (List Nat)) : Prop where
  hl : H hL = some (.lst (xs.map V.ref))
  el : H eL = some (.lst (es.map V.ref))
  bl : H bL = some (.lst (bs.map V.ref))
  dl : DLs K H dL ds
  ne : dL ≠ bL ∧ dL ≠ hL ∧ dL ≠ eL ∧ bL ≠ hL ∧ bL ≠ eL
  xl : xs.length = zs.length
  esl : es.length = zs.length
  hsl : hs.length = zs.length
  esn : es.Nodup
  nd : zs.Nodup
  nm : NmOk zs
  ok : DsOk zs ds
  hand : ∀ (i : Nat) x z h, xs[i]? = some x → zs[i]? = some z → hs[i]? = some h → HandE K C H zs es B x z (pageF zs ds (inP h))
  heard : ∀ (i : Nat) e h, es[i]? = some e → hs[i]? = some h → H e = some (.dK (rowsN h)) ∧ h.Nodup ∧ (∀ k ∈ h, k < ds.length) ∧ Closed ds (inP h)
  own : ∀ (i : Nat) h k, hs[i]? = some h → k < ds.length → ownN ds k = i → k ∈ h
  lets : ∀ b ∈ bs, LetE K H zs es B ds b
section
variable {K : PySem.W.Frag} {C : Addr} {H H' : Hp} {zs : List Str} {B B' : Int} {hL eL dL bL : Addr} {xs es bs : List Addr} {ds : List (Nat × Int)} {hs : List (List Nat)}
/-- hands of different names stand at different places -/
theorem HW.xne (h : HW K C H zs B hL eL dL bL xs es bs ds hs) {i j : Nat} {x y : Addr} (hi : xs[i]? = some x) (hj : xs[j]? = some y) (hij : i ≠ j) : x ≠ y := fun e => by
  have li := (List.getElem?_eq_some_iff.mp hi).1
  have lj := (List.getElem?_eq_some_iff.mp hj).1
  have zi : i < zs.length := by rw [← h.xl]; exact li
  have zj : j < zs.length := by rw [← h.xl]; exact lj
  obtain ⟨dx, d, _, _, h1, _⟩ := (h.hand i x zs[i] (hs[i]'(by rw [h.hsl]; exact zi)) hi (List.getElem?_eq_getElem zi) (List.getElem?_eq_getElem _)).it
  obtain ⟨dy, d', _, _, h2, _⟩ := (h.hand j y zs[j] (hs[j]'(by rw [h.hsl]; exact zj)) hj (List.getElem?_eq_getElem zj) (List.getElem?_eq_getElem _)).it
  rw [← e, h1] at h2
  unfold insH at h2
  simp only [Option.some.injEq, HO.ins.injEq, List.cons.injEq, Prod.mk.injEq, V.str.injEq, true_and] at h2
  have e2 : zs[i] = zs[j] := h2.2.1
  rcases Nat.lt_or_gt_of_ne hij with c | c
  · exact (List.pairwise_iff_getElem.mp (List.nodup_iff_pairwise_ne.mp h.nd)) _ _ zi zj c e2
  · exact (List.pairwise_iff_getElem.mp (List.nodup_iff_pairwise_ne.mp h.nd)) _ _ zj zi c e2.symm
theorem HW.ex (h : HW K C H zs B hL eL dL bL xs es bs ds hs) (e : Ex H H') : HW K C H' zs B hL eL dL bL xs es bs ds hs := by
  have hS : Loose H es (fun _ => False) := fun _ c => c.elim
  have e' : Exs (fun _ => False) H H' := Exs.of e
  exact ⟨e _ _ h.hl, e _ _ h.el, e _ _ h.bl, h.dl.ex e, h.ne, h.xl, h.esl, h.hsl, h.esn, h.nd, h.nm, h.ok, fun i x z t a b c => (h.hand i x z t a b c).loose hS e' id,
    fun i x t a b => by obtain ⟨q1, q2⟩ := h.heard i x t a b; exact ⟨e _ _ q1, q2⟩, h.own, fun b hb => (h.lets b hb).loose hS e'⟩
/-- a hand hears: its page and its heard set change -/
theorem HW.hear (h : HW K C H zs B hL eL dL bL xs es bs ds hs) {i : Nat} {x e dx d' : Addr} {z : Str} {kvs' : List (Key × V)} {ks' : List Str} {u t : List Nat} (hx : xs[i]? = some x) (he : es[i]? = some e) (hz : zs[i]? = some z) (ht : hs[i]? = some t)
    (ex : Exs (fun a => a = x ∨ a = e) H H') (h1 : H' x = some (insH C dx z d')) (hp : PG K none H' zs B d' kvs' ks' (pageF zs ds (inP u))) (hsd : PyProof.Rows.sortedS ks' = true) (hd : ¬ d' ∈ es) (h2 : H' e = some (.dK (rowsN u))) (hun : u.Nodup) (huk : ∀ k ∈ u, k < ds.length) (huc : Closed ds (inP u)) (hut : ∀ k ∈ t, k ∈ u) :
    HW K C H' zs B hL eL dL bL xs es bs ds (hs.set i u) := by
  obtain ⟨q1, _⟩ := h.heard i e t he ht
  obtain ⟨dx0, d0, _, _, hx0, _⟩ := (h.hand i x z t hx hz ht).it
  have hS : Loose H es (fun a => a = x ∨ a = e) := fun a c => by
    rcases c with c | c
    · exact .inl ⟨_, _, _, by rw [c]; exact hx0⟩
    · exact .inr (.inr ⟨by rw [c]; exact List.mem_of_getElem? he, _, by rw [c]; exact q1⟩)
  have lst : ∀ {a : Addr} {ys : List V}, H a = some (.lst ys) → H' a = some (.lst ys) := fun {a ys} q => ex _ _ (fun c => by
    rcases c with c | c
    · rw [c, hx0] at q; cases q
    · rw [c, q1] at q; cases q) q
  have hil := (List.getElem?_eq_some_iff.mp ht).1
  refine ⟨lst h.hl, lst h.el, lst h.bl, ?_, h.ne, h.xl, h.esl, by rw [List.length_set]; exact h.hsl, h.esn, h.nd, h.nm, h.ok, fun j y w v a b c => ?_, fun j f v a b => ?_, fun j v k a b c => ?_, fun b hb => (h.lets b hb).loose hS ex⟩
  · obtain ⟨ts, p1, p2, p3⟩ := h.dl.it
    exact ⟨ts, lst p1, p2, fun i t d a b => loose_tup hS ex (p3 i t d a b)⟩
  · by_cases c0 : i = j
    · subst c0
      rw [hx] at a
      rw [hz] at b
      rw [List.getElem?_set_self hil] at c
      cases a; cases b; cases c
      exact ⟨dx, d', kvs', ks', h1, hp, hsd, hd⟩
    · rw [List.getElem?_set_ne c0] at c
      refine (h.hand j y w v a b c).loose hS ex (fun q => ?_)
      rcases q with q | q
      · exact h.xne hx a c0 q.symm
      · obtain ⟨_, _, _, _, g, _⟩ := (h.hand j y w v a b c).it
        rw [q, q1] at g
        cases g
  · by_cases c0 : i = j
    · subst c0
      rw [he] at a
      rw [List.getElem?_set_self hil] at b
      cases a; cases b
      exact ⟨h2, hun, huk, huc⟩
    · rw [List.getElem?_set_ne c0] at b
      obtain ⟨g1, g2⟩ := h.heard j f v a b
      refine ⟨ex _ _ (fun q => ?_) g1, g2⟩
      rcases q with q | q
      · rw [q, hx0] at g1; cases g1
      · obtain ⟨b1, b2⟩ := List.getElem?_eq_some_iff.mp he
        obtain ⟨b3, b4⟩ := List.getElem?_eq_some_iff.mp a
        have pw := List.pairwise_iff_getElem.mp (List.nodup_iff_pairwise_ne.mp h.esn)
        rcases Nat.lt_or_gt_of_ne c0 with r | r
        · exact pw _ _ b1 b3 r (b2.trans (q.symm.trans b4.symm))
        · exact pw _ _ b3 b1 r (b4.trans (q.trans b2.symm))
  · by_cases c0 : i = j
    · subst c0
      rw [List.getElem?_set_self hil] at a
      cases a
      exact hut k (h.own i t k ht b c)
    · rw [List.getElem?_set_ne c0] at a
      exact h.own j v k a b c
end
end Gc
namespace Gc
open PySem L2 Evl
section
variable {K : PySem.W.Frag} {C : Addr} {H H' : Hp} {zs : List Str} {B B' : Int} {hL eL dL bL : Addr} {xs es bs : List Addr} {ds : List (Nat × Int)} {hs : List (List Nat)}
theorem HW.ene (h : HW K C H zs B hL eL dL bL xs es bs ds hs) {i j : Nat} {e f : Addr} (he : es[i]? = some e) (hf : es[j]? = some f) (hij : i ≠ j) : e ≠ f := fun q => by
  obtain ⟨b1, b2⟩ := List.getElem?_eq_some_iff.mp he
  obtain ⟨b3, b4⟩ := List.getElem?_eq_some_iff.mp hf
  have pw := List.pairwise_iff_getElem.mp (List.nodup_iff_pairwise_ne.mp h.esn)
  rcases Nat.lt_or_gt_of_ne hij with r | r
  · exact pw _ _ b1 b3 r (b2.trans (q.trans b4.symm))
  · exact pw _ _ b3 b1 r (b4.trans (q.symm.trans b2.symm))
/-- a deed: the list of deeds, what its hand has heard of, and its hand change -/
theorem HW.deed (h : HW K C H zs B hL eL dL bL xs es bs ds hs) (hB : B ≤ B') {i : Nat} {x e dx d' : Addr} {z : Str} {kvs' : List (Key × V)} {ks' : List Str} {t : List Nat} {m : Int} (hx : xs[i]? = some x) (he : es[i]? = some e) (hz : zs[i]? = some z) (ht : hs[i]? = some t)
    (ex : Exs (fun a => a = x ∨ a = e ∨ a = dL) H H') (hm : ¬ m = 0 ∧ -1000000000 ≤ m ∧ m ≤ 1000000000) (hd : DLs K H' dL (ds ++ [(i, m)])) (h2 : H' e = some (.dK (rowsN (t ++ [ds.length])))) (h1 : H' x = some (insH C dx z d'))
    (hp : PG K none H' zs B' d' kvs' ks' (pageF zs (ds ++ [(i, m)]) (inP (t ++ [ds.length])))) (hsd : PyProof.Rows.sortedS ks' = true) (hde : ¬ d' ∈ es) :
    HW K C H' zs B' hL eL dL bL xs es bs (ds ++ [(i, m)]) (hs.set i (t ++ [ds.length])) := by
  obtain ⟨q1, q2, q3, q4⟩ := h.heard i e t he ht
  obtain ⟨dx0, d0, _, _, hx0, _⟩ := (h.hand i x z t hx hz ht).it
  obtain ⟨ts, hdl, _⟩ := h.dl.it
  have hS : Loose H es (fun a => a = x ∨ a = e ∨ a = dL) := fun a c => by
    rcases c with c | c | c
    · exact .inl ⟨_, _, _, by rw [c]; exact hx0⟩
    · exact .inr (.inr ⟨by rw [c]; exact List.mem_of_getElem? he, _, by rw [c]; exact q1⟩)
    · exact .inr (.inl ⟨_, by rw [c]; exact hdl⟩)
  have lst : ∀ {a : Addr} {ys : List V}, H a = some (.lst ys) → a ≠ dL → H' a = some (.lst ys) := fun {a ys} q n => ex _ _ (fun c => by
    rcases c with c | c | c
    · rw [c, hx0] at q; cases q
    · rw [c, q1] at q; cases q
    · exact n c) q
  have hil := (List.getElem?_eq_some_iff.mp ht).1
  have hiz : i < zs.length := by rw [← h.hsl]; exact hil
  have hln : (ds ++ [(i, m)]).length = ds.length + 1 := by rw [List.length_append]; rfl
  refine ⟨lst h.hl (Ne.symm h.ne.2.1), lst h.el (Ne.symm h.ne.2.2.1), lst h.bl (Ne.symm h.ne.1), hd, h.ne, h.xl, h.esl, by rw [List.length_set]; exact h.hsl, h.esn, h.nd, h.nm, dsOk_add h.ok hiz hm.1 hm.2, fun j y w v a b c => ?_, fun j f v a b => ?_, fun j v k a b c => ?_, fun b hb => ((h.lets b hb).loose hS ex).more hB⟩
  · by_cases c0 : i = j
    · subst c0
      rw [hx] at a
      rw [hz] at b
      rw [List.getElem?_set_self hil] at c
      cases a; cases b; cases c
      exact ⟨dx, d', kvs', ks', h1, hp, hsd, hde⟩
    · rw [List.getElem?_set_ne c0] at c
      have hj := h.hand j y w v a b c
      have hv : ∀ k ∈ v, k < ds.length := by
        have hje : j < es.length := by rw [h.esl, ← h.hsl]; exact (List.getElem?_eq_some_iff.mp c).1
        exact (h.heard j es[j] v (List.getElem?_eq_getElem hje) c).2.2.1
      rw [page_old (fun q => by have := hv _ (inP_iff.mp q); omega)]
      refine (hj.loose hS ex (fun q => ?_)).up hB
      obtain ⟨_, _, _, _, g, _⟩ := hj.it
      rcases q with q | q | q
      · exact h.xne hx a c0 q.symm
      · rw [q, q1] at g; cases g
      · rw [q, hdl] at g; cases g
  · by_cases c0 : i = j
    · subst c0
      rw [he] at a
      rw [List.getElem?_set_self hil] at b
      cases a; cases b
      refine ⟨h2, List.nodup_append.mpr ⟨q2, List.nodup_cons.mpr ⟨by simp, List.nodup_nil⟩, fun a ha b hb e => by rw [List.mem_singleton.mp hb] at e; have := q3 a ha; omega⟩, fun k hk => ?_, closed_new q3 q4 (fun k hk hk2 => h.own i t k ht hk hk2)⟩
      rw [hln]
      rcases List.mem_append.mp hk with q | q
      · have := q3 k q; omega
      · rw [List.mem_singleton.mp q]; omega
    · rw [List.getElem?_set_ne c0] at b
      obtain ⟨g1, g2, g3, g4⟩ := h.heard j f v a b
      refine ⟨ex _ _ (fun q => ?_) g1, g2, fun k hk => by rw [hln]; have := g3 k hk; omega, closed_old g3 g4⟩
      rcases q with q | q | q
      · rw [q, hx0] at g1; cases g1
      · exact h.ene he a c0 q.symm
      · rw [q, hdl] at g1; cases g1
  · rw [hln] at b
    by_cases c1 : k < ds.length
    · rw [own_old c1] at c
      by_cases c0 : i = j
      · subst c0
        rw [List.getElem?_set_self hil] at a
        cases a
        exact List.mem_append_left _ (h.own i t k ht c1 c)
      · rw [List.getElem?_set_ne c0] at a
        exact h.own j v k a c1 c
    · have ek : k = ds.length := by omega
      subst ek
      rw [own_new] at c
      have c' : i = j := c
      subst c'
      rw [List.getElem?_set_self hil] at a
      cases a
      simp
/-- a letter is kept -/
theorem HW.letter (h : HW K C H zs B hL eL dL bL xs es bs ds hs) {b : Addr} (ex : Exs (fun a => a = bL) H H') (hb : H' bL = some (.lst ((bs ++ [b]).map V.ref))) (hl : LetE K H' zs es B ds b) : HW K C H' zs B hL eL dL bL xs es (bs ++ [b]) ds hs := by
  have hS : Loose H es (fun a => a = bL) := fun a c => .inr (.inl ⟨bs.map V.ref, by rw [show a = bL from c]; exact h.bl⟩)
  obtain ⟨ts, p1, p2, p3⟩ := h.dl.it
  refine ⟨ex _ _ (Ne.symm h.ne.2.2.2.1) h.hl, ex _ _ (Ne.symm h.ne.2.2.2.2) h.el, hb, ⟨ts, ex _ _ h.ne.1 p1, p2, fun i t d a b => loose_tup hS ex (p3 i t d a b)⟩, h.ne, h.xl, h.esl, h.hsl, h.esn, h.nd, h.nm, h.ok, fun i x z t a b c => (h.hand i x z t a b c).loose hS ex (fun q => ?_), fun i e t a b => ?_, h.own, fun c hc => ?_⟩
  · obtain ⟨_, _, _, _, g, _⟩ := (h.hand i x z t a b c).it
    rw [q, h.bl] at g
    cases g
  · obtain ⟨g1, g2⟩ := h.heard i e t a b
    exact ⟨ex _ _ (fun q => by rw [q, h.bl] at g1; cases g1) g1, g2⟩
  · rcases List.mem_append.mp hc with q | q
    · exact (h.lets c q).loose hS ex
    · rw [List.mem_singleton.mp q]; exact hl
theorem HW.up (h : HW K C H zs B hL eL dL bL xs es bs ds hs) (hB : B ≤ B') : HW K C H zs B' hL eL dL bL xs es bs ds hs :=
  ⟨h.hl, h.el, h.bl, h.dl, h.ne, h.xl, h.esl, h.hsl, h.esn, h.nd, h.nm, h.ok, fun i x z t a b c => (h.hand i x z t a b c).up hB, h.heard, h.own, fun b hb => by
    obtain ⟨l, w, kvs, ks, ns, h1, h2, h3⟩ := (h.lets b hb).it
    exact ⟨l, w, kvs, ks, ns, h1, h2.up hB, h3⟩⟩
/-- what stands at place i -/
theorem HW.at_ (h : HW K C H zs B hL eL dL bL xs es bs ds hs) {i : Nat} (hi : i < zs.length) : ∃ x z e t, xs[i]? = some x ∧ zs[i]? = some z ∧ es[i]? = some e ∧ hs[i]? = some t :=
  ⟨xs[i]'(by rw [h.xl]; exact hi), zs[i], es[i]'(by rw [h.esl]; exact hi), hs[i]'(by rw [h.hsl]; exact hi), List.getElem?_eq_getElem _, List.getElem?_eq_getElem _, List.getElem?_eq_getElem _, List.getElem?_eq_getElem _⟩
/-- nobody has heard of more of a hand than it did -/
theorem HW.trust (h : HW K C H zs B hL eL dL bL xs es bs ds hs) {i : Nat} {z : Str} {t ns : List Nat} (hz : zs[i]? = some z) (ht : hs[i]? = some t) (hc : Closed ds (inP t)) (hn : Closed ds (inP ns)) : rchB (pageF zs ds (inP t)) (pageF zs ds (inP ns)) z = true :=
  (rch_page h.ok h.nd hc hn).mpr fun k hk _ hkz => by
    refine inP_iff.mpr (h.own i t k ht hk ?_)
    obtain ⟨b1, b2⟩ := List.getElem?_eq_some_iff.mp hz
    have hw := h.ok.who k hk
    unfold nmO at hkz
    rw [List.getD_eq_getElem?_getD, List.getElem?_eq_getElem hw] at hkz
    have e : zs[ownN ds k] = zs[i] := (show zs[ownN ds k] = z from hkz).trans b2.symm
    have pw := List.pairwise_iff_getElem.mp (List.nodup_iff_pairwise_ne.mp h.nd)
    rcases Nat.lt_trichotomy (ownN ds k) i with c | c | c
    · exact absurd e (pw _ _ hw b1 c)
    · exact c
    · exact absurd e.symm (pw _ _ b1 hw c)
end
end Gc
namespace Gc
open PySem L2 Evl
/-- what a deed leaves alone -/
def Kept (dL bL : Addr) (H H' : Hp) : Prop := ∀ a o, H a = some o → (∀ kvs : List (Key × V), ¬ o = .dK kvs) → (∀ C dx fs, ¬ o = .ins C dx fs) → a ≠ dL → a ≠ bL → H' a = some o
theorem Kept.of {dL bL : Addr} {H H' : Hp} (e : Ex H H') : Kept dL bL H H' := fun a o h _ _ _ _ => e a o h
theorem Kept.trans {dL bL : Addr} {H H1 H' : Hp} (e : Kept dL bL H H1) (f : Kept dL bL H1 H') : Kept dL bL H H' := fun a o h n1 n2 n3 n4 => f a o (e a o h n1 n2 n3 n4) n1 n2 n3 n4
theorem Kept.exs {dL bL : Addr} {H H' : Hp} {S : Addr → Prop} (e : Exs S H H') (hS : ∀ a, S a → a = dL ∨ a = bL ∨ (∃ C dx fs, H a = some (.ins C dx fs)) ∨ ∃ kvs : List (Key × V), H a = some (.dK kvs)) : Kept dL bL H H' := fun a o h n1 n2 n3 n4 =>
  e a o (fun c => by
    rcases hS a c with q | q | ⟨_, _, _, q⟩ | ⟨_, q⟩
    · exact n3 q
    · exact n4 q
    · rw [h] at q; exact n2 _ _ _ (Option.some.inj q)
    · rw [h] at q; exact n1 _ (Option.some.inj q)) h
theorem place {n : Nat} {j : Int} (h : 0 < n) : ∃ w : Nat, j % ((n : Nat) : Int) = w ∧ w < n := by
  have m := mod_in (a := j) (b := ((n : Nat) : Int)) (by omega)
  exact ⟨(j % ((n : Nat) : Int)).toNat, by omega, by omega⟩
theorem ref_at {xs : List Addr} {w : Nat} {x : Addr} (h : xs[w]? = some x) : atI (xs.map V.ref) (w : Int) = some (.ref x) := atI_nat (by rw [List.getElem?_map, h]; rfl)
end Gc
namespace Gc
open PySem L2 Evl
section
variable {K : PySem.W.Frag} {C : Addr} {H H1 H' : Hp} {zs : List Str} {B : Int} {hL eL dL bL : Addr} {xs es bs : List Addr} {ds : List (Nat × Int)} {hs : List (List Nat)}
theorem HW.fresh (h : HW K C H zs B hL eL dL bL xs es bs ds hs) {a : Addr} (ha : H a = none) : ¬ a ∈ es := fun q => by
  obtain ⟨i, hi⟩ := List.mem_iff_getElem?.mp q
  have hl := (List.getElem?_eq_some_iff.mp hi).1
  have := (h.heard i a (hs[i]'(by rw [h.hsl, ← h.esl]; exact hl)) hi (List.getElem?_eq_getElem _)).1
  rw [ha] at this
  cases this
theorem PG.lack {d l : Addr} {kvs kvl : List (Key × V)} {ks kl : List Str} {f g : Sh} (h : PG K none H zs B d kvs ks f) (hB : 0 ≤ B) (h1 : H' l = some (.dK kvl)) (h2 : PgK K H' kvl kl (lackF g f)) (hm : ∀ w, w ∈ kl ↔ w ∈ lackK ks g f) : PG K none H' zs B l kvl kl (lackF g f) := by
  have cas : ∀ z, lackF g f z = f z ∨ lackF g f z = (0, 0) := fun z => by
    unfold lackF
    by_cases c : rchB g f z = true
    · right; rw [if_pos c]
    · left; rw [if_neg c]
  refine ⟨h1, h2, ⟨fun z hz => h.nm.nm z (mem_lackK.mp ((hm z).mp hz)).1, fun z hz => ?_, fun z => ?_⟩, fun z => ?_, fun z hz => h.sub z (mem_lackK.mp ((hm z).mp hz)).1, fun z => ?_, fun x hx => by cases hx⟩
  · obtain ⟨a, b⟩ := mem_lackK.mp ((hm z).mp hz)
    rw [lackF_at b]
    exact h.nm.pos z a
  · rcases cas z with c | c <;> rw [c]
    · exact h.nm.lim z
    · exact ⟨lim_pos, lim_pos⟩
  · rcases cas z with c | c <;> rw [c]
    · exact h.nn z
    · exact ⟨Int.le_refl _, Int.le_refl _⟩
  · rcases cas z with c | c <;> rw [c]
    · exact h.bd z
    · exact ⟨hB, hB⟩
/-- a hand has heard -/
theorem HW.hears (h : HW K C H zs B hL eL dL bL xs es bs ds hs) {i : Nat} {x e dx d d' pg : Addr} {z : Str} {kvs kvs' kv2 : List (Key × V)} {ks ys ls : List Str} {t ns : List Nat} (hx : xs[i]? = some x) (he : es[i]? = some e) (hz : zs[i]? = some z) (ht : hs[i]? = some t)
    (hG : PG K none H zs B d kvs ks (pageF zs ds (inP t))) (hq : PG K none H1 zs B pg kv2 ls (pageF zs ds (inP ns))) (hnd : ns.Nodup) (hnk : ∀ k ∈ ns, k < ds.length) (hnc : Closed ds (inP ns))
    (hd0 : H d' = none) (ex : Exs (fun a => a = x ∨ a = e) H H') (h1 : H' x = some (insH C dx z d')) (r : H' d' = some (.dK kvs')) (p : PgK K H' kvs' ys (pageF zs ds (inP (unionL t ns)))) (srt : PyProof.Rows.sortedS ys = true) (hm : ∀ y, y ∈ ys ↔ y ∈ ks ∨ y ∈ ls) (h2 : H' e = some (.dK (rowsN (unionL t ns)))) :
    HW K C H' zs B hL eL dL bL xs es bs ds (hs.set i (unionL t ns)) := by
  obtain ⟨g1, g2, g3, g4⟩ := h.heard i e t he ht
  have eu := union_page h.ok h.nd g4 hnc
  refine h.hear (kvs' := kvs') hx he hz ht ex h1 ?_ srt (h.fresh hd0) h2 (unionL_nd g2 ns) (fun k hk => ((mem_unionL _).mp hk).elim (g3 k) (hnk k)) (union_closed g4 hnc) (fun k hk => (mem_unionL _).mpr (.inl hk))
  rw [← eu] at p ⊢
  exact hG.mx hq r p hm (fun x hx => by cases hx)
theorem HW.kept (h : HW K C H zs B hL eL dL bL xs es bs ds hs) {i : Nat} {x e : Addr} {z : Str} {t : List Nat} (hx : xs[i]? = some x) (he : es[i]? = some e) (hz : zs[i]? = some z) (ht : hs[i]? = some t) (ex : Exs (fun a => a = x ∨ a = e) H H') : Kept dL bL H H' := Kept.exs ex fun a c => by
  rcases c with c | c
  · obtain ⟨_, _, _, _, g, _⟩ := (h.hand i x z t hx hz ht).it
    exact .inr (.inr (.inl ⟨_, _, _, by rw [c]; exact g⟩))
  · exact .inr (.inr (.inr ⟨_, by rw [c]; exact (h.heard i e t he ht).1⟩))
end
end Gc
namespace Gc
open PySem L2 Evl
section
variable {K : PySem.W.Frag} {C : Addr} {H H' : Hp} {zs : List Str} {B : Int} {hL eL dL bL : Addr} {xs es bs : List Addr} {ds : List (Nat × Int)} {hs : List (List Nat)}
/-- the page behind a deed -/
theorem deed_page {w : Nat} {z : Str} {t : List Nat} {M m P : Int} (hz : zs[w]? = some z) (hM : 1 ≤ M) (hP : P = 0 ∨ P = 1) (ha : m = if P = 0 then M else -M) : pageF zs (ds ++ [(w, m)]) (inP (t ++ [ds.length])) = setF (pageF zs ds (inP t)) z (addAt P (pageF zs ds (inP t) z) M) := by
  have hn : inP (t ++ [ds.length]) ds.length = true := inP_iff.mpr (by simp)
  have hw : zs.getD w "" = z := by rw [List.getD_eq_getElem?_getD, hz]; rfl
  have e : pageF zs ds (inP (t ++ [ds.length])) = pageF zs ds (inP t) := pageF_congr fun k hk => by
    rw [Bool.eq_iff_iff, inP_iff, inP_iff, List.mem_append, List.mem_singleton]
    exact ⟨fun q => q.elim id (fun q => absurd q (by omega)), .inl⟩
  rw [page_new hn hM P hP ha, hw, e]
/-- a page one deed up -/
theorem PG.deed {d d' : Addr} {kvs kvs' : List (Key × V)} {ks ys : List Str} {f : Sh} {z : Str} {P M : Int} (h : PG K none H zs B d kvs ks f) (hz : z ∈ zs) (hn : nameB z = true) (hM : 1 ≤ M) (hM2 : M ≤ 1000000000) (hB0 : 0 ≤ B) (hB : B ≤ 1000000000000) (h1 : H' d' = some (.dK kvs')) (h2 : PgK K H' kvs' ys (setF f z (addAt P (f z) M))) (hm : ∀ w, w ∈ ys ↔ w ∈ ks ∨ w = z) : PG K none H' zs (B + 1000000000) d' kvs' ys (setF f z (addAt P (f z) M)) := by
  have hlim : (2000000000000 : Int) < LIM := by decide
  have nz := h.nn z
  have bz := h.bd z
  have cs : (addAt P (f z) M).1 + (addAt P (f z) M).2 = (f z).1 + (f z).2 + M ∧ (f z).1 ≤ (addAt P (f z) M).1 ∧ (f z).2 ≤ (addAt P (f z) M).2 := by
    have g := addAt_ge (p := P) (s := f z) (m := M) (by omega)
    refine ⟨?_, g⟩
    unfold addAt
    split
    · show (f z).1 + M + (f z).2 = _; omega
    · show (f z).1 + ((f z).2 + M) = _; omega
  have cas : ∀ w, (w = z ∧ setF f z (addAt P (f z) M) w = addAt P (f z) M) ∨ (¬ w = z ∧ setF f z (addAt P (f z) M) w = f w) := fun w => by
    by_cases c : w = z
    · left; exact ⟨c, by rw [c, setF_same]⟩
    · right; exact ⟨c, setF_ne c⟩
  refine ⟨h1, h2, ⟨fun w hw => ?_, fun w hw => ?_, fun w => ?_⟩, fun w => ?_, fun w hw => ?_, fun w => ?_, fun x hx => by cases hx⟩
  · rcases (hm w).mp hw with q | q
    · exact h.nm.nm w q
    · rw [q]; exact hn
  · rcases cas w with ⟨_, c⟩ | ⟨n, c⟩
    · rw [c]; omega
    · rw [c]; exact h.nm.pos w (((hm w).mp hw).resolve_right n)
  · rcases cas w with ⟨_, c⟩ | ⟨n, c⟩ <;> rw [c]
    · exact ⟨by omega, by omega⟩
    · exact h.nm.lim w
  · rcases cas w with ⟨_, c⟩ | ⟨n, c⟩ <;> rw [c]
    · exact ⟨by omega, by omega⟩
    · exact h.nn w
  · rcases (hm w).mp hw with q | q
    · exact h.sub w q
    · rw [q]; exact hz
  · rcases cas w with ⟨_, c⟩ | ⟨n, c⟩ <;> rw [c]
    · exact ⟨by omega, by omega⟩
    · have := h.bd w; exact ⟨by omega, by omega⟩
end
end Gc

namespace Gc
open PySem L2 Evl
/-! ### the end of the law: hands alone -/
structure HL (K : PySem.W.Frag) (C : Addr) (H : Hp) (zs : List Str) (B : Int) (hL : Addr) (xs : List Addr) (ds : List (Nat × Int)) (fs : List (List Nat)) : Prop where
  hl : H hL = some (.lst (xs.map V.ref))
  xl : xs.length = zs.length
  fl : fs.length = zs.length
  nd : zs.Nodup
  ok : DsOk zs ds
  hand : ∀ (i : Nat) x z f, xs[i]? = some x → zs[i]? = some z → fs[i]? = some f → HandP K C none H zs B x z (pageF zs ds (inP f))
  set_ : ∀ (i : Nat) f, fs[i]? = some f → f.Nodup ∧ (∀ k ∈ f, k < ds.length) ∧ Closed ds (inP f)
  own : ∀ (i : Nat) f k, fs[i]? = some f → k < ds.length → ownN ds k = i → k ∈ f
section
variable {K : PySem.W.Frag} {C : Addr} {H H1 H' : Hp} {zs : List Str} {B : Int} {hL eL dL bL : Addr} {xs es bs : List Addr} {ds : List (Nat × Int)} {hs fs : List (List Nat)}
theorem HW.end_ (h : HW K C H zs B hL eL dL bL xs es bs ds hs) : HL K C H zs B hL xs ds hs :=
  ⟨h.hl, h.xl, h.hsl, h.nd, h.ok, fun i x z f a b c => by
    obtain ⟨dx, d, kvs, ks, h1, h2, h3, _⟩ := (h.hand i x z f a b c).it
    exact ⟨dx, d, kvs, ks, h1, h2, h3⟩, fun i f a => by
    have hi : i < es.length := by rw [h.esl, ← h.hsl]; exact (List.getElem?_eq_some_iff.mp a).1
    exact (h.heard i es[i] f (List.getElem?_eq_getElem hi) a).2, h.own⟩
theorem HL.ex (h : HL K C H zs B hL xs ds fs) (e : Ex H H') : HL K C H' zs B hL xs ds fs :=
  ⟨e _ _ h.hl, h.xl, h.fl, h.nd, h.ok, fun i x z f a b c => by
    obtain ⟨dx, d, kvs, ks, h1, h2, h3⟩ := (h.hand i x z f a b c).it
    exact ⟨dx, d, kvs, ks, e _ _ h1, h2.ex e, h3⟩, h.set_, h.own⟩
theorem HL.xne (h : HL K C H zs B hL xs ds fs) {i j : Nat} {x y : Addr} (hi : xs[i]? = some x) (hj : xs[j]? = some y) (hij : i ≠ j) : x ≠ y := fun e => by
  have li := (List.getElem?_eq_some_iff.mp hi).1
  have lj := (List.getElem?_eq_some_iff.mp hj).1
  have zi : i < zs.length := by rw [← h.xl]; exact li
  have zj : j < zs.length := by rw [← h.xl]; exact lj
  obtain ⟨dx, d, _, _, h1, _⟩ := (h.hand i x zs[i] (fs[i]'(by rw [h.fl]; exact zi)) hi (List.getElem?_eq_getElem zi) (List.getElem?_eq_getElem _)).it
  obtain ⟨dy, d', _, _, h2, _⟩ := (h.hand j y zs[j] (fs[j]'(by rw [h.fl]; exact zj)) hj (List.getElem?_eq_getElem zj) (List.getElem?_eq_getElem _)).it
  rw [← e, h1] at h2
  unfold insH at h2
  simp only [Option.some.injEq, HO.ins.injEq, List.cons.injEq, Prod.mk.injEq, V.str.injEq, true_and] at h2
  have e2 : zs[i] = zs[j] := h2.2.1
  rcases Nat.lt_or_gt_of_ne hij with c | c
  · exact (List.pairwise_iff_getElem.mp (List.nodup_iff_pairwise_ne.mp h.nd)) _ _ zi zj c e2
  · exact (List.pairwise_iff_getElem.mp (List.nodup_iff_pairwise_ne.mp h.nd)) _ _ zj zi c e2.symm
/-- hand i hears a page -/
theorem HL.hears (h : HL K C H zs B hL xs ds fs) {i : Nat} {x dx d d' pg : Addr} {z : Str} {kvs kvs' kv2 : List (Key × V)} {ks ys ls : List Str} {t ns : List Nat} (hx : xs[i]? = some x) (hz : zs[i]? = some z) (ht : fs[i]? = some t)
    (hG : PG K none H zs B d kvs ks (pageF zs ds (inP t))) (hq : PG K none H1 zs B pg kv2 ls (pageF zs ds (inP ns))) (hnk : ∀ k ∈ ns, k < ds.length) (hnc : Closed ds (inP ns))
    (ex : Exs (fun a => a = x) H H') (h1 : H' x = some (insH C dx z d')) (r : H' d' = some (.dK kvs')) (p : PgK K H' kvs' ys (mxF (pageF zs ds (inP t)) (pageF zs ds (inP ns)))) (srt : PyProof.Rows.sortedS ys = true) (hm : ∀ y, y ∈ ys ↔ y ∈ ks ∨ y ∈ ls) :
    HL K C H' zs B hL xs ds (fs.set i (unionL t ns)) := by
  obtain ⟨g2, g3, g4⟩ := h.set_ i t ht
  obtain ⟨dx0, d0, _, _, hx0, _⟩ := (h.hand i x z t hx hz ht).it
  have hS : ∀ p, p = x → (∃ C dx fs, H p = some (.ins C dx fs)) ∨ ∃ xs, H p = some (.lst xs) := fun p c => .inl ⟨C, dx0, [("name", .str z), ("known", .ref d0)], by rw [c]; exact hx0⟩
  have hil := (List.getElem?_eq_some_iff.mp ht).1
  have hP : PG K none H' zs B d' kvs' ys (mxF (pageF zs ds (inP t)) (pageF zs ds (inP ns))) := hG.mx hq r p hm (fun x hx => by cases hx)
  rw [union_page h.ok h.nd g4 hnc] at hP
  refine ⟨ex _ _ (fun c => by have q := h.hl; rw [c, hx0] at q; cases q) h.hl, h.xl, by rw [List.length_set]; exact h.fl, h.nd, h.ok, fun j y w v a b c => ?_, fun j v a => ?_, fun j v k a b c => ?_⟩
  · by_cases c0 : i = j
    · subst c0
      rw [hx] at a
      rw [hz] at b
      rw [List.getElem?_set_self hil] at c
      cases a; cases b; cases c
      exact ⟨dx, d', kvs', ys, h1, hP, srt⟩
    · rw [List.getElem?_set_ne c0] at c
      obtain ⟨dy, d9, kv9, k9, q1, q2, q3⟩ := (h.hand j y w v a b c).it
      exact ⟨dy, d9, kv9, k9, ex _ _ (fun q => h.xne hx a c0 q.symm) q1, q2.exs ex hS, q3⟩
  · by_cases c0 : i = j
    · subst c0
      rw [List.getElem?_set_self hil] at a
      cases a
      exact ⟨unionL_nd g2 ns, fun k hk => ((mem_unionL _).mp hk).elim (g3 k) (hnk k), union_closed g4 hnc⟩
    · rw [List.getElem?_set_ne c0] at a
      exact h.set_ j v a
  · by_cases c0 : i = j
    · subst c0
      rw [List.getElem?_set_self hil] at a
      cases a
      exact (mem_unionL _).mpr (.inl (h.own i t k ht b c))
    · rw [List.getElem?_set_ne c0] at a
      exact h.own j v k a b c
theorem HL.trust (h : HL K C H zs B hL xs ds fs) {i : Nat} {z : Str} {t ns : List Nat} (hz : zs[i]? = some z) (ht : fs[i]? = some t) (hn : Closed ds (inP ns)) : rchB (pageF zs ds (inP t)) (pageF zs ds (inP ns)) z = true :=
  (rch_page h.ok h.nd (h.set_ i t ht).2.2 hn).mpr fun k hk _ hkz => by
    refine inP_iff.mpr (h.own i t k ht hk ?_)
    obtain ⟨b1, b2⟩ := List.getElem?_eq_some_iff.mp hz
    have hw := h.ok.who k hk
    unfold nmO at hkz
    rw [List.getD_eq_getElem?_getD, List.getElem?_eq_getElem hw] at hkz
    have e : zs[ownN ds k] = zs[i] := (show zs[ownN ds k] = z from hkz).trans b2.symm
    have pw := List.pairwise_iff_getElem.mp (List.nodup_iff_pairwise_ne.mp h.nd)
    rcases Nat.lt_trichotomy (ownN ds k) i with c | c | c
    · exact absurd e (pw _ _ hw b1 c)
    · exact c
    · exact absurd e.symm (pw _ _ b1 hw c)
end
end Gc

namespace Gc
open PySem L2 Evl
/-! ### the law's own walk: how it begins, and how it ends -/
theorem kept_sqL {K : PySem.W.Frag} {dL bL : Addr} {H0 H H' : Hp} (e : Ex H0 H) (k : Kept dL bL H H') (hd : H0 dL = none) (hb : H0 bL = none) {a : Addr} {xs : List V} (q : SqL K H0 a xs) : SqL K H' a xs := by
  rcases q with (q | ⟨od, q⟩) | q
  · exact .inl (.inl (k _ _ (e _ _ q) (fun _ c => by cases c) (fun _ _ _ c => by cases c) (fun c => by rw [c, hd] at q; cases q) (fun c => by rw [c, hb] at q; cases q)))
  · exact .inl (.inr ⟨od, k _ _ (e _ _ q) (fun _ c => by cases c) (fun _ _ _ c => by cases c) (fun c => by rw [c, hd] at q; cases q) (fun c => by rw [c, hb] at q; cases q)⟩)
  · exact .inr q
theorem sameB_self {zs : List Str} {f : Sh} : sameB zs f f = true := by
  unfold sameB
  exact List.all_eq_true.mpr fun w _ => decide_eq_true rfl
theorem pageF_nil {zs : List Str} {p : Nat → Bool} : pageF zs [] p = fun _ => (0, 0) := rfl
section
variable {K : PySem.W.Frag} {C : Addr} {H H1 H' : Hp} {zs : List Str} {B : Int} {hL eL dL bL : Addr} {xs es bs : List Addr} {ds : List (Nat × Int)} {hs fs : List (List Nat)}
theorem HW.start (hl : H hL = some (.lst (xs.map V.ref))) (el : H eL = some (.lst (es.map V.ref))) (bl : H bL = some (.lst [])) (dl : H dL = some (.lst [])) (ne : dL ≠ bL ∧ dL ≠ hL ∧ dL ≠ eL ∧ bL ≠ hL ∧ bL ≠ eL)
    (xl : xs.length = zs.length) (esl : es.length = zs.length) (esn : es.Nodup) (nd : zs.Nodup) (nm : NmOk zs)
    (hx : ∀ (j : Nat) x z, xs[j]? = some x → zs[j]? = some z → ∃ dx d, H x = some (insH C dx z d) ∧ H d = some (.dK []) ∧ ¬ d ∈ es) (he : ∀ e ∈ es, H e = some (.dK [])) :
    HW K C H zs 0 hL eL dL bL xs es [] [] (List.replicate zs.length []) := by
  have nil : ∀ {i : Nat} {h : List Nat}, (List.replicate zs.length ([] : List Nat))[i]? = some h → h = [] := fun {i h} q => List.eq_of_mem_replicate (List.mem_of_getElem? q)
  refine ⟨hl, el, bl, ⟨[], dl, rfl, fun i t d q => by rw [List.getElem?_nil] at q; cases q⟩, ne, xl, esl, List.length_replicate, esn, nd, nm, ⟨fun k hk => absurd hk (Nat.not_lt_zero _), fun k hk => absurd hk (Nat.not_lt_zero _), fun k hk => absurd hk (Nat.not_lt_zero _)⟩, fun i x z h a b _ => ?_, fun i e h a b => ?_, fun i h k _ b => absurd b (Nat.not_lt_zero _), fun b hb => by cases hb⟩
  · obtain ⟨dx, d, h1, h2, h3⟩ := hx i x z a b
    exact ⟨dx, d, [], [], h1, ⟨h2, PgK.nil, NmP.nil, NN.zero, fun w hw => (by cases hw), fun _ => ⟨Int.le_refl _, Int.le_refl _⟩, fun x hx => by cases hx⟩, rfl, h3⟩
  · rw [nil b]
    exact ⟨he e (List.mem_of_getElem? a), List.nodup_nil, fun k hk => (by cases hk), fun j k hk => absurd hk (Nat.not_lt_zero _)⟩
/-- the first hand hears one by one: hs at first, fs now -/
structure HM (hs fs : List (List Nat)) (i : Nat) : Prop where
  old : ∀ (j : Nat) f, 0 < j → hs[j]? = some f → fs[j]? = some f
  all : ∀ (j : Nat) f u k, j < i ∨ j = 0 → hs[j]? = some f → fs[0]? = some u → k ∈ f → k ∈ u
theorem HM.start (hs : List (List Nat)) : HM hs hs 0 := ⟨fun _ _ _ h => h, fun j f u k hj h1 h2 hk => by
  rcases hj with c | c
  · exact absurd c (Nat.not_lt_zero _)
  · subst c
    rw [h1] at h2
    cases h2
    exact hk⟩
theorem HM.step {i : Nat} {u t : List Nat} (h : HM hs fs i) (hu : fs[0]? = some u) (ht : fs[i]? = some t) : HM hs (fs.set 0 (unionL u t)) (i + 1) := by
  have h0 := (List.getElem?_eq_some_iff.mp hu).1
  refine ⟨fun j f hj q => ?_, fun j f v k hj q1 q2 hk => ?_⟩
  · rw [List.getElem?_set_ne (by omega)]
    exact h.old j f hj q
  · rw [List.getElem?_set_self h0] at q2
    cases q2
    by_cases c : j < i ∨ j = 0
    · exact (mem_unionL _).mpr (.inl (h.all j f u k c q1 hu hk))
    · have e : j = i := by omega
      subst e
      have q3 := h.old j f (by omega) q1
      rw [ht] at q3
      cases q3
      exact (mem_unionL _).mpr (.inr hk)
def Full (ds : List (Nat × Int)) (u : List Nat) : Prop := ∀ k, k < ds.length → k ∈ u
theorem HM.full {u : List Nat} (h : HM hs fs zs.length) (hn : hs.length = zs.length) (hok : DsOk zs ds) (own : ∀ (i : Nat) f k, hs[i]? = some f → k < ds.length → ownN ds k = i → k ∈ f) (hu : fs[0]? = some u) : Full ds u := fun k hk => by
  have hw := hok.who k hk
  have hf : hs[ownN ds k]? = some (hs[ownN ds k]'(by rw [hn]; exact hw)) := List.getElem?_eq_getElem _
  exact h.all _ _ u k (.inl hw) hf hu (own _ _ k hf hk rfl)
theorem full_page {u : List Nat} (h : Full ds u) : pageF zs ds (inP u) = pageF zs ds (fun _ => true) := pageF_congr fun k hk => inP_iff.mpr (h k hk)
theorem Full.union {u : List Nat} (h : Full ds u) (t : List Nat) : Full ds (unionL t u) := fun k hk => (mem_unionL _).mpr (.inr (h k hk))
/-- the sum of all deeds -/
theorem hsum_all : ∀ ds : List (Nat × Int), hsum ds (fun _ => true) (·.2) = (ds.map (·.2)).sum := by
  refine snoc_ind rfl fun l d ih => ?_
  rw [hsum_add, ih, List.map_append, List.sum_append]
  simp
theorem sum_take {i : Nat} {d : Nat × Int} (h : ds[i]? = some d) : ((ds.take (i + 1)).map (·.2)).sum = ((ds.take i).map (·.2)).sum + d.2 := by
  rw [take_snoc h, List.map_append, List.sum_append]
  simp
theorem HL.at_ (h : HL K C H zs B hL xs ds fs) {i : Nat} (hi : i < zs.length) : ∃ x z t, xs[i]? = some x ∧ zs[i]? = some z ∧ fs[i]? = some t :=
  ⟨xs[i]'(by rw [h.xl]; exact hi), zs[i], fs[i]'(by rw [h.fl]; exact hi), List.getElem?_eq_getElem _, List.getElem?_eq_getElem _, List.getElem?_eq_getElem _⟩
theorem DLs.ins (h : DLs K H dL ds) {x : Addr} (hx : ∃ C dx fs, H x = some (.ins C dx fs)) (e : Exs (fun a => a = x) H H') : DLs K H' dL ds := by
  obtain ⟨C, dx, gs, hx⟩ := hx
  obtain ⟨ts, h1, h2, h3⟩ := h.it
  exact ⟨ts, e _ _ (fun c => by rw [c, hx] at h1; cases h1) h1, h2, fun i t d a b => sqT_exs e (fun p c => .inl ⟨_, _, _, c ▸ hx⟩) (h3 i t d a b)⟩
end
end Gc

namespace Gc
open PySem L2 Evl
def top (i : Nat) : Stmt := PySem.Challenge.pw_gossipcount_k13_whole_heard_of.main.body.getD i (.Pass ⟨0, 0, 0, 0⟩)
abbrev s_is_name : Stmt := top 11
abbrev s_Hand_init : Stmt := inClass (top 27) 0
abbrev s_greater : Stmt := top 14
abbrev s_share_of : Stmt := top 22
abbrev s_joined : Stmt := top 23
abbrev s_is_whole : Stmt := top 10
abbrev s_is_share : Stmt := top 20
abbrev s_is_page : Stmt := top 21
abbrev s_reaches : Stmt := top 15
abbrev s_Hand_trusts : Stmt := inClass (top 27) 7
abbrev s_lacking : Stmt := top 24
abbrev s_Hand_hear : Stmt := inClass (top 27) 8
abbrev s_l_cell_at : Stmt := top 29
abbrev s_l_name_by12 : Stmt := top 31
abbrev s_l_names12 : Stmt := top 32
abbrev s_net : Stmt := top 16
abbrev s_total : Stmt := top 25
abbrev s_Hand_told : Stmt := inClass (top 27) 5
abbrev s_l_amount_by : Stmt := top 33
abbrev s_l_whole : Stmt := top 30
abbrev s_is_amount : Stmt := top 12
abbrev s_Hand_grown : Stmt := inClass (top 27) 3
abbrev s_Hand_up : Stmt := inClass (top 27) 1
abbrev s_Hand_down : Stmt := inClass (top 27) 2
abbrev s_l_sum : Stmt := top 34
abbrev s_l_owners : Stmt := top 35
abbrev s_l_hears : Stmt := top 37
abbrev s_Hand_letter : Stmt := inClass (top 27) 6
abbrev s_l_news : Stmt := top 36
abbrev s_Hand_page : Stmt := inClass (top 27) 4
abbrev s_l_deed13 : Stmt := top 38
abbrev s_law_k13 : Stmt := top 39
theorem sc_is_name : FnScope ["thing", "sign"] ["thing"] (defScope s_is_name) := ⟨rfl, rfl, rfl, by decide +kernel, rfl, by decide +kernel, by decide +kernel⟩
theorem sc_Hand_init : FnScope ["self", "name"] ["self", "name"] (defScope s_Hand_init) := ⟨rfl, rfl, rfl, by decide +kernel, rfl, by decide +kernel, by decide +kernel⟩
theorem sc_greater : FnScope ["one", "other"] ["one", "other"] (defScope s_greater) := ⟨rfl, rfl, rfl, by decide +kernel, rfl, by decide +kernel, by decide +kernel⟩
theorem sc_share_of : FnScope ["page", "name"] ["page", "name"] (defScope s_share_of) := ⟨rfl, rfl, rfl, by decide +kernel, rfl, by decide +kernel, by decide +kernel⟩
theorem sc_joined : FnScope ["one", "other", "page", "name"] ["one", "other"] (defScope s_joined) := ⟨rfl, rfl, rfl, by decide +kernel, rfl, by decide +kernel, by decide +kernel⟩
theorem sc_is_whole : FnScope ["thing"] ["thing"] (defScope s_is_whole) := ⟨rfl, rfl, rfl, by decide +kernel, rfl, by decide +kernel, by decide +kernel⟩
theorem sc_is_share : FnScope ["thing", "number"] ["thing"] (defScope s_is_share) := ⟨rfl, rfl, rfl, by decide +kernel, rfl, by decide +kernel, by decide +kernel⟩
theorem sc_is_page : FnScope ["thing", "name"] ["thing"] (defScope s_is_page) := ⟨rfl, rfl, rfl, by decide +kernel, rfl, by decide +kernel, by decide +kernel⟩
theorem sc_reaches : FnScope ["one", "other"] ["one", "other"] (defScope s_reaches) := ⟨rfl, rfl, rfl, by decide +kernel, rfl, by decide +kernel, by decide +kernel⟩
theorem sc_Hand_trusts : FnScope ["self", "page"] ["self", "page"] (defScope s_Hand_trusts) := ⟨rfl, rfl, rfl, by decide +kernel, rfl, by decide +kernel, by decide +kernel⟩
theorem sc_lacking : FnScope ["one", "other", "page", "name"] ["one", "other"] (defScope s_lacking) := ⟨rfl, rfl, rfl, by decide +kernel, rfl, by decide +kernel, by decide +kernel⟩
theorem sc_Hand_hear : FnScope ["self", "page", "fresh"] ["self", "page"] (defScope s_Hand_hear) := ⟨rfl, rfl, rfl, by decide +kernel, rfl, by decide +kernel, by decide +kernel⟩
theorem sc_l_cell_at : FnScope ["_law_script", "_law_k"] ["_law_script", "_law_k"] (defScope s_l_cell_at) := ⟨rfl, rfl, rfl, by decide +kernel, rfl, by decide +kernel, by decide +kernel⟩
theorem sc_l_name_by12 : FnScope ["_law_cell", "_law_signs", "_law_step", "_law_word", "_law_k"] ["_law_cell"] (defScope s_l_name_by12) := ⟨rfl, rfl, rfl, by decide +kernel, rfl, by decide +kernel, by decide +kernel⟩
theorem sc_l_names12 : FnScope ["_law_script", "_law_size", "_law_cell", "_law_letters", "_law_found", "_law_k", "_law_mark", "_law_word", "_law_at"] ["_law_script", "_law_size"] (defScope s_l_names12) := ⟨rfl, rfl, rfl, by decide +kernel, rfl, by decide +kernel, by decide +kernel⟩
theorem sc_net : FnScope ["share"] ["share"] (defScope s_net) := ⟨rfl, rfl, rfl, by decide +kernel, rfl, by decide +kernel, by decide +kernel⟩
theorem sc_total : FnScope ["page", "name"] ["page"] (defScope s_total) := ⟨rfl, rfl, rfl, by decide +kernel, rfl, by decide +kernel, by decide +kernel⟩
theorem sc_Hand_told : FnScope ["self"] ["self"] (defScope s_Hand_told) := ⟨rfl, rfl, rfl, by decide +kernel, rfl, by decide +kernel, by decide +kernel⟩
theorem sc_l_amount_by : FnScope ["_law_cell"] ["_law_cell"] (defScope s_l_amount_by) := ⟨rfl, rfl, rfl, by decide +kernel, rfl, by decide +kernel, by decide +kernel⟩
theorem sc_l_whole : FnScope ["_law_found"] ["_law_found"] (defScope s_l_whole) := ⟨rfl, rfl, rfl, by decide +kernel, rfl, by decide +kernel, by decide +kernel⟩
theorem sc_is_amount : FnScope ["thing"] ["thing"] (defScope s_is_amount) := ⟨rfl, rfl, rfl, by decide +kernel, rfl, by decide +kernel, by decide +kernel⟩
theorem sc_Hand_grown : FnScope ["self", "many", "place", "mine"] ["self", "many", "place"] (defScope s_Hand_grown) := ⟨rfl, rfl, rfl, by decide +kernel, rfl, by decide +kernel, by decide +kernel⟩
theorem sc_Hand_up : FnScope ["self", "many"] ["self", "many"] (defScope s_Hand_up) := ⟨rfl, rfl, rfl, by decide +kernel, rfl, by decide +kernel, by decide +kernel⟩
theorem sc_Hand_down : FnScope ["self", "many"] ["self", "many"] (defScope s_Hand_down) := ⟨rfl, rfl, rfl, by decide +kernel, rfl, by decide +kernel, by decide +kernel⟩
theorem sc_l_sum : FnScope ["_law_deeds", "_law_heard", "_law_found", "_law_k"] ["_law_deeds", "_law_heard"] (defScope s_l_sum) := ⟨rfl, rfl, rfl, by decide +kernel, rfl, by decide +kernel, by decide +kernel⟩
theorem sc_l_owners : FnScope ["_law_deeds", "_law_heard", "_law_other", "_law_found", "_law_k"] ["_law_deeds", "_law_heard", "_law_other"] (defScope s_l_owners) := ⟨rfl, rfl, rfl, by decide +kernel, rfl, by decide +kernel, by decide +kernel⟩
theorem sc_l_hears : FnScope ["_law_hand", "_law_page", "_law_deeds", "_law_heard", "_law_news_here", "_law_found", "_law_due", "_law_k"] ["_law_hand", "_law_page", "_law_deeds", "_law_heard", "_law_news_here"] (defScope s_l_hears) := ⟨rfl, rfl, rfl, by decide +kernel, rfl, by decide +kernel, by decide +kernel⟩
theorem sc_Hand_letter : FnScope ["self", "page"] ["self", "page"] (defScope s_Hand_letter) := ⟨rfl, rfl, rfl, by decide +kernel, rfl, by decide +kernel, by decide +kernel⟩
theorem sc_l_news : FnScope ["_law_deeds", "_law_heard", "_law_other", "_law_owners_here", "_law_found", "_law_k"] ["_law_deeds", "_law_heard", "_law_other"] (defScope s_l_news) := ⟨rfl, rfl, rfl, by decide +kernel, rfl, by decide +kernel, by decide +kernel⟩
theorem sc_Hand_page : FnScope ["self"] ["self"] (defScope s_Hand_page) := ⟨rfl, rfl, rfl, by decide +kernel, rfl, by decide +kernel, by decide +kernel⟩
theorem sc_l_deed13 : FnScope ["_law_hands", "_law_heard", "_law_deeds", "_law_bag", "_law_cell", "_law_size", "_law_who", "_law_other", "_law_more", "_law_good", "_law_many", "_law_found", "_law_kept", "_law_told"] ["_law_hands", "_law_heard", "_law_deeds", "_law_bag", "_law_cell"] (defScope s_l_deed13) := ⟨rfl, rfl, rfl, by decide +kernel, rfl, by decide +kernel, by decide +kernel⟩
theorem sc_law_k13 : FnScope ["_law_script", "_law_size", "_law_hands", "_law_name", "_law_heard", "_law_hand", "_law_deeds", "_law_bag", "_law_k", "_law_due", "_law_deed_here"] ["_law_script"] (defScope s_law_k13) := ⟨rfl, rfl, rfl, by decide +kernel, rfl, by decide +kernel, by decide +kernel⟩
structure Tx (K : PySem.W.Frag) (mg : Str → Option Value) where
  f_is_name : Addr
  fd_is_name : FuncData
  f_Hand_init : Addr
  fd_Hand_init : FuncData
  f_greater : Addr
  fd_greater : FuncData
  f_share_of : Addr
  fd_share_of : FuncData
  f_joined : Addr
  fd_joined : FuncData
  f_is_whole : Addr
  fd_is_whole : FuncData
  f_is_share : Addr
  fd_is_share : FuncData
  f_is_page : Addr
  fd_is_page : FuncData
  f_reaches : Addr
  fd_reaches : FuncData
  f_Hand_trusts : Addr
  fd_Hand_trusts : FuncData
  f_lacking : Addr
  fd_lacking : FuncData
  f_Hand_hear : Addr
  fd_Hand_hear : FuncData
  f_l_cell_at : Addr
  fd_l_cell_at : FuncData
  f_l_name_by12 : Addr
  fd_l_name_by12 : FuncData
  f_l_names12 : Addr
  fd_l_names12 : FuncData
  f_net : Addr
  fd_net : FuncData
  f_total : Addr
  fd_total : FuncData
  f_Hand_told : Addr
  fd_Hand_told : FuncData
  f_l_amount_by : Addr
  fd_l_amount_by : FuncData
  f_l_whole : Addr
  fd_l_whole : FuncData
  f_is_amount : Addr
  fd_is_amount : FuncData
  f_Hand_grown : Addr
  fd_Hand_grown : FuncData
  f_Hand_up : Addr
  fd_Hand_up : FuncData
  f_Hand_down : Addr
  fd_Hand_down : FuncData
  f_l_sum : Addr
  fd_l_sum : FuncData
  f_l_owners : Addr
  fd_l_owners : FuncData
  f_l_hears : Addr
  fd_l_hears : FuncData
  f_Hand_letter : Addr
  fd_Hand_letter : FuncData
  f_l_news : Addr
  fd_l_news : FuncData
  f_Hand_page : Addr
  fd_Hand_page : FuncData
  f_l_deed13 : Addr
  fd_l_deed13 : FuncData
  f_law_k13 : Addr
  fd_law_k13 : FuncData
  k_Forged : Addr
  k_Hand : Addr
  k_NoAmount : Addr
  k_NoName : Addr
  k_NoPage : Addr
  F_is_name : Fun K "is_name" "is_name" s_is_name f_is_name fd_is_name
  b_is_name : Binds K fd_is_name ["thing"] []
  m_is_name : mg "is_name" = some (.ref f_is_name)
  F_Hand_init : Fun K "__init__" "Hand.__init__" s_Hand_init f_Hand_init fd_Hand_init
  b_Hand_init : Binds K fd_Hand_init ["self", "name"] []
  M_Hand : Mk K k_Hand f_Hand_init
  F_greater : Fun K "greater" "greater" s_greater f_greater fd_greater
  b_greater : Binds K fd_greater ["one", "other"] []
  m_greater : mg "greater" = some (.ref f_greater)
  F_share_of : Fun K "share_of" "share_of" s_share_of f_share_of fd_share_of
  b_share_of : Binds K fd_share_of ["page", "name"] []
  m_share_of : mg "share_of" = some (.ref f_share_of)
  F_joined : Fun K "joined" "joined" s_joined f_joined fd_joined
  b_joined : Binds K fd_joined ["one", "other"] []
  m_joined : mg "joined" = some (.ref f_joined)
  F_is_whole : Fun K "is_whole" "is_whole" s_is_whole f_is_whole fd_is_whole
  b_is_whole : Binds K fd_is_whole ["thing"] []
  m_is_whole : mg "is_whole" = some (.ref f_is_whole)
  F_is_share : Fun K "is_share" "is_share" s_is_share f_is_share fd_is_share
  b_is_share : Binds K fd_is_share ["thing"] []
  m_is_share : mg "is_share" = some (.ref f_is_share)
  F_is_page : Fun K "is_page" "is_page" s_is_page f_is_page fd_is_page
  b_is_page : Binds K fd_is_page ["thing"] []
  m_is_page : mg "is_page" = some (.ref f_is_page)
  F_reaches : Fun K "reaches" "reaches" s_reaches f_reaches fd_reaches
  b_reaches : Binds K fd_reaches ["one", "other"] []
  m_reaches : mg "reaches" = some (.ref f_reaches)
  F_Hand_trusts : Fun K "trusts" "Hand.trusts" s_Hand_trusts f_Hand_trusts fd_Hand_trusts
  b_Hand_trusts : Binds K fd_Hand_trusts ["self", "page"] []
  M_Hand_trusts : Meth K k_Hand "trusts" f_Hand_trusts
  F_lacking : Fun K "lacking" "lacking" s_lacking f_lacking fd_lacking
  b_lacking : Binds K fd_lacking ["one", "other"] []
  m_lacking : mg "lacking" = some (.ref f_lacking)
  F_Hand_hear : Fun K "hear" "Hand.hear" s_Hand_hear f_Hand_hear fd_Hand_hear
  b_Hand_hear : Binds K fd_Hand_hear ["self", "page"] []
  M_Hand_hear : Meth K k_Hand "hear" f_Hand_hear
  F_l_cell_at : Fun K "_law_cell_at" "_law_cell_at" s_l_cell_at f_l_cell_at fd_l_cell_at
  b_l_cell_at : Binds K fd_l_cell_at ["_law_script", "_law_k"] []
  m_l_cell_at : mg "_law_cell_at" = some (.ref f_l_cell_at)
  F_l_name_by12 : Fun K "_law_name_by" "_law_name_by" s_l_name_by12 f_l_name_by12 fd_l_name_by12
  b_l_name_by12 : Binds K fd_l_name_by12 ["_law_cell"] []
  m_l_name_by12 : mg "_law_name_by" = some (.ref f_l_name_by12)
  F_l_names12 : Fun K "_law_names" "_law_names" s_l_names12 f_l_names12 fd_l_names12
  b_l_names12 : Binds K fd_l_names12 ["_law_script", "_law_size"] []
  m_l_names12 : mg "_law_names" = some (.ref f_l_names12)
  F_net : Fun K "net" "net" s_net f_net fd_net
  b_net : Binds K fd_net ["share"] []
  m_net : mg "net" = some (.ref f_net)
  F_total : Fun K "total" "total" s_total f_total fd_total
  b_total : Binds K fd_total ["page"] []
  m_total : mg "total" = some (.ref f_total)
  F_Hand_told : Fun K "told" "Hand.told" s_Hand_told f_Hand_told fd_Hand_told
  b_Hand_told : Binds K fd_Hand_told ["self"] []
  M_Hand_told : Meth K k_Hand "told" f_Hand_told
  F_l_amount_by : Fun K "_law_amount_by" "_law_amount_by" s_l_amount_by f_l_amount_by fd_l_amount_by
  b_l_amount_by : Binds K fd_l_amount_by ["_law_cell"] []
  m_l_amount_by : mg "_law_amount_by" = some (.ref f_l_amount_by)
  F_l_whole : Fun K "_law_whole" "_law_whole" s_l_whole f_l_whole fd_l_whole
  b_l_whole : Binds K fd_l_whole ["_law_found"] []
  m_l_whole : mg "_law_whole" = some (.ref f_l_whole)
  F_is_amount : Fun K "is_amount" "is_amount" s_is_amount f_is_amount fd_is_amount
  b_is_amount : Binds K fd_is_amount ["thing"] []
  m_is_amount : mg "is_amount" = some (.ref f_is_amount)
  F_Hand_grown : Fun K "grown" "Hand.grown" s_Hand_grown f_Hand_grown fd_Hand_grown
  b_Hand_grown : Binds K fd_Hand_grown ["self", "many", "place"] []
  M_Hand_grown : Meth K k_Hand "grown" f_Hand_grown
  F_Hand_up : Fun K "up" "Hand.up" s_Hand_up f_Hand_up fd_Hand_up
  b_Hand_up : Binds K fd_Hand_up ["self", "many"] []
  M_Hand_up : Meth K k_Hand "up" f_Hand_up
  F_Hand_down : Fun K "down" "Hand.down" s_Hand_down f_Hand_down fd_Hand_down
  b_Hand_down : Binds K fd_Hand_down ["self", "many"] []
  M_Hand_down : Meth K k_Hand "down" f_Hand_down
  F_l_sum : Fun K "_law_sum" "_law_sum" s_l_sum f_l_sum fd_l_sum
  b_l_sum : Binds K fd_l_sum ["_law_deeds", "_law_heard"] []
  m_l_sum : mg "_law_sum" = some (.ref f_l_sum)
  F_l_owners : Fun K "_law_owners" "_law_owners" s_l_owners f_l_owners fd_l_owners
  b_l_owners : Binds K fd_l_owners ["_law_deeds", "_law_heard", "_law_other"] []
  m_l_owners : mg "_law_owners" = some (.ref f_l_owners)
  F_l_hears : Fun K "_law_hears" "_law_hears" s_l_hears f_l_hears fd_l_hears
  b_l_hears : Binds K fd_l_hears ["_law_hand", "_law_page", "_law_deeds", "_law_heard", "_law_news_here"] []
  m_l_hears : mg "_law_hears" = some (.ref f_l_hears)
  F_Hand_letter : Fun K "letter" "Hand.letter" s_Hand_letter f_Hand_letter fd_Hand_letter
  b_Hand_letter : Binds K fd_Hand_letter ["self", "page"] []
  M_Hand_letter : Meth K k_Hand "letter" f_Hand_letter
  F_l_news : Fun K "_law_news" "_law_news" s_l_news f_l_news fd_l_news
  b_l_news : Binds K fd_l_news ["_law_deeds", "_law_heard", "_law_other"] []
  m_l_news : mg "_law_news" = some (.ref f_l_news)
  F_Hand_page : Fun K "page" "Hand.page" s_Hand_page f_Hand_page fd_Hand_page
  b_Hand_page : Binds K fd_Hand_page ["self"] []
  M_Hand_page : Meth K k_Hand "page" f_Hand_page
  F_l_deed13 : Fun K "_law_deed" "_law_deed" s_l_deed13 f_l_deed13 fd_l_deed13
  b_l_deed13 : Binds K fd_l_deed13 ["_law_hands", "_law_heard", "_law_deeds", "_law_bag", "_law_cell"] []
  m_l_deed13 : mg "_law_deed" = some (.ref f_l_deed13)
  F_law_k13 : Fun K "law" "law" s_law_k13 f_law_k13 fd_law_k13
  b_law_k13 : Binds K fd_law_k13 ["_law_script"] []
  m_law_k13 : mg "law" = some (.ref f_law_k13)
  g_Forged : mg "Forged" = some (.ref k_Forged)
  x_Forged : PySem.W.excIn K k_Forged [.type "ValueError", .type "Exception", .type "BaseException", .type "object"] "ValueError.__new__" = true
  kp_Forged : PySem.W.keepIn K (.ref k_Forged) = true
  be_Forged : PySem.W.subIn K (.ref k_Forged) (.type "BaseException") = some true
  ty_Forged : PySem.W.typeIn K (.ref k_Forged) = some (.type "type")
  hd_Forged : PySem.W.hasDictIn K k_Forged = true
  g_Hand : mg "Hand" = some (.ref k_Hand)
  cl_Hand : Cls K k_Hand
  na_Hand_name : NoAttr K k_Hand "name"
  na_Hand_known : NoAttr K k_Hand "known"
  g_NoAmount : mg "NoAmount" = some (.ref k_NoAmount)
  x_NoAmount : PySem.W.excIn K k_NoAmount [.type "ValueError", .type "Exception", .type "BaseException", .type "object"] "ValueError.__new__" = true
  kp_NoAmount : PySem.W.keepIn K (.ref k_NoAmount) = true
  be_NoAmount : PySem.W.subIn K (.ref k_NoAmount) (.type "BaseException") = some true
  ty_NoAmount : PySem.W.typeIn K (.ref k_NoAmount) = some (.type "type")
  hd_NoAmount : PySem.W.hasDictIn K k_NoAmount = true
  g_NoName : mg "NoName" = some (.ref k_NoName)
  x_NoName : PySem.W.excIn K k_NoName [.type "ValueError", .type "Exception", .type "BaseException", .type "object"] "ValueError.__new__" = true
  kp_NoName : PySem.W.keepIn K (.ref k_NoName) = true
  be_NoName : PySem.W.subIn K (.ref k_NoName) (.type "BaseException") = some true
  ty_NoName : PySem.W.typeIn K (.ref k_NoName) = some (.type "type")
  hd_NoName : PySem.W.hasDictIn K k_NoName = true
  g_NoPage : mg "NoPage" = some (.ref k_NoPage)
  x_NoPage : PySem.W.excIn K k_NoPage [.type "ValueError", .type "Exception", .type "BaseException", .type "object"] "ValueError.__new__" = true
  kp_NoPage : PySem.W.keepIn K (.ref k_NoPage) = true
  be_NoPage : PySem.W.subIn K (.ref k_NoPage) (.type "BaseException") = some true
  ty_NoPage : PySem.W.typeIn K (.ref k_NoPage) = some (.type "type")
  hd_NoPage : PySem.W.hasDictIn K k_NoPage = true
  t_LETTERS : Tok
  c_LETTERS : mg "LETTERS" = some (.str "abcdefghijklmnopqrstuvwxyz" t_LETTERS)
  t_LIMIT : Tok
  c_LIMIT : mg "LIMIT" = some (.int 1000000000000000000000000000000000000000000000000000000000000 t_LIMIT)
  t_LONGEST : Tok
  c_LONGEST : mg "LONGEST" = some (.int 8 t_LONGEST)
  t_MOST : Tok
  c_MOST : mg "MOST" = some (.int 1000000000 t_MOST)
  t_MOST_NAMES : Tok
  c_MOST_NAMES : mg "MOST_NAMES" = some (.int 200 t_MOST_NAMES)
  n_all : mg "all" = none
  n_bool : mg "bool" = none
  n_dict : mg "dict" = none
  n_int : mg "int" = none
  n_isinstance : mg "isinstance" = none
  n_len : mg "len" = none
  n_list : mg "list" = none
  n_max : mg "max" = none
  n_range : mg "range" = none
  n_set : mg "set" = none
  n_sorted : mg "sorted" = none
  n_str : mg "str" = none
  n_sum : mg "sum" = none
  n_tuple : mg "tuple" = none
section
variable {P : Program} {w : World} {K : PySem.W.Frag} {mg : Str → Option Value} {base : Heap}
/-- is_name(x) -/
def sp_is_name (K : PySem.W.Frag) : Sp := fun vs H Q _ => ∃ x : V, vs = [x] ∧ ((∃ z : Str, x = .str z ∧ z.length ≤ 100000 ∧ ∀ H', Ex H H' → Q (.bl (nameB z)) H') ∨ (NoStr K H x ∧ Q (.bl false) H))
theorem ok_is_name (T : Tx K mg) : FnOk P w K mg base CX0 1 T.f_is_name T.fd_is_name ["thing"] (sp_is_name K) := by
  refine T.F_is_name.ok sc_is_name (fun vs H Q E h => ?_) (fun cdv A outer s H vs Q E hr h => ?_)
  · first | (obtain ⟨rfl, _⟩ := h; rfl) | (obtain ⟨_, rfl, _⟩ := h; rfl) | (obtain ⟨_, _, rfl, _⟩ := h; rfl) | (obtain ⟨_, _, _, rfl, _⟩ := h; rfl) | (obtain ⟨_, _, _, _, rfl, _⟩ := h; rfl) | (obtain ⟨_, _, _, _, _, rfl, _⟩ := h; rfl) | (obtain ⟨_, _, _, _, _, _, rfl, _⟩ := h; rfl) | (obtain ⟨_, _, _, _, _, _, _, rfl, _⟩ := h; rfl) | (obtain ⟨_, _, _, _, _, _, _, _, rfl, _⟩ := h; rfl)
  · obtain ⟨x, rfl, k⟩ := h
    rcases k with ⟨z, rfl, hz, k⟩ | ⟨⟨t, h1, h2⟩, k⟩
    · refine ⟨_, (pss_cons (ps_if (PW.pt (pw_or (pt_not (pt_val (pe_callB call_isi (by rfl) T.n_isinstance PyProof.Rows.boot_isinstance (pa_cons (pv 0) (pa_cons (pe_bltn (v := .ty "str") (by rfl) T.n_str PyProof.Rows.boot_str rfl) pa_nil))))) (pw_or1 (pt_not (pt_chain op_le op_le pe_int (pe_callB call_len_str (by rfl) T.n_len PySem.boot_len (pa_cons (pv 0) pa_nil)) (pe_glob (v := .int 8) rfl T.c_LONGEST ⟨_, rfl⟩)))))) (pss_one (ps_ret pe_bl)) pss_nil) (pss_one (ps_ret (pe_callB (cr_all rfl) (by rfl) T.n_all PyProof.Rows.boot_all (pa_cons (pe_lc (own := [("sign", 1)]) (g := gName 1) (tt := tYes) rfl sc_is_name.nd (pi_str (pv 0)) (blkOk_by (own := [("sign", 1)]) (N := ["thing", "sign"]) (sc := defScope s_is_name) (by decide +kernel)) (fun _ _ _ _ _ => pg_name (i := 1) sc_is_name.nd rfl (Or.inl rfl)) (fun _ _ _ _ _ => pts_nil) (fun _ _ _ _ _ => (pe_cmpR op_in_sign (pv 1) (pe_glob (v := .str "abcdefghijklmnopqrstuvwxyz") rfl T.c_LETTERS ⟨_, rfl⟩) (by with_unfolding_all rfl)))) pa_nil))))), ?_⟩
      walk_at "gc"
      refine Gc.le_2 (fun c1 => ?_) (fun c1 => ?_)
      · walk_at "gc"
        refine Gc.leN_2 (fun c2 => ?_) (fun c2 => ?_)
        · walk_at "gc"
          exact Gc.bl_eq (nameB_long z c2).symm (k H (Ex.refl _))
        · walk_at "gc"
          rename_i D hD
          have hsz : z.cps.size ≤ 8 := by have : ((z.cps.size : Nat) : Int) ≤ 8 := c2; omega
          refine Gc.lc_go (walk_str (z := z)) (fun i acc _ => acc = ((z.cps.toList.take i).map fun c => V.bl (decide (c ∈ LET.cps.toList)))) (by omega) hD (fun _ _ => trivial) (fun _ _ _ _ h => h) (fun _ _ => rfl) (fun i x acc H2 Kk Nn hi hy e hD2 p hK hN => ?_) (fun acc H2 e hD2 p => ?_)
          · obtain ⟨c, hc, rfl⟩ := hy
            walk_at "gc"
            refine hK _ _ (Ex.refl _) ?_
            rw [p]
            exact (take_map_succ (f := fun c => V.bl (decide (c ∈ LET.cps.toList))) (by rw [← hc]; simp)).symm
          · have e1 : acc = ((z.cps.toList.map fun c => decide (c ∈ LET.cps.toList)).map V.bl) := by
              rw [p, List.take_of_length_le (by simp), List.map_map]; rfl
            subst e1
            refine ⟨D, _, rfl, Evl.sq_of hD2, ?_⟩
            refine Gc.bl_eq ?_ (k H2 e)
            exact nameB_yes z c1 c2
      · walk_at "gc"
        exact Gc.bl_eq (nameB_short z c1).symm (k H (Ex.refl _))
    · refine ⟨_, (pss_cons (ps_if (PW.pt (pw_or (pt_not (pt_val (pe_callB call_isi (by rfl) T.n_isinstance PyProof.Rows.boot_isinstance (pa_cons (pv 0) (pa_cons (pe_bltn (v := .ty "str") (by rfl) T.n_str PyProof.Rows.boot_str rfl) pa_nil))))) (pw_or1 (pt_not (pt_chain op_le op_le pe_int (pe_callB call_len_str (by rfl) T.n_len PySem.boot_len (pa_cons (pv 0) pa_nil)) (pe_glob (v := .int 8) rfl T.c_LONGEST ⟨_, rfl⟩)))))) (pss_one (ps_ret pe_bl)) pss_nil) (pss_one (ps_ret (pe_callB (cr_all rfl) (by rfl) T.n_all PyProof.Rows.boot_all (pa_cons (pe_lc (own := [("sign", 1)]) (g := gName 1) (tt := tYes) rfl sc_is_name.nd (pi_str (pv 0)) (blkOk_by (own := [("sign", 1)]) (N := ["thing", "sign"]) (sc := defScope s_is_name) (by decide +kernel)) (fun _ _ _ _ _ => pg_name (i := 1) sc_is_name.nd rfl (Or.inl rfl)) (fun _ _ _ _ _ => pts_nil) (fun _ _ _ _ _ => (pe_cmpR op_in_sign (pv 1) (pe_glob (v := .str "abcdefghijklmnopqrstuvwxyz") rfl T.c_LETTERS ⟨_, rfl⟩) (by with_unfolding_all rfl)))) pa_nil))))), ?_⟩
      walk_at "gc"
      exact k
/-- Hand(name) -/
def sp_Hand_init (K : PySem.W.Frag) (C CN : Addr) : Sp := fun vs H Q E => ∃ (x dx : Addr) (nm : V), vs = [.ref x, nm] ∧ H x = some (.ins C dx []) ∧
  ((∃ z : Str, nm = .str z ∧ z.length ≤ 100000 ∧ nameB z = true ∧ ∀ d H', d ≠ x → H d = none → Exs (fun a => a = x) H H' → H' x = some (insH C dx z d) → H' d = some (.dK []) → Q .non H') ∨
   (∃ z : Str, nm = .str z ∧ z.length ≤ 100000 ∧ nameB z = false ∧ ∀ H', Ex H H' → E (.ref CN) none H') ∨ (NoStr K H nm ∧ ∀ H', Ex H H' → E (.ref CN) none H'))
theorem ok_Hand_init (T : Tx K mg) : FnOk P w K mg base (L2N.CX P w) 2 T.f_Hand_init T.fd_Hand_init ["self", "name"] (sp_Hand_init K T.k_Hand T.k_NoName) := by
  refine okN T.F_Hand_init sc_Hand_init (fun vs H Q E h => ?_) (fun cdv A outer s H vs Q E hr h => ?_)
  · first | (obtain ⟨rfl, _⟩ := h; rfl) | (obtain ⟨_, rfl, _⟩ := h; rfl) | (obtain ⟨_, _, rfl, _⟩ := h; rfl) | (obtain ⟨_, _, _, rfl, _⟩ := h; rfl) | (obtain ⟨_, _, _, _, rfl, _⟩ := h; rfl) | (obtain ⟨_, _, _, _, _, rfl, _⟩ := h; rfl) | (obtain ⟨_, _, _, _, _, _, rfl, _⟩ := h; rfl) | (obtain ⟨_, _, _, _, _, _, _, rfl, _⟩ := h; rfl) | (obtain ⟨_, _, _, _, _, _, _, _, rfl, _⟩ := h; rfl)
  · obtain ⟨x, dx, nm, rfl, hx, hc⟩ := h
    refine ⟨_, (pss_cons (ps_if (pt_not (pt_val (pe_call (ok_is_name T) (hr.mono (by decide)) rfl T.m_is_name T.F_is_name.kp T.b_is_name .nil pass0 (pa_cons (pv 1) pa_nil)))) (pss_one (L2N.ps_raise rfl (L2N.takes_of rfl rfl rfl rfl) (L2N.pmk_own PySem.F.excBase_ValueError T.x_NoName T.g_NoName T.kp_NoName (raises_own T.be_NoName T.ty_NoName) rfl))) pss_nil) (pss_cons (ps_fld (pv 0) (pv 1) rfl) (pss_one (ps_fld (pv 0) pe_dnewK rfl)))), ?_⟩
    have cl := T.cl_Hand
    have a1 := T.na_Hand_name
    have a2 := T.na_Hand_known
    rcases hc with ⟨z, rfl, hz, hb, k⟩ | ⟨z, rfl, hz, hb, k⟩ | ⟨hn, k⟩
    · walk_at "gc"
      refine Or.inl ⟨z, rfl, hz, fun H1 e1 => ?_⟩
      rw [hb]
      have hx1 := e1 _ _ hx
      walk_at "gc"
      rename_i d hd H2 e2 f2
      have hdx : d ≠ x := fun q => by rw [q, upd_same] at hd; cases hd
      have hd1 : H1 d = none := by rw [upd_ne hdx] at hd; exact hd
      have hd0 : H d = none := ex_of_none e1 hd1
      refine ⟨e2 _ _ upd_same, cl, a2, by show 1 < 1000; decide, ?_⟩
      exact k d _ hdx hd0 (((Exs.of e1).trans (Exs.upd (S := fun a => a = x) rfl)).trans ((Exs.of e2).trans (Exs.upd rfl))) upd_same (by rw [upd_ne hdx]; exact f2)
    · walk_at "gc"
      refine Or.inl ⟨z, rfl, hz, fun H1 e1 => ?_⟩
      rw [hb]
      walk_at "gc"
      exact k _ e1
    · walk_at "gc"
      refine Or.inr ⟨hn, ?_⟩
      walk_at "gc"
      exact k _ (Ex.refl _)
/-- greater(one, other): the pair of the greater ones, a new tuple -/
def sp_greater (K : PySem.W.Frag) : Sp := fun vs H Q _ => ∃ (t u : Addr) (a b c d : Int), vs = [.ref t, .ref u] ∧ ShAt K H t a b ∧ ShAt K H u c d ∧
  ∀ p H', H p = none → Ex H H' → H' p = some (.tup [.int (gmax a c), .int (gmax b d)]) → Q (.ref p) H'
theorem ok_greater (T : Tx K mg) : FnOk P w K mg base CX0 1 T.f_greater T.fd_greater ["one", "other"] (sp_greater K) := by
  refine T.F_greater.ok sc_greater (fun vs H Q E h => ?_) (fun cdv A outer s H vs Q E hr h => ?_)
  · first | (obtain ⟨rfl, _⟩ := h; rfl) | (obtain ⟨_, rfl, _⟩ := h; rfl) | (obtain ⟨_, _, rfl, _⟩ := h; rfl) | (obtain ⟨_, _, _, rfl, _⟩ := h; rfl) | (obtain ⟨_, _, _, _, rfl, _⟩ := h; rfl) | (obtain ⟨_, _, _, _, _, rfl, _⟩ := h; rfl) | (obtain ⟨_, _, _, _, _, _, rfl, _⟩ := h; rfl) | (obtain ⟨_, _, _, _, _, _, _, rfl, _⟩ := h; rfl) | (obtain ⟨_, _, _, _, _, _, _, _, rfl, _⟩ := h; rfl)
  · obtain ⟨t, u, a, b, c, d, rfl, h1, h2, k⟩ := h
    refine ⟨_, (pss_one (ps_ret (pe_tup (pa_cons (pe_callB (call_max2 rfl) (by rfl) T.n_max PyProof.Rows.boot_max (pa_cons (pe_ix ix_tup (pv 0) pe_int (fun _ _ => rfl)) (pa_cons (pe_ix ix_tup (pv 1) pe_int (fun _ _ => rfl)) pa_nil))) (pa_cons (pe_callB (call_max2 rfl) (by rfl) T.n_max PyProof.Rows.boot_max (pa_cons (pe_ix ix_tup (pv 0) pe_int (fun _ _ => rfl)) (pa_cons (pe_ix ix_tup (pv 1) pe_int (fun _ _ => rfl)) pa_nil))) pa_nil))))), ?_⟩
    walk_at "gc"
    exact k _ _ (by assumption) (by walk_at "gc_ex") (by assumption)
/-- share_of(page, name) -/
def sp_share_of (K : PySem.W.Frag) : Sp := fun vs H Q _ => ∃ (d : Addr) (z : Str) (kvs : List (Key × V)) (ks : List Str) (f : Sh), vs = [.ref d, .str z] ∧ Rd H d (.dK kvs) ∧ PgK K H kvs ks f ∧ ∀ t H', Ex H H' → ShAt K H' t (f z).1 (f z).2 → Q (.ref t) H'
theorem ok_share_of (T : Tx K mg) : FnOk P w K mg base CX0 1 T.f_share_of T.fd_share_of ["page", "name"] (sp_share_of K) := by
  refine T.F_share_of.ok sc_share_of (fun vs H Q E h => ?_) (fun cdv A outer s H vs Q E hr h => ?_)
  · first | (obtain ⟨rfl, _⟩ := h; rfl) | (obtain ⟨_, rfl, _⟩ := h; rfl) | (obtain ⟨_, _, rfl, _⟩ := h; rfl) | (obtain ⟨_, _, _, rfl, _⟩ := h; rfl) | (obtain ⟨_, _, _, _, rfl, _⟩ := h; rfl) | (obtain ⟨_, _, _, _, _, rfl, _⟩ := h; rfl) | (obtain ⟨_, _, _, _, _, _, rfl, _⟩ := h; rfl) | (obtain ⟨_, _, _, _, _, _, _, rfl, _⟩ := h; rfl) | (obtain ⟨_, _, _, _, _, _, _, _, rfl, _⟩ := h; rfl)
  · obtain ⟨d, z, kvs, ks, f, rfl, hd, hp, k⟩ := h
    refine ⟨_, (pss_one (ps_ret (pe_dget2 (hu_of hr) (pv 0) (pv 1) (pe_tup (pa_cons pe_int (pa_cons pe_int pa_nil))) ⟨rfl, rfl, rfl, rfl⟩))), ?_⟩
    walk_at "gc"
    refine ⟨_, Gc.dget_o (.inr z) (by walk_at "gc_at"), ?_⟩
    by_cases c : z ∈ ks
    · obtain ⟨t, ht, hs⟩ := hp.there c
      rw [ht]
      exact k t _ (by walk_at "gc_ex") (by walk_at "gc_at")
    · rw [hp.miss c]
      refine k _ _ (by walk_at "gc_ex") ?_
      rw [hp.out z c]
      walk_at "gc_at"
/-- joined(one, other) -/
def sp_joined (K : PySem.W.Frag) : Sp := fun vs H Q _ => ∃ (d e : Addr) (kvs : List (Key × V)) (ks : List Str) (f : Sh) (kvs2 : List (Key × V)) (ls : List Str) (g : Sh), vs = [.ref d, .ref e] ∧ Rd H d (.dK kvs) ∧ Rd H e (.dK kvs2) ∧ PgK K H kvs ks f ∧ PgK K H kvs2 ls g ∧ ks.length ≤ 1000 ∧ ls.length ≤ 1000 ∧
  ∀ p kvs' ys H', H p = none → Ex H H' → H' p = some (.dK kvs') → PgK K H' kvs' ys (mxF f g) → PyProof.Rows.sortedS ys = true → (∀ z, z ∈ ys ↔ z ∈ ks ∨ z ∈ ls) → Q (.ref p) H'
theorem ok_joined (T : Tx K mg) : FnOk P w K mg base CX0 2 T.f_joined T.fd_joined ["one", "other"] (sp_joined K) := by
  refine T.F_joined.ok sc_joined (fun vs H Q E h => ?_) (fun cdv A outer s H vs Q E hr h => ?_)
  · first | (obtain ⟨rfl, _⟩ := h; rfl) | (obtain ⟨_, rfl, _⟩ := h; rfl) | (obtain ⟨_, _, rfl, _⟩ := h; rfl) | (obtain ⟨_, _, _, rfl, _⟩ := h; rfl) | (obtain ⟨_, _, _, _, rfl, _⟩ := h; rfl) | (obtain ⟨_, _, _, _, _, rfl, _⟩ := h; rfl) | (obtain ⟨_, _, _, _, _, _, rfl, _⟩ := h; rfl) | (obtain ⟨_, _, _, _, _, _, _, rfl, _⟩ := h; rfl) | (obtain ⟨_, _, _, _, _, _, _, _, rfl, _⟩ := h; rfl)
  · obtain ⟨d, e, kvs, ks, f, kvs2, ls, g, rfl, hd, he, hp, hq, h1, h2, k⟩ := h
    refine ⟨_, (pss_cons (ps_set (i := 2) sc_joined.nd rfl (Or.inl rfl) pe_dnewK) (pss_cons (ps_for PassesOwn.never rfl (pi_list (pe_callB (cr_sortedSS rfl) (by rfl) T.n_sorted PyProof.Rows.boot_sorted (pa_cons (pe_callTy (cr_setOfS rfl) (by rfl) T.n_set PyProof.Rows.boot_set (pa_cons (pe_op op_cat (pe_callTy (call_listD rfl) (by rfl) T.n_list PyProof.Rows.boot_list (pa_cons (pv 0) pa_nil)) (pe_callTy (call_listD rfl) (by rfl) T.n_list PyProof.Rows.boot_list (pa_cons (pv 1) pa_nil))) pa_nil)) pa_nil))) (pg_name (i := 3) sc_joined.nd rfl (Or.inl rfl)) (pss_one (ps_dput (hu_of hr) (pv 2) (pv 3) (pe_call (ok_greater T) (hr.mono (by decide)) rfl T.m_greater T.F_greater.kp T.b_greater .nil pass0 (pa_cons (pe_call (ok_share_of T) (hr.mono (by decide)) rfl T.m_share_of T.F_share_of.kp T.b_share_of .nil pass0 (pa_cons (pv 0) (pa_cons (pv 3) pa_nil))) (pa_cons (pe_call (ok_share_of T) (hr.mono (by decide)) rfl T.m_share_of T.F_share_of.kp T.b_share_of .nil pass0 (pa_cons (pv 1) (pa_cons (pv 3) pa_nil))) pa_nil))) rfl))) (pss_one (ps_ret (pv 2))))), ?_⟩
    walk_at "gc"
    refine ⟨Evl.sz_of (by rw [List.length_map, List.length_map, hp.len, hq.len]; omega), ?_⟩
    walk_at "gc"
    rename_i p hp0 H0 e0 f0 l1 hl1 H1 e1 f1 l2 hl2 H2 e2 f2 l3 hl3 H3 e3 f3
    rw [hp.kst, hq.kst, ← List.map_append] at f3
    refine ⟨Evl.sq_of f3, by rw [List.length_append]; omega, ?_⟩
    walk_at "gc"
    rename_i n4 a4 ha4 H4 e4 f4 ys hys hnd hmem y5 hy5 H5 e5 f5
    have hmem2 : ∀ z, z ∈ ys ↔ z ∈ ks ∨ z ∈ ls := fun z => (hmem z).trans (decide_eq_true_iff.trans List.mem_append)
    have hylen : ys.length ≤ 3000 := by
      have : ys.length ≤ (ks ++ ls).length := nd_len hnd fun z hz => List.mem_append.mpr ((hmem2 z).mp hz)
      rw [List.length_append] at this
      omega
    have fp5 : H5 p = some (.dK []) := by walk_at "gc_at"
    have e05 : Ex H H5 := by walk_at "gc_ex"
    clear e0 f0 e1 f1 e2 f2 e3 f3 e4 f4 e5
    refine for_it (walk_list (xs := ys.map V.str)) (fun i σ' H' => Hold (∃ v kvs', σ' = [some (.ref d), some (.ref e), some (.ref p), v] ∧ H' p = some (.dK kvs') ∧ PgK K H' kvs' (ys.take i) (capF (ys.take i) (mxF f g)) ∧ Ex H H' ∧ H' y5 = some (.lst (ys.map V.str)))) ⟨⟨_, _, rfl, fp5, by rw [List.take_zero, capF_nil]; exact PgK.nil, e05, f5⟩⟩ (fun _ _ _ _ hp => by obtain ⟨⟨_, _, _, _, _, _, e⟩⟩ := hp; exact Evl.sq_of e) (fun i x σ' H6 H7 hi hp' hy => ?_) (fun σ' H6 hp' => ?_)
    · obtain ⟨⟨v, kvs', rfl, hpg, hpk, he6, hl6⟩⟩ := hp'
      obtain ⟨rfl, hxi⟩ := hy
      rw [List.getElem?_map] at hxi
      cases hz : ys[i]? with
      | none => rw [hz] at hxi; cases hxi
      | some z =>
        rw [hz] at hxi
        cases hxi
        walk_at "gc"
        rename_i t1 H8 e8 s1 t2 H9 e9 s2 t3 H10 ht3 e10 f10
        have hpg2 : H10 p = some (.dK kvs') := by walk_at "gc_at"
        refine ⟨DPut.k (k := .inr z) hpg2 (Evl.sz_lt (by have := hpk.len; rw [List.length_take] at this; omega)), ?_⟩
        have ht : ShAt K H10 t3 (mxF f g z).1 (mxF f g z).2 := by walk_at "gc_at"
        have q := (hpk.et (by walk_at "gc_et")).put (z := z) ht
        rw [addK_take hnd hz, show ((mxF f g z).1, (mxF f g z).2) = mxF f g z from rfl, capF_take hz] at q
        refine ⟨⟨_, _, rfl, upd_same, q.et (Et.dK hpg2), Ex.mut (by walk_at "gc_ex") hp0, ?_⟩⟩
        rw [upd_ne (fun z => by rw [z, hpg] at hl6; cases hl6)]
        walk_at "gc_at"
    · obtain ⟨⟨v, kvs', rfl, hpg, hpk, he6, hl6⟩⟩ := hp'
      rw [List.length_map, List.take_length, capF_all (fun z hz => mxF_out (hp.out z fun c => hz ((hmem2 z).mpr (.inl c))) (hq.out z fun c => hz ((hmem2 z).mpr (.inr c))))] at hpk
      walk_at "gc"
      exact k p kvs' ys H6 hp0 he6 hpg hpk hys hmem2
/-- is_whole(x) -/
def sp_is_whole (K : PySem.W.Frag) : Sp := fun vs H Q _ => ∃ (x : V) (b : Bool), vs = [x] ∧ WholeJ K H x b ∧ Q (.bl b) H
theorem ok_is_whole (T : Tx K mg) : FnOk P w K mg base CX0 1 T.f_is_whole T.fd_is_whole ["thing"] (sp_is_whole K) := by
  refine T.F_is_whole.ok sc_is_whole (fun vs H Q E h => ?_) (fun cdv A outer s H vs Q E hr h => ?_)
  · first | (obtain ⟨rfl, _⟩ := h; rfl) | (obtain ⟨_, rfl, _⟩ := h; rfl) | (obtain ⟨_, _, rfl, _⟩ := h; rfl) | (obtain ⟨_, _, _, rfl, _⟩ := h; rfl) | (obtain ⟨_, _, _, _, rfl, _⟩ := h; rfl) | (obtain ⟨_, _, _, _, _, rfl, _⟩ := h; rfl) | (obtain ⟨_, _, _, _, _, _, rfl, _⟩ := h; rfl) | (obtain ⟨_, _, _, _, _, _, _, rfl, _⟩ := h; rfl) | (obtain ⟨_, _, _, _, _, _, _, _, rfl, _⟩ := h; rfl)
  · obtain ⟨x, b, rfl, ⟨t, b1, b2, h1, h2, h3, rfl⟩, k⟩ := h
    refine ⟨_, (pss_one (ps_ret (pe_and (pe_callB call_isi (by rfl) T.n_isinstance PyProof.Rows.boot_isinstance (pa_cons (pv 0) (pa_cons (pe_bltn (v := .ty "int") (by rfl) T.n_int PyProof.Rows.boot_int rfl) pa_nil))) (pe_one (pe_not (pe_callB call_isi (by rfl) T.n_isinstance PyProof.Rows.boot_isinstance (pa_cons (pv 0) (pa_cons (pe_bltn (v := .ty "bool") (by rfl) T.n_bool PyProof.Rows.boot_bool rfl) pa_nil)))))))), ?_⟩
    walk_at "gc"
    cases b1 with
    | false => exact iteF k
    | true =>
      walk_at "gc"
      exact k
/-- is_share(v) -/
def sp_is_share (K : PySem.W.Frag) : Sp := fun vs H Q _ => ∃ (v : V) (b : Bool), vs = [v] ∧ ShJ K H v b ∧ Q (.bl b) H
theorem ok_is_share (T : Tx K mg) : FnOk P w K mg base CX0 2 T.f_is_share T.fd_is_share ["thing"] (sp_is_share K) := by
  refine T.F_is_share.ok sc_is_share (fun vs H Q E h => ?_) (fun cdv A outer s H vs Q E hr h => ?_)
  · first | (obtain ⟨rfl, _⟩ := h; rfl) | (obtain ⟨_, rfl, _⟩ := h; rfl) | (obtain ⟨_, _, rfl, _⟩ := h; rfl) | (obtain ⟨_, _, _, rfl, _⟩ := h; rfl) | (obtain ⟨_, _, _, _, rfl, _⟩ := h; rfl) | (obtain ⟨_, _, _, _, _, rfl, _⟩ := h; rfl) | (obtain ⟨_, _, _, _, _, _, rfl, _⟩ := h; rfl) | (obtain ⟨_, _, _, _, _, _, _, rfl, _⟩ := h; rfl) | (obtain ⟨_, _, _, _, _, _, _, _, rfl, _⟩ := h; rfl)
  · obtain ⟨v, b, rfl, hv, k⟩ := h
    refine ⟨_, (pss_cons (ps_if (PW.pt (pw_or (pt_not (pt_val (pe_callB call_isi (by rfl) T.n_isinstance PyProof.Rows.boot_isinstance (pa_cons (pv 0) (pa_cons (pe_bltn (v := .ty "tuple") (by rfl) T.n_tuple PyProof.Rows.boot_tuple rfl) pa_nil))))) (pw_or1 (pt_cmpR op_ne (pe_callB call_len_seq (by rfl) T.n_len PySem.boot_len (pa_cons (pv 0) pa_nil)) pe_int (nomark _))))) (pss_one (ps_ret pe_bl)) pss_nil) (pss_cons (ps_for PassesOwn.never rfl (pi_tup (pv 0)) (pg_name (i := 1) sc_is_share.nd rfl (Or.inl rfl)) (pss_one (ps_if (PW.pt (pw_or (pt_not (pt_val (pe_call (ok_is_whole T) (hr.mono (by decide)) rfl T.m_is_whole T.F_is_whole.kp T.b_is_whole .nil pass0 (pa_cons (pv 1) pa_nil)))) (pw_or1 (pt_not (pt_chain op_le op_lt pe_int (pv 1) (pe_glob (v := .int 1000000000000000000000000000000000000000000000000000000000000) rfl T.c_LIMIT ⟨_, rfl⟩)))))) (pss_one (ps_ret pe_bl)) pss_nil))) (pss_one (ps_ret (pe_cmpR op_gt (pe_op op_add (pe_ix ix_tup (pv 0) pe_int (fun _ _ => rfl)) (pe_ix ix_tup (pv 0) pe_int (fun _ _ => rfl))) pe_int (nomark _)))))), ?_⟩
    cases hv with
    | int i =>
      walk_at "gc"
      exact k
    | oth h kk =>
      walk_at "gc"
      exact k
    | len h n =>
      walk_at "gc"
      refine Gc.neI_t (by omega) ?_
      walk_at "gc"
      exact k
    | @two a x y o p h hx hy =>
      walk_at "gc"
      refine for_it (walk_tup (xs := [x, y])) (fun i σ' H' => Hold (∃ v, σ' = [some (.ref a), v] ∧ H' = H ∧ ∀ j, j < i → [goodN o, goodN p][j]? = some true)) ⟨⟨_, rfl, rfl, fun j hj => absurd hj (Nat.not_lt_zero j)⟩⟩ (fun _ _ _ _ hp => by obtain ⟨⟨_, _, rfl, _⟩⟩ := hp; exact h) (fun i z σ' H1 H2 hi hp hq => ?_) (fun σ' H1 hp => ?_)
      · obtain ⟨⟨v, rfl, rfl, hg⟩⟩ := hp
        obtain ⟨rfl, hz⟩ := hq
        obtain ⟨oz, hn, he, hb⟩ := pair_at hx hy hz
        cases hn with
        | int i' =>
          walk_at "gc"
          refine ⟨WholeJ.int i', ?_⟩
          walk_at "gc"
          have e6 : LIM = 10 ^ 60 := rfl
          refine Gc.le_2 (fun c1 => ?_) (fun c1 => ?_)
          · walk_at "gc"
            refine Gc.ltN_2 (fun c2 => ?_) (fun c2 => ?_)
            · walk_at "gc"
              rw [hb (by show (decide (0 ≤ i') && decide (i' < LIM)) = false; rw [decide_eq_false (p := i' < LIM) (by rw [e6]; omega), Bool.and_false])] at k
              exact k
            · refine ⟨⟨some (.int i'), rfl, rfl, fun j hj => ?_⟩⟩
              by_cases c : j < i
              · exact hg j c
              · rw [show j = i by omega, he]
                exact congrArg some (show (decide (0 ≤ i') && decide (i' < LIM)) = true by rw [decide_eq_true c1, decide_eq_true (p := i' < LIM) (by rw [e6]; omega)]; rfl)
          · walk_at "gc"
            rw [hb (by show (decide (0 ≤ i') && decide (i' < LIM)) = false; rw [decide_eq_false c1, Bool.false_and])] at k
            exact k
        | odd hw =>
          walk_at "gc"
          rw [hb rfl] at k
          exact k
      · obtain ⟨⟨v, rfl, rfl, hg⟩⟩ := hp
        obtain ⟨i', j', rfl, rfl, e⟩ := pair_end (Option.some.inj (hg 0 (by show 0 < 2; decide))) (Option.some.inj (hg 1 (by show 1 < 2; decide)))
        rw [e] at k
        cases hx
        cases hy
        walk_at "gc"
        exact k
/-- is_page(v) -/
def sp_is_page (K : PySem.W.Frag) : Sp := fun vs H Q _ => ∃ v : V, vs = [v] ∧ ((∃ (d : Addr) (kvs : List (Key × V)) (g : Bool), v = .ref d ∧ H d = some (.dK kvs) ∧ PageJ K H kvs g ∧ ∀ H', Ex H H' → Q (.bl g) H') ∨
  ∃ t : String, TyX K H v (.type t) ∧ PySem.W.kitOne K (.type t) (.type "dict") = some false ∧ Q (.bl false) H)
theorem ok_is_page (T : Tx K mg) : FnOk P w K mg base CX0 3 T.f_is_page T.fd_is_page ["thing"] (sp_is_page K) := by
  refine T.F_is_page.ok sc_is_page (fun vs H Q E h => ?_) (fun cdv A outer s H vs Q E hr h => ?_)
  · first | (obtain ⟨rfl, _⟩ := h; rfl) | (obtain ⟨_, rfl, _⟩ := h; rfl) | (obtain ⟨_, _, rfl, _⟩ := h; rfl) | (obtain ⟨_, _, _, rfl, _⟩ := h; rfl) | (obtain ⟨_, _, _, _, rfl, _⟩ := h; rfl) | (obtain ⟨_, _, _, _, _, rfl, _⟩ := h; rfl) | (obtain ⟨_, _, _, _, _, _, rfl, _⟩ := h; rfl) | (obtain ⟨_, _, _, _, _, _, _, rfl, _⟩ := h; rfl) | (obtain ⟨_, _, _, _, _, _, _, _, rfl, _⟩ := h; rfl)
  · obtain ⟨v, rfl, h⟩ := h
    rcases h with ⟨dd, kvs, g, rfl, hd, ⟨hs, h1000, f, hf, rfl⟩, k⟩ | ⟨t, ht, hk, k⟩
    · refine ⟨_, (pss_cons (ps_if (PW.pt (pw_or (pt_not (pt_val (pe_callB call_isi (by rfl) T.n_isinstance PyProof.Rows.boot_isinstance (pa_cons (pv 0) (pa_cons (pe_bltn (v := .ty "dict") (by rfl) T.n_dict PyProof.Rows.boot_dict rfl) pa_nil))))) (pw_or1 (pt_cmpR op_gt (pe_callB call_lenDR (by rfl) T.n_len PySem.boot_len (pa_cons (pv 0) pa_nil)) (pe_glob (v := .int 200) rfl T.c_MOST_NAMES ⟨_, rfl⟩) (nomark _))))) (pss_one (ps_ret pe_bl)) pss_nil) (pss_cons (ps_lock (ps_for PassesOwn.never rfl (pi_keys (pv 0)) (pg_name (i := 1) sc_is_page.nd rfl (Or.inl rfl)) (pss_one (ps_if (PW.pt (pw_or (pt_not (pt_val (pe_call (ok_is_name T) (hr.mono (by decide)) rfl T.m_is_name T.F_is_name.kp T.b_is_name .nil pass0 (pa_cons (pv 1) pa_nil)))) (pw_or1 (pt_not (pt_val (pe_call (ok_is_share T) (hr.mono (by decide)) rfl T.m_is_share T.F_is_share.kp T.b_is_share .nil pass0 (pa_cons (pe_dget (hu_of hr) (pv 0) (pv 1) (fun _ _ => rfl)) pa_nil))))))) (pss_one (ps_ret pe_bl)) pss_nil)))) (pss_one (ps_ret pe_bl)))), ?_⟩
      walk_at "gc"
      refine Gc.lt_2 (fun c1 => ?_) (fun c1 => ?_)
      · walk_at "gc"
        have e : (decide (((kvs.length : Nat) : Int) ≤ 200) && kvs.all fun p => keyB p.1 && f p.1) = false := by rw [decide_eq_false (by omega), Bool.false_and]
        rw [e] at k
        exact k _ (Ex.refl _)
      refine Gc.lock_go hd (fun od H1 h1 er ul oth => ?_)
      walk_at "gc"
      refine Or.inl ⟨kvs, h1, ?_⟩
      refine for_it walk_keys (fun i σ' H' => Hold (∃ v, σ' = [some (.ref dd), v] ∧ Ex H1 H' ∧ ∀ p ∈ kvs.take i, (keyB p.1 && f p.1) = true)) ⟨⟨_, rfl, Ex.refl _, fun p hp => absurd hp (by simp)⟩⟩ (fun _ _ _ _ hp => by obtain ⟨⟨_, _, e, _⟩⟩ := hp; exact e _ _ h1) (fun i x σ' H2 H3 hi hp hy => ?_) (fun σ' H2 hp => ?_)
      · obtain ⟨⟨v, rfl, e2, hg⟩⟩ := hp
        obtain ⟨rfl, key, y, hky, rfl⟩ := hy
        have hmem : (key, y) ∈ kvs := List.mem_of_getElem? hky
        obtain ⟨v2, hv2⟩ := valV_some hmem
        have hbad : (keyB key && f key) = false → (decide (((kvs.length : Nat) : Int) ≤ 200) && kvs.all fun p => keyB p.1 && f p.1) = false := fun q => by
          have : (kvs.all fun p => keyB p.1 && f p.1) = false := List.all_eq_false.mpr ⟨_, hmem, by show ¬ (keyB key && f key) = true; rw [q]; exact Bool.false_ne_true⟩
          rw [this, Bool.and_false]
        cases key with
        | inl n =>
          walk_at "gc"
          refine Or.inr ⟨.int n, ?_⟩
          walk_at "gc"
          rw [hbad rfl] at k
          exact k _ (ul _ (by walk_at "gc_ex"))
        | inr z =>
          walk_at "gc"
          refine Or.inl ⟨z, rfl, hs _ hmem, fun H9 e9 => ?_⟩
          have e19 : Ex H1 H9 := e2.trans e9
          cases hz : nameB z with
          | false =>
            walk_at "gc"
            rw [hbad (by show (nameB z && _) = false; rw [hz, Bool.false_and])] at k
            exact k _ (ul _ (by walk_at "gc_ex"))
          | true =>
            walk_at "gc"
            refine ⟨Gc.dget_k (k := .inr z) (.inr ⟨_, e19 _ _ h1⟩) hv2, ?_⟩
            walk_at "gc"
            refine ⟨(hf _ _ hv2).et (er.et.trans (Et.of e19)), ?_⟩
            cases hz2 : f (.inr z) with
            | false =>
              walk_at "gc"
              rw [hbad (by rw [hz2, Bool.and_false])] at k
              exact k _ (ul _ (by walk_at "gc_ex"))
            | true =>
              walk_at "gc"
              refine ⟨⟨_, rfl, e19, fun p hp => ?_⟩⟩
              rw [List.take_add_one, hky] at hp
              rcases List.mem_append.mp hp with q | q
              · exact hg p q
              · rw [List.mem_singleton.mp q]
                show (nameB z && f (.inr z)) = true
                rw [hz, hz2]
                rfl
      · obtain ⟨⟨v, rfl, e2, hg⟩⟩ := hp
        rw [List.take_length] at hg
        have : (kvs.all fun p => keyB p.1 && f p.1) = true := List.all_eq_true.mpr hg
        rw [this, Bool.and_true, decide_eq_true (by omega)] at k
        walk_at "gc"
        exact k _ (ul _ (by walk_at "gc_ex"))
    · refine ⟨_, (pss_cons (ps_if (PW.pt (pw_or (pt_not (pt_val (pe_callB call_isi (by rfl) T.n_isinstance PyProof.Rows.boot_isinstance (pa_cons (pv 0) (pa_cons (pe_bltn (v := .ty "dict") (by rfl) T.n_dict PyProof.Rows.boot_dict rfl) pa_nil))))) (pw_or1 (pt_cmpR op_gt (pe_callB call_lenDR (by rfl) T.n_len PySem.boot_len (pa_cons (pv 0) pa_nil)) (pe_glob (v := .int 200) rfl T.c_MOST_NAMES ⟨_, rfl⟩) (nomark _))))) (pss_one (ps_ret pe_bl)) pss_nil) (pss_cons (ps_lock (ps_for PassesOwn.never rfl (pi_keys (pv 0)) (pg_name (i := 1) sc_is_page.nd rfl (Or.inl rfl)) (pss_one (ps_if (PW.pt (pw_or (pt_not (pt_val (pe_call (ok_is_name T) (hr.mono (by decide)) rfl T.m_is_name T.F_is_name.kp T.b_is_name .nil pass0 (pa_cons (pv 1) pa_nil)))) (pw_or1 (pt_not (pt_val (pe_call (ok_is_share T) (hr.mono (by decide)) rfl T.m_is_share T.F_is_share.kp T.b_is_share .nil pass0 (pa_cons (pe_dget (hu_of hr) (pv 0) (pv 1) (fun _ _ => rfl)) pa_nil))))))) (pss_one (ps_ret pe_bl)) pss_nil)))) (pss_one (ps_ret pe_bl)))), ?_⟩
      walk_at "gc"
      exact k
/-- reaches((a, b), (c, d)) -/
def sp_reaches (K : PySem.W.Frag) : Sp := fun vs H Q _ => ∃ (t u : Addr) (a b c d : Int), vs = [.ref t, .ref u] ∧ ShAt K H t a b ∧ ShAt K H u c d ∧ Q (.bl (reachB a b c d)) H
theorem ok_reaches (T : Tx K mg) : FnOk P w K mg base CX0 1 T.f_reaches T.fd_reaches ["one", "other"] (sp_reaches K) := by
  refine T.F_reaches.ok sc_reaches (fun vs H Q E h => ?_) (fun cdv A outer s H vs Q E hr h => ?_)
  · first | (obtain ⟨rfl, _⟩ := h; rfl) | (obtain ⟨_, rfl, _⟩ := h; rfl) | (obtain ⟨_, _, rfl, _⟩ := h; rfl) | (obtain ⟨_, _, _, rfl, _⟩ := h; rfl) | (obtain ⟨_, _, _, _, rfl, _⟩ := h; rfl) | (obtain ⟨_, _, _, _, _, rfl, _⟩ := h; rfl) | (obtain ⟨_, _, _, _, _, _, rfl, _⟩ := h; rfl) | (obtain ⟨_, _, _, _, _, _, _, rfl, _⟩ := h; rfl) | (obtain ⟨_, _, _, _, _, _, _, _, rfl, _⟩ := h; rfl)
  · obtain ⟨t, u, a, b, c, d, rfl, h1, h2, k⟩ := h
    refine ⟨_, (pss_one (ps_ret (pe_and (pe_cmpR op_ge (pe_ix ix_tup (pv 0) pe_int (fun _ _ => rfl)) (pe_ix ix_tup (pv 1) pe_int (fun _ _ => rfl)) (nomark _)) (pe_one (pe_cmpR op_ge (pe_ix ix_tup (pv 0) pe_int (fun _ _ => rfl)) (pe_ix ix_tup (pv 1) pe_int (fun _ _ => rfl)) (nomark _)))))), ?_⟩
    walk_at "gc"
    refine Gc.and_ev (decide (d ≤ b)) (fun _ Q' q => by walk_at "gc"; exact q) ?_
    exact k
/-- hand.trusts(page) -/
def sp_trusts (K : PySem.W.Frag) (C : Addr) : Sp := fun vs H Q _ => ∃ (x dx : Addr) (z : Str) (d : Addr) (kvs : List (Key × V)) (ks : List Str) (f : Sh) (e : Addr) (kvs2 : List (Key × V)) (ls : List Str) (g : Sh), vs = [.ref x, .ref e] ∧ H x = some (insH C dx z d) ∧ Rd H d (.dK kvs) ∧ Rd H e (.dK kvs2) ∧ PgK K H kvs ks f ∧ PgK K H kvs2 ls g ∧
  ∀ H', Ex H H' → Q (.bl (rchB f g z)) H'
theorem ok_Hand_trusts (T : Tx K mg) : FnOk P w K mg base CX0 2 T.f_Hand_trusts T.fd_Hand_trusts ["self", "page"] (sp_trusts K T.k_Hand) := by
  refine T.F_Hand_trusts.ok sc_Hand_trusts (fun vs H Q E h => ?_) (fun cdv A outer s H vs Q E hr h => ?_)
  · obtain ⟨_, _, _, _, _, _, _, _, _, _, _, rfl, _⟩ := h; rfl
  · obtain ⟨x, dx, z, d, kvs, ks, f, e, kvs2, ls, g, rfl, hx, hd, he, hp, hq, k⟩ := h
    refine ⟨_, (pss_one (ps_ret (pe_call (ok_reaches T) (hr.mono (by decide)) rfl T.m_reaches T.F_reaches.kp T.b_reaches .nil pass0 (pa_cons (pe_call (ok_share_of T) (hr.mono (by decide)) rfl T.m_share_of T.F_share_of.kp T.b_share_of .nil pass0 (pa_cons (pe_fld (pv 0) rfl) (pa_cons (pe_fld (pv 0) rfl) pa_nil))) (pa_cons (pe_call (ok_share_of T) (hr.mono (by decide)) rfl T.m_share_of T.F_share_of.kp T.b_share_of .nil pass0 (pa_cons (pv 1) (pa_cons (pe_fld (pv 0) rfl) pa_nil))) pa_nil))))), ?_⟩
    have cl := T.cl_Hand
    have a1 := T.na_Hand_name
    have a2 := T.na_Hand_known
    walk_at "gc"
    exact k _ (by walk_at "gc_ex")
/-- lacking(one, other) -/
def sp_lacking (K : PySem.W.Frag) : Sp := fun vs H Q _ => ∃ (d e : Addr) (kvs : List (Key × V)) (ks : List Str) (f : Sh) (kvs2 : List (Key × V)) (ls : List Str) (g : Sh), vs = [.ref d, .ref e] ∧ Rd H d (.dK kvs) ∧ Rd H e (.dK kvs2) ∧ PgK K H kvs ks f ∧ PgK K H kvs2 ls g ∧ ls.length ≤ 1000 ∧
  ∀ p kvs' ms H', H p = none → Ex H H' → H' p = some (.dK kvs') → PgK K H' kvs' ms (lackF f g) → PyProof.Rows.sortedS ms = true → (∀ z, z ∈ ms ↔ z ∈ lackK ls f g) → ms.length ≤ ls.length → Q (.ref p) H'
theorem ok_lacking (T : Tx K mg) : FnOk P w K mg base CX0 2 T.f_lacking T.fd_lacking ["one", "other"] (sp_lacking K) := by
  refine T.F_lacking.ok sc_lacking (fun vs H Q E h => ?_) (fun cdv A outer s H vs Q E hr h => ?_)
  · first | (obtain ⟨rfl, _⟩ := h; rfl) | (obtain ⟨_, rfl, _⟩ := h; rfl) | (obtain ⟨_, _, rfl, _⟩ := h; rfl) | (obtain ⟨_, _, _, rfl, _⟩ := h; rfl) | (obtain ⟨_, _, _, _, rfl, _⟩ := h; rfl) | (obtain ⟨_, _, _, _, _, rfl, _⟩ := h; rfl) | (obtain ⟨_, _, _, _, _, _, rfl, _⟩ := h; rfl) | (obtain ⟨_, _, _, _, _, _, _, rfl, _⟩ := h; rfl) | (obtain ⟨_, _, _, _, _, _, _, _, rfl, _⟩ := h; rfl)
  · obtain ⟨d, e, kvs, ks, f, kvs2, ls, g, rfl, hd, he, hp, hq, hlen, k⟩ := h
    refine ⟨_, (pss_cons (ps_set (i := 2) sc_lacking.nd rfl (Or.inl rfl) pe_dnewK) (pss_cons (ps_for PassesOwn.never rfl (pi_list (pe_callB (cr_sortedDA rfl) (by rfl) T.n_sorted PyProof.Rows.boot_sorted (pa_cons (pv 1) pa_nil))) (pg_name (i := 3) sc_lacking.nd rfl (Or.inl rfl)) (pss_one (ps_if (pt_not (pt_val (pe_call (ok_reaches T) (hr.mono (by decide)) rfl T.m_reaches T.F_reaches.kp T.b_reaches .nil pass0 (pa_cons (pe_call (ok_share_of T) (hr.mono (by decide)) rfl T.m_share_of T.F_share_of.kp T.b_share_of .nil pass0 (pa_cons (pv 0) (pa_cons (pv 3) pa_nil))) (pa_cons (pe_dget (hu_of hr) (pv 1) (pv 3) (fun _ _ => rfl)) pa_nil))))) (pss_one (ps_dput (hu_of hr) (pv 2) (pv 3) (pe_dget (hu_of hr) (pv 1) (pv 3) (fun _ _ => rfl)) rfl)) pss_nil))) (pss_one (ps_ret (pv 2))))), ?_⟩
    have hk2 := hq.keys
    walk_at "gc"
    rename_i p hp0 H1 e1 f1 ys hperm hys l2 hl2 H2 e2 f2
    have hnd : ys.Nodup := hperm.nodup_iff.mpr hq.nd
    have hmem : ∀ z, z ∈ ys ↔ z ∈ ls := fun z => hperm.mem_iff
    have hyl : ys.length = ls.length := hperm.length_eq
    have fp2 : H2 p = some (.dK []) := by walk_at "gc_at"
    have e02 : Ex H H2 := by walk_at "gc_ex"
    have hl2p : l2 ≠ p := fun z => by rw [z, f1] at hl2; cases hl2
    clear e1 f1 e2
    refine for_it (walk_list (xs := ys.map V.str)) (fun i σ' H' => Hold (∃ v kvs', σ' = [some (.ref d), some (.ref e), some (.ref p), v] ∧ H' p = some (.dK kvs') ∧ PgK K H' kvs' (lackK (ys.take i) f g) (lackP (ys.take i) f g) ∧ Ex H H' ∧ H' l2 = some (.lst (ys.map V.str)))) ⟨⟨_, _, rfl, fp2, by rw [List.take_zero, lackP_nil]; exact PgK.nil, e02, f2⟩⟩ (fun _ _ _ _ hp => by obtain ⟨⟨_, _, _, _, _, _, e⟩⟩ := hp; exact Evl.sq_of e) (fun i x σ' H6 H7 hi hp' hy => ?_) (fun σ' H6 hp' => ?_)
    · obtain ⟨⟨v, kvs', rfl, hpg, hpk, he6, hl6⟩⟩ := hp'
      obtain ⟨rfl, hxi⟩ := hy
      rw [List.getElem?_map] at hxi
      cases hz : ys[i]? with
      | none => rw [hz] at hxi; cases hxi
      | some z =>
        rw [hz] at hxi
        cases hxi
        have hzm : z ∈ ls := (hmem z).mp (List.mem_of_getElem? hz)
        obtain ⟨t, ht, hs⟩ := hq.there hzm
        have hs6 := (Et.of he6).tp _ _ hs
        have hd6 := (Er.of he6).rd hd
        have hq6 := (Er.of he6).rd he
        have hp6 := hp.et (Et.of he6)
        clear hd he hp hs
        walk_at "gc"
        rename_i t1 H8 e8 s1
        refine ⟨Gc.dget_k (k := .inr z) ((Er.of e8).rd hq6) ht, ?_⟩
        have hs8 := Er.sqT (Er.of e8) hs6
        have hpg8 := e8 _ _ hpg
        walk_at "gc"
        cases hb : reachB (f z).1 (f z).2 (g z).1 (g z).2 with
        | true =>
          obtain ⟨q1, q2⟩ := lack_yes hz (f := f) (g := g) hb
          walk_at "gc"
          exact ⟨⟨_, _, rfl, hpg8, by rw [q1, q2]; exact hpk.et (Et.of e8), he6.trans e8, e8 _ _ hl6⟩⟩
        | false =>
          obtain ⟨q1, q2⟩ := lack_no hnd hz (f := f) (g := g) hb
          walk_at "gc"
          refine ⟨Gc.dget_k (k := .inr z) ((Er.of e8).rd hq6) ht, ?_⟩
          walk_at "gc"
          refine ⟨DPut.k (k := .inr z) hpg8 (Evl.sz_lt (by have := hpk.len; have := lackK_len (ls := ys.take i) (f := f) (g := g); rw [List.length_take] at this; omega)), ?_⟩
          have q := (hpk.et (Et.of e8)).put (z := z) hs8
          refine ⟨⟨_, _, rfl, upd_same, by rw [q1, q2]; exact q.et (Et.dK hpg8), Ex.mut (he6.trans e8) hp0, ?_⟩⟩
          rw [upd_ne hl2p]
          exact e8 _ _ hl6
    · obtain ⟨⟨v, kvs', rfl, hpg, hpk, he6, hl6⟩⟩ := hp'
      rw [List.length_map, List.take_length, lackP_all (fun z hz => hq.out z fun c => hz ((hmem z).mpr c))] at hpk
      walk_at "gc"
      exact k p kvs' _ H6 hp0 he6 hpg hpk (sorted_filter _ hys) (fun z => mem_lackK.trans ((and_congr_left' (hmem z)).trans mem_lackK.symm)) (Nat.le_trans lackK_len (Nat.le_of_eq hyl))
/-- hand.hear(page) -/
def sp_hear (K : PySem.W.Frag) (C CP CF : Addr) : Sp := fun vs H Q E => ∃ (x dx : Addr) (z : Str) (d : Addr) (kvs : List (Key × V)) (ks : List Str) (f : Sh) (v : V), vs = [.ref x, v] ∧ H x = some (insH C dx z d) ∧ H d = some (.dK kvs) ∧ PgK K H kvs ks f ∧ ks.length ≤ 800 ∧
  ((∃ (e : Addr) (kvs2 : List (Key × V)) (ls : List Str) (g : Sh), v = .ref e ∧ H e = some (.dK kvs2) ∧ PgK K H kvs2 ls g ∧ NN g ∧ NmP ls g ∧ ls.length ≤ 200 ∧
    (rchB f g z = true → ∀ d' kvs' ys H', H d' = none → Exs (fun a => a = x) H H' → H' x = some (insH C dx z d') → H' d' = some (.dK kvs') → PgK K H' kvs' ys (mxF f g) → PyProof.Rows.sortedS ys = true → (∀ w, w ∈ ys ↔ w ∈ ks ∨ w ∈ ls) → Q (.int ((lackK ls f g).length : Nat)) H') ∧
    (rchB f g z = false → ∀ H', Ex H H' → E (.ref CF) none H')) ∨
   (NoPg K H v ∧ ∀ H', Ex H H' → E (.ref CP) none H'))
theorem ok_Hand_hear (T : Tx K mg) : FnOk P w K mg base (L2N.CX P w) 4 T.f_Hand_hear T.fd_Hand_hear ["self", "page"] (sp_hear K T.k_Hand T.k_NoPage T.k_Forged) := by
  refine okN T.F_Hand_hear sc_Hand_hear (fun vs H Q E h => ?_) (fun cdv A outer s H vs Q E hr h => ?_)
  · first | (obtain ⟨rfl, _⟩ := h; rfl) | (obtain ⟨_, rfl, _⟩ := h; rfl) | (obtain ⟨_, _, rfl, _⟩ := h; rfl) | (obtain ⟨_, _, _, rfl, _⟩ := h; rfl) | (obtain ⟨_, _, _, _, rfl, _⟩ := h; rfl) | (obtain ⟨_, _, _, _, _, rfl, _⟩ := h; rfl) | (obtain ⟨_, _, _, _, _, _, rfl, _⟩ := h; rfl) | (obtain ⟨_, _, _, _, _, _, _, rfl, _⟩ := h; rfl) | (obtain ⟨_, _, _, _, _, _, _, _, rfl, _⟩ := h; rfl)
  · obtain ⟨x, dx, z, d, kvs, ks, f, v, rfl, hx, hd, hp, hlen, hc⟩ := h
    refine ⟨_, (pss_cons (ps_if (pt_not (pt_val (pe_call (ok_is_page T) (hr.mono (by decide)) rfl T.m_is_page T.F_is_page.kp T.b_is_page .nil pass0 (pa_cons (pv 1) pa_nil)))) (pss_one (L2N.ps_raise rfl (L2N.takes_of rfl rfl rfl rfl) (L2N.pmk_own PySem.F.excBase_ValueError T.x_NoPage T.g_NoPage T.kp_NoPage (raises_own T.be_NoPage T.ty_NoPage) rfl))) pss_nil) (pss_cons (ps_if (pt_not (pt_val (pe_meth (pv 0) T.cl_Hand T.M_Hand_trusts (ok_Hand_trusts T) (hr.mono (by decide)) T.b_Hand_trusts .nil pass0 (pa_cons (pv 1) pa_nil)))) (pss_one (L2N.ps_raise rfl (L2N.takes_of rfl rfl rfl rfl) (L2N.pmk_own PySem.F.excBase_ValueError T.x_Forged T.g_Forged T.kp_Forged (raises_own T.be_Forged T.ty_Forged) rfl))) pss_nil) (pss_cons (ps_set (i := 2) sc_Hand_hear.nd rfl (Or.inl rfl) (pe_callB call_lenDR (by rfl) T.n_len PySem.boot_len (pa_cons (pe_call (ok_lacking T) (hr.mono (by decide)) rfl T.m_lacking T.F_lacking.kp T.b_lacking .nil pass0 (pa_cons (pe_fld (pv 0) rfl) (pa_cons (pv 1) pa_nil))) pa_nil))) (pss_cons (ps_fld (pv 0) (pe_call (ok_joined T) (hr.mono (by decide)) rfl T.m_joined T.F_joined.kp T.b_joined .nil pass0 (pa_cons (pe_fld (pv 0) rfl) (pa_cons (pv 1) pa_nil))) rfl) (pss_one (ps_ret (pv 2))))))), ?_⟩
    have cl := T.cl_Hand
    have a2 := T.na_Hand_known
    rcases hc with ⟨e, kvs2, ls, g, rfl, he, hq, hn2, hp2, hl2, k1, k2⟩ | ⟨⟨e, kvs2, rfl, he, hj⟩ | ⟨t, ht, hk⟩, k⟩
    · have hj := hq.pageJ hn2 hp2 hl2
      walk_at "gc"
      refine Or.inl ⟨e, kvs2, true, rfl, he, hj, fun H1 e1 => ?_⟩
      clear hj
      walk_at "gc"
      rename_i H2 e2
      have e02 := e1.trans e2
      cases hr : rchB f g z with
      | false =>
        walk_at "gc"
        exact k2 hr _ e02
      | true =>
        have hx2 := e02 _ _ hx
        have hd2 := e02 _ _ hd
        have he2 := e02 _ _ he
        have hpe := hp.et (Et.of e02)
        have hqe := hq.et (Et.of e02)
        clear e1 e2
        walk_at "gc"
        rename_i p3 kv3 ms H3 hp3 e3 r3 q3 s3 m3 l3 d' kv4 ys H4 hd4 e4 r4 p4 s4 m4
        have hlq : kv3.length = (lackK ls f g).length := q3.len.trans (Nat.le_antisymm (nd_len q3.nd (fun w hw => (m3 w).mp hw)) (nd_len (lackK_nd hq.nd) (fun w hw => (m3 w).mpr hw)))
        have hx4 := e4 _ _ (e3 _ _ hx2)
        have hdx : d' ≠ x := fun q => by rw [q, e3 _ _ hx2] at hd4; cases hd4
        have hfin := k1 hr d' kv4 ys (upd H4 x (insH T.k_Hand dx z d')) (ex_of_none (e02.trans e3) hd4) ((Exs.of ((e02.trans e3).trans e4)).trans (Exs.upd (S := fun a => a = x) rfl)) upd_same ((upd_ne hdx).trans r4) (p4.ins hx4) s4 m4
        rw [← hlq] at hfin
        exact hfin
    · walk_at "gc"
      refine Or.inl ⟨e, kvs2, false, rfl, he, hj, fun H1 e1 => ?_⟩
      walk_at "gc"
      exact k _ e1
    · walk_at "gc"
      refine Or.inr ⟨t, ht, hk, ?_⟩
      walk_at "gc"
      exact k _ (Ex.refl _)
/-- cell_at(script, k) -/
def sp_cell_at (K : PySem.W.Frag) : Sp := fun vs H Q _ => ∃ (a : Addr) (ns : List Int) (j : Int), vs = [.ref a, .int j] ∧ SqL K H a (ns.map V.int) ∧ 0 ≤ j ∧ Q (.int (cellI ns j)) H
theorem ok_l_cell_at (T : Tx K mg) : FnOk P w K mg base CX0 1 T.f_l_cell_at T.fd_l_cell_at ["_law_script", "_law_k"] (sp_cell_at K) := by
  refine T.F_l_cell_at.ok sc_l_cell_at (fun vs H Q E h => ?_) (fun cdv A outer s H vs Q E hr h => ?_)
  · first | (obtain ⟨rfl, _⟩ := h; rfl) | (obtain ⟨_, rfl, _⟩ := h; rfl) | (obtain ⟨_, _, rfl, _⟩ := h; rfl) | (obtain ⟨_, _, _, rfl, _⟩ := h; rfl) | (obtain ⟨_, _, _, _, rfl, _⟩ := h; rfl) | (obtain ⟨_, _, _, _, _, rfl, _⟩ := h; rfl) | (obtain ⟨_, _, _, _, _, _, rfl, _⟩ := h; rfl) | (obtain ⟨_, _, _, _, _, _, _, rfl, _⟩ := h; rfl) | (obtain ⟨_, _, _, _, _, _, _, _, rfl, _⟩ := h; rfl)
  · obtain ⟨a, ns, j, rfl, hs, h0, k⟩ := h
    refine ⟨_, (pss_cons (ps_if (pt_cmpR op_lt (pv 1) (pe_callB call_len_seq (by rfl) T.n_len PySem.boot_len (pa_cons (pv 0) pa_nil)) (nomark _)) (pss_one (ps_ret (pe_ix ix_list (pv 0) (pv 1) (fun _ _ => rfl)))) pss_nil) (pss_one (ps_ret pe_int))), ?_⟩
    walk_at "gc"
    rw [List.length_map]
    refine Gc.lt_2 (fun hc => ?_) (fun hc => ?_)
    · have hj : j.toNat < ns.length := by omega
      have ej : j = ((j.toNat : Nat) : Int) := by omega
      refine ⟨_, rfl, _, rfl, _, _, _, _, rfl, rfl, hs, (by rw [ej]; exact atI_nat (by rw [List.getElem?_map, List.getElem?_eq_getElem hj]; rfl)), ?_⟩
      have e : cellI ns j = ns[j.toNat] := by unfold cellI; simp [hj]
      rw [e] at k
      exact k
    · have hj : ns.length ≤ j.toNat := by omega
      have e : cellI ns j = 0 := by unfold cellI; simp [hj]
      rw [e] at k
      exact k
/-- name_by(c): some name -/
def sp_name_by12 : Sp := fun vs H Q _ => ∃ c : Int, vs = [.int c] ∧ ∀ z : Str, nameB z = true → (z.length : Int) = 1 + c % 8 → ∀ H', Ex H H' → Q (.str z) H'
theorem ok_l_name_by12 (T : Tx K mg) : FnOk P w K mg base CX0 1 T.f_l_name_by12 T.fd_l_name_by12 ["_law_cell"] (sp_name_by12) := by
  refine T.F_l_name_by12.ok sc_l_name_by12 (fun vs H Q E h => ?_) (fun cdv A outer s H vs Q E hr h => ?_)
  · first | (obtain ⟨rfl, _⟩ := h; rfl) | (obtain ⟨_, rfl, _⟩ := h; rfl) | (obtain ⟨_, _, rfl, _⟩ := h; rfl) | (obtain ⟨_, _, _, rfl, _⟩ := h; rfl) | (obtain ⟨_, _, _, _, rfl, _⟩ := h; rfl) | (obtain ⟨_, _, _, _, _, rfl, _⟩ := h; rfl) | (obtain ⟨_, _, _, _, _, _, rfl, _⟩ := h; rfl) | (obtain ⟨_, _, _, _, _, _, _, rfl, _⟩ := h; rfl) | (obtain ⟨_, _, _, _, _, _, _, _, rfl, _⟩ := h; rfl)
  · obtain ⟨c, rfl, k⟩ := h
    refine ⟨_, (pss_cons (ps_set (i := 1) sc_l_name_by12.nd rfl (Or.inr rfl) pe_str) (pss_cons (ps_set (i := 2) sc_l_name_by12.nd rfl (Or.inr rfl) (pe_op op_add pe_int (pe_op op_mod (pe_op op_fdiv (pv 0) pe_int) pe_int))) (pss_cons (ps_setLc (i := 3) (own := [("_law_k", 4)]) (g := gName 4) (tt := tYes) rfl sc_l_name_by12.nd rfl rfl (sw_true rfl rfl rfl (by decide +kernel)) (pi_range1 rfl T.n_range (pa_cons (pe_op op_add pe_int (pe_op op_mod (pv 0) pe_int)) pa_nil)) (blkOk_by (own := [("_law_k", 4)]) (N := ["_law_cell", "_law_signs", "_law_step", "_law_word", "_law_k"]) (sc := defScope s_l_name_by12) (by decide +kernel)) (fun _ _ _ _ _ => pg_name (i := 4) sc_l_name_by12.nd rfl (Or.inl rfl)) (fun _ _ _ _ _ => pts_nil) (fun _ _ _ _ _ => (pe_ix ix_str (pv 1) (pe_op op_mod (pe_op op_add (pe_op op_fdiv (pv 0) pe_int) (pe_op op_mul (pv 4) (pv 2))) pe_int) (fun _ _ => rfl)))) (pss_cut (ps_if (pt_cmpR op_eq (pe_op op_mod (pe_op op_fdiv (pv 0) pe_int) pe_int) pe_int (nomark _)) (pss_one (ps_asg (pe_ix ix_str (pv 1) (pe_op op_mod (pe_op op_fdiv (pv 0) pe_int) pe_int) (fun _ _ => rfl)) (pg_sub (pv 3) (pe_op op_mod (pe_op op_fdiv (pv 0) pe_int) (pe_callB call_len_seq (by rfl) T.n_len PySem.boot_len (pa_cons (pv 3) pa_nil))) set_list))) pss_nil) (pss_one (ps_ret (pe_join pe_str (pv 3)))))))), ?_⟩
    have m8 := mod_in (a := c) (b := 8) (by decide)
    walk_at "gc"
    rename_i D hD
    refine Gc.lc_go (walk_range (lo := 0) (n := (1 + c % 8).toNat)) (fun i acc _ => Signs (fun x => x ∈ LET.cps.toList) acc ∧ acc.length = i) (by omega) hD (fun _ _ => trivial) (fun _ _ _ _ h => h) (fun _ _ => ⟨Signs.nil, rfl⟩) (fun i x acc H2 Kk Nn hi hy e hD2 p hK hN => ?_) (fun acc H2 e hD2 p => ?_)
    · have ex : x = .int (0 + (i : Int)) := hy
      subst ex
      have m := mod_in (a := c / 8 + (0 + (i : Int)) * (1 + c / 208 % 25)) (b := 26) (by decide)
      obtain ⟨s, hs, hmem⟩ := atI_in (xs := LET.cps.toList) m.1 m.2
      walk_at "gc"
      exact hK _ _ (Ex.refl _) ⟨p.1.one hmem, by rw [List.length_append, List.length_singleton, p.2]⟩
    refine ⟨fun σ' H' => Hold (∃ xs v1 v2 v3, σ' = [v1, v2, v3, some (.ref D), none] ∧ Signs (fun x => x ∈ LET.cps.toList) xs ∧ xs.length = (1 + c % 8).toNat ∧ H' D = some (.lst xs) ∧ Ex H H'), ?_, fun σ' H' hm => ?_⟩
    · walk_at "gc"
      refine Gc.eqI_2 (fun c1 => ?_) (fun c1 => ?_)
      · have m1 := mod_in (a := c / 83200) (b := 26) (by decide)
        have m2 := mod_in (a := c / 10400) (b := ((acc.length : Nat) : Int)) (by have := p.2; omega)
        obtain ⟨s, hs, hmem⟩ := atI_in (xs := LET.cps.toList) m1.1 m1.2
        have q := ixN_in (n := acc.length) m2.1 m2.2
        walk_at "gc"
        exact ⟨⟨_, _, _, _, rfl, p.1.put hmem _, by rw [List.length_set]; exact p.2, upd_same, Ex.mut e hD⟩⟩
      · exact ⟨⟨_, _, _, _, rfl, p.1, p.2, hD2, e⟩⟩
    obtain ⟨⟨xs, v1, v2, v3, rfl, hS, hl, hx, he⟩⟩ := hm
    obtain ⟨cs, rfl, hc⟩ := hS
    rw [List.length_map, List.length_map] at hl
    have hsz := sg_size cs (by omega)
    walk_at "gc"
    rw [join_sg]
    exact k ⟨cs.toArray⟩ (nameB_sg cs (by omega) (by omega) hc) (by have : (⟨cs.toArray⟩ : Str).length = cs.length := List.size_toArray; omega) _ he
/-- names(script, size): names that differ -/
def sp_names12 (K : PySem.W.Frag) : Sp := fun vs H Q _ => ∃ (a : Addr) (ns : List Int) (s : Int), vs = [.ref a, .int s] ∧ SqL K H a (ns.map V.int) ∧ ns.length ≤ 63 ∧ 0 ≤ s ∧ s ≤ 24 ∧
  ∀ p m n zs H', H p = none → Ex H H' → H' p = some (.lst (zs.map V.str)) → Nms12 (cellI ns 2) m n zs → (zs.length : Int) = s → Q (.ref p) H'
theorem ok_l_names12 (T : Tx K mg) : FnOk P w K mg base CX0 2 T.f_l_names12 T.fd_l_names12 ["_law_script", "_law_size"] (sp_names12 K) := by
  refine T.F_l_names12.ok sc_l_names12 (fun vs H Q E h => ?_) (fun cdv A outer s H vs Q E hr h => ?_)
  · first | (obtain ⟨rfl, _⟩ := h; rfl) | (obtain ⟨_, rfl, _⟩ := h; rfl) | (obtain ⟨_, _, rfl, _⟩ := h; rfl) | (obtain ⟨_, _, _, rfl, _⟩ := h; rfl) | (obtain ⟨_, _, _, _, rfl, _⟩ := h; rfl) | (obtain ⟨_, _, _, _, _, rfl, _⟩ := h; rfl) | (obtain ⟨_, _, _, _, _, _, rfl, _⟩ := h; rfl) | (obtain ⟨_, _, _, _, _, _, _, rfl, _⟩ := h; rfl) | (obtain ⟨_, _, _, _, _, _, _, _, rfl, _⟩ := h; rfl)
  · obtain ⟨a, ns, s, rfl, hs, hl, s0, s1, k⟩ := h
    refine ⟨_, (pss_cons (ps_set (i := 2) sc_l_names12.nd rfl (Or.inl rfl) (pe_call (ok_l_cell_at T) (hr.mono (by decide)) rfl T.m_l_cell_at T.F_l_cell_at.kp T.b_l_cell_at .nil pass0 (pa_cons (pv 0) (pa_cons pe_int pa_nil)))) (pss_cons (ps_set (i := 3) sc_l_names12.nd rfl (Or.inl rfl) pe_str) (pss_cons (ps_set (i := 4) sc_l_names12.nd rfl (Or.inl rfl) (pe_lst pa_nil)) (pss_cons (ps_for PassesOwn.never rfl (pi_range1 rfl T.n_range (pa_cons (pv 1) pa_nil)) (pg_name (i := 5) sc_l_names12.nd rfl (Or.inl rfl)) (pss_cut (ps_set (i := 6) sc_l_names12.nd rfl (Or.inl rfl) (pe_op op_add_str (pe_ix ix_str (pv 3) (pe_op op_mod (pe_op op_add (pe_op op_mul (pv 5) pe_int) (pe_call (ok_l_cell_at T) (hr.mono (by decide)) rfl T.m_l_cell_at T.F_l_cell_at.kp T.b_l_cell_at .nil pass0 (pa_cons (pv 0) (pa_cons pe_int pa_nil)))) pe_int) (fun _ _ => rfl)) (pe_ix ix_str (pv 3) (pe_op op_fdiv (pv 5) pe_int) (fun _ _ => rfl)))) (pss_cut (ps_set (i := 7) sc_l_names12.nd rfl (Or.inl rfl) (pe_slice sl_str (pe_call (ok_l_name_by12 T) (hr.mono (by decide)) rfl T.m_l_name_by12 T.F_l_name_by12.kp T.b_l_name_by12 .nil pass0 (pa_cons (pv 2) pa_nil)) po_none (po_some pe_int))) (pss_cut (ps_set (i := 8) sc_l_names12.nd rfl (Or.inl rfl) (pe_op op_mod (pe_op op_fdiv (pv 2) pe_int) (pe_op op_add (pe_callB call_len_str (by rfl) T.n_len PySem.boot_len (pa_cons (pv 7) pa_nil)) pe_int))) (pss_cut (ps_if (pt_cmpR op_eq (pe_op op_mod (pv 2) pe_int) pe_int (nomark _)) (pss_cut (ps_set (i := 7) sc_l_names12.nd rfl (Or.inl rfl) (pe_slice sl_str (pe_call (ok_l_name_by12 T) (hr.mono (by decide)) rfl T.m_l_name_by12 T.F_l_name_by12.kp T.b_l_name_by12 .nil pass0 (pa_cons (pe_op op_add (pv 2) (pe_op op_mul pe_int (pv 5))) pa_nil)) po_none (po_some pe_int))) (pss_one (ps_set (i := 8) sc_l_names12.nd rfl (Or.inl rfl) pe_int))) pss_nil) (pss_one (ps_expr (pe_bm PySem.F.plainAttrs_list PySem.F.slot_list_append PySem.F.type_list_append mt_append (pv 4) (pa_cons (pe_op op_add_str (pe_op op_add_str (pe_slice sl_str (pv 7) po_none (po_some (pv 8))) (pv 6)) (pe_slice sl_str (pv 7) (po_some (pv 8)) po_none)) pa_nil))))))))) (pss_one (ps_ret (pv 4))))))), ?_⟩
    have hway : (if cellI ns 1 % 2 = 1 then 0 else (cellI ns 1 / 3 % (min 6 (1 + cellI ns 1 % 8) + 1)).toNat) = 0 ∨ ∃ m, (if cellI ns 1 % 2 = 1 then none else some ((min 6 (1 + cellI ns 1 % 8)).toNat + 2)) = some m := by
      by_cases c : cellI ns 1 % 2 = 1
      · left; rw [if_pos c]
      · right; rw [if_neg c]; exact ⟨_, rfl⟩
    walk_at "gc"
    rename_i L hL H1 e1 f1
    refine for_it (walk_range (lo := 0)) (fun i σ' H' => Hold (∃ v5 v6 v7 v8 zs, σ' = [some (.ref a), some (.int s), some (.int (cellI ns 1)), some (.str LET), some (.ref L), v5, v6, v7, v8] ∧ H' L = some (.lst (zs.map V.str)) ∧ Nms12 (cellI ns 2) (if cellI ns 1 % 2 = 1 then 0 else (cellI ns 1 / 3 % (min 6 (1 + cellI ns 1 % 8) + 1)).toNat) (if cellI ns 1 % 2 = 1 then none else some ((min 6 (1 + cellI ns 1 % 8)).toNat + 2)) zs ∧ zs.length = i ∧ Ex H H')) ⟨⟨_, _, _, _, [], rfl, f1, Nms12.nil hway, rfl, e1⟩⟩ (fun _ _ _ _ _ => trivial) (fun i x σ' H2 H3 hi hp' hy => ?_) (fun σ' H2 hp' => ?_)
    · obtain ⟨⟨v5, v6, v7, v8, zs, rfl, hLL, hz, hzl, he⟩⟩ := hp'
      obtain ⟨rfl, rfl⟩ := hy
      have hs3 : SqL K H3 a (ns.map V.int) := (Er.of he).sqL hs
      have m1 := mod_in (a := (0 + (i : Int)) * 17 + cellI ns 2) (b := 26) (by decide)
      obtain ⟨s1', hs1', hm1⟩ := atI_in (xs := LET.cps.toList) m1.1 m1.2
      have hs2' : atI LET.cps.toList ((0 + (i : Int)) / 26) = some 97 := by rw [show (0 + (i : Int)) / 26 = 0 by omega]; exact let_0
      walk_at "gc"
      refine Gc.op_go fun N9 R9 B9 E9 hN9 hR9 => ?_
      walk_at "gc"
      refine hN9 _ _ ?_
      clear hN9 hR9
      refine Gc.op_go fun N9 R9 B9 E9 hN9 hR9 => ?_
      walk_at "gc"
      rename_i w0 hw0 hl0 H4 e4
      refine hN9 _ _ ?_
      clear hN9 hR9
      obtain ⟨b1, b2, b3⟩ := cut6 hw0
      have hl6 : (((cutS w0 none (some 6)).length : Nat) : Int) = min 6 (1 + cellI ns 1 % 8) := by
        have e := cut_len w0 6
        have e' : (cutS w0 none (some 6)).length = min 6 w0.length := e
        omega
      generalize cutS w0 none (some 6) = w at *
      have hLL4 := e4 _ _ hLL
      have hpos : (0 : Int) < ((w.length : Nat) : Int) + 1 := by omega
      have hat := mod_in (a := cellI ns 1 / 3) (b := ((w.length : Nat) : Int) + 1) hpos
      have wsz : w.length ≤ sizeLine := Evl.sz_of (by omega)
      refine Gc.op_go fun N9 R9 B9 E9 hN9 hR9 => ?_
      walk_at "gc"
      refine hN9 _ _ ?_
      clear hN9 hR9
      refine Gc.cut_go (fun σ' H9 => Hold (∃ (w : Str) (q : Nat), σ' = [some (.ref a), some (.int s), some (.int (cellI ns 1)), some (.str LET), some (.ref L), some (.int (0 + (i : Int))), some (.str (⟨#[s1']⟩ ++ ⟨#[97]⟩ : Str)), some (.str w), some (.int q)] ∧ nameB w = true ∧ w.length ≤ 6 ∧ Hold (q ≤ w.length) ∧ q = (if cellI ns 1 % 2 = 1 then 0 else (cellI ns 1 / 3 % (min 6 (1 + cellI ns 1 % 8) + 1)).toNat) ∧ (¬ cellI ns 1 % 2 = 1 → w.length = (min 6 (1 + cellI ns 1 % 8)).toNat) ∧ Ex H4 H9)) (fun R9 B9 E9 => ?_) (fun σ' H9 hm => ?_)
      · walk_at "gc"
        refine Gc.eqI_2 (fun c1 => ?_) (fun c1 => ?_)
        · walk_at "gc"
          refine Gc.op_go fun N9 R9 B9 E9 hN9 hR9 => ?_
          walk_at "gc"
          rename_i u0 hu0 hul H5 e5
          refine hN9 _ _ ?_
          clear hN9 hR9
          obtain ⟨d1, d2, d3⟩ := cut6 hu0
          generalize cutS u0 none (some 6) = u at *
          walk_at "gc"
          exact ⟨⟨u, 0, rfl, d1, d2, ⟨Nat.zero_le _⟩, by rw [if_pos c1], fun q => absurd c1 q, e5⟩⟩
        · refine ⟨⟨w, (cellI ns 1 / 3 % (((w.length : Nat) : Int) + 1)).toNat, ?_, b1, b2, ⟨by omega⟩, by rw [if_neg c1, ← hl6], fun _ => by omega, Ex.refl _⟩⟩
          rw [Int.toNat_of_nonneg hat.1]
          rfl
      obtain ⟨⟨w9, q, rfl, hw9, hl9, ⟨hq⟩, hqe, hwe, e9⟩⟩ := hm
      obtain ⟨m2, m3, m4, m5⟩ := mark_in hm1 hw9 hl9 hq
      have hLL9 := e9 _ _ hLL4
      have z0 : (⟨#[s1']⟩ ++ ⟨#[97]⟩ : Str).length = 2 := rfl
      have q0 := cut_len w9 q
      have y1 : (cutS w9 none (some (q : Int))).length + (⟨#[s1']⟩ ++ ⟨#[97]⟩ : Str).length ≤ sizeLine := Evl.sz_of (by rw [z0]; omega)
      have y2 : (cutS w9 none (some (q : Int)) ++ (⟨#[s1']⟩ ++ ⟨#[97]⟩ : Str)).length + (cutS w9 (some (q : Int)) none).length ≤ sizeLine := Evl.sz_of (by rw [← app_len, m2]; omega)
      have hzl' : (zs.map V.str).length < sizeLine := Evl.sz_lt (by rw [List.length_map]; omega)
      have y0 : w9.length ≤ sizeLine := Evl.sz_of (by omega)
      have y3 : (0 : Int) ≤ (q : Int) := by omega
      clear q0 hq hl9 hat hpos b2 b3
      walk_at "gc"
      rw [Int.zero_add] at hs1'
      refine ⟨⟨_, _, _, _, zs ++ [(cutS w9 none (some (q : Int)) ++ (⟨#[s1']⟩ ++ ⟨#[97]⟩ : Str)) ++ cutS w9 (some (q : Int)) none], rfl, by rw [upd_same, List.map_append]; rfl, hz.snoc ⟨⟨s1', by rw [hzl]; exact hs1', by rw [← hqe]; exact m4, by rw [← hqe]; exact m5⟩, m3, ?_⟩ (fun m hm => ?_), by rw [List.length_append, hzl]; rfl, Ex.mut (he.trans (e4.trans e9)) hL⟩⟩
      · rw [m2]
        have := ((nameB_iff w9).mp hw9).1
        omega
      · by_cases c : cellI ns 1 % 2 = 1
        · rw [if_pos c] at hm; cases hm
        · rw [if_neg c] at hm
          cases hm
          rw [m2, hwe c]
    · obtain ⟨⟨v5, v6, v7, v8, zs, rfl, hLL, hz, hzl, he⟩⟩ := hp'
      walk_at "gc"
      exact k L _ _ zs H2 hL he hLL hz (by omega)
/-- net((a, b)) -/
def sp_net (K : PySem.W.Frag) : Sp := fun vs H Q _ => ∃ (t : Addr) (a b : Int), vs = [.ref t] ∧ ShAt K H t a b ∧ Q (.int (a - b)) H
theorem ok_net (T : Tx K mg) : FnOk P w K mg base CX0 1 T.f_net T.fd_net ["share"] (sp_net K) := by
  refine T.F_net.ok sc_net (fun vs H Q E h => ?_) (fun cdv A outer s H vs Q E hr h => ?_)
  · first | (obtain ⟨rfl, _⟩ := h; rfl) | (obtain ⟨_, rfl, _⟩ := h; rfl) | (obtain ⟨_, _, rfl, _⟩ := h; rfl) | (obtain ⟨_, _, _, rfl, _⟩ := h; rfl) | (obtain ⟨_, _, _, _, rfl, _⟩ := h; rfl) | (obtain ⟨_, _, _, _, _, rfl, _⟩ := h; rfl) | (obtain ⟨_, _, _, _, _, _, rfl, _⟩ := h; rfl) | (obtain ⟨_, _, _, _, _, _, _, rfl, _⟩ := h; rfl) | (obtain ⟨_, _, _, _, _, _, _, _, rfl, _⟩ := h; rfl)
  · obtain ⟨t, a, b, rfl, h1, k⟩ := h
    refine ⟨_, (pss_one (ps_ret (pe_op op_sub (pe_ix ix_tup (pv 0) pe_int (fun _ _ => rfl)) (pe_ix ix_tup (pv 0) pe_int (fun _ _ => rfl))))), ?_⟩
    walk_at "gc"
    exact k
theorem ok_total (T : Tx K mg) : FnOk P w K mg base CX0 2 T.f_total T.fd_total ["page"] (sp_total K) := by
  refine T.F_total.ok sc_total (fun vs H Q E h => ?_) (fun cdv A outer s H vs Q E hr h => ?_)
  · first | (obtain ⟨rfl, _⟩ := h; rfl) | (obtain ⟨_, rfl, _⟩ := h; rfl) | (obtain ⟨_, _, rfl, _⟩ := h; rfl) | (obtain ⟨_, _, _, rfl, _⟩ := h; rfl) | (obtain ⟨_, _, _, _, rfl, _⟩ := h; rfl) | (obtain ⟨_, _, _, _, _, rfl, _⟩ := h; rfl) | (obtain ⟨_, _, _, _, _, _, rfl, _⟩ := h; rfl) | (obtain ⟨_, _, _, _, _, _, _, rfl, _⟩ := h; rfl) | (obtain ⟨_, _, _, _, _, _, _, _, rfl, _⟩ := h; rfl)
  · obtain ⟨d, kvs, ks, f, rfl, hd, hp, hlen, k⟩ := h
    refine ⟨_, (pss_one (ps_ret (pe_callB (cr_sum rfl) (by rfl) T.n_sum PyProof.Rows.boot_sum (pa_cons (pe_lock (pe_lc (own := [("name", 1)]) (g := gName 1) (tt := tYes) rfl sc_total.nd (pi_keys (pv 0)) (blkOk_by (own := [("name", 1)]) (N := ["page", "name"]) (sc := defScope s_total) (by decide +kernel)) (fun _ _ _ _ _ => pg_name (i := 1) sc_total.nd rfl (Or.inl rfl)) (fun _ _ _ _ _ => pts_nil) (fun _ _ _ _ _ => (pe_call (ok_net T) (hr.mono (by decide)) rfl T.m_net T.F_net.kp T.b_net .nil pass0 (pa_cons (pe_dget (hu_of hr) (pv 0) (pv 1) (fun _ _ => rfl)) pa_nil))))) pa_nil)))), ?_⟩
    walk_at "gc"
    refine Gc.lockE_go hd (fun od H1 h1 er ul => ?_)
    walk_at "gc"
    refine Or.inl ⟨kvs, h1, ?_⟩
    walk_at "gc"
    rename_i D hD
    have hkl := hp.len
    refine Gc.lc_go walk_keys (fun i acc _ => acc = (ks.take i).map fun z => V.int ((f z).1 - (f z).2)) (by omega) hD (fun H' e => e _ _ h1) (fun _ _ _ _ h => h) (fun _ _ => rfl) (fun i x acc H2 Kk Nn hi hy e hD2 p hK hN => ?_) (fun acc H2 e hD2 p => ?_)
    · obtain ⟨key, y, hky, rfl⟩ := hy
      obtain ⟨z, rfl, hz, hzm⟩ := hp.key_at hky
      obtain ⟨t, ht, hs⟩ := hp.there hzm
      have e2 : Et K H H2 := er.et.trans (Et.of e)
      have hs2 := e2.tp _ _ hs
      have h12 := e _ _ h1
      walk_at "gc"
      refine ⟨Gc.dget_k (k := .inr z) (.inr ⟨_, h12⟩) ht, ?_⟩
      walk_at "gc"
      refine hK _ _ (Ex.refl _) ?_
      rw [p, take_snoc hz, List.map_append]
      rfl
    · refine ⟨e _ _ h1, ?_⟩
      have hk2 := k _ (ul _ e)
      rw [hkl, List.take_length] at p
      have e3 : acc = (ks.map fun z => (f z).1 - (f z).2).map V.int := by rw [p, List.map_map]; rfl
      subst e3
      have hdd : d ≠ D := fun z => by rw [← z, h1] at hD; cases hD
      refine ⟨D, _, rfl, .inl (.inl (by rw [upd_ne (Ne.symm hdd)]; exact hD2)), hk2⟩
/-- hand.told(): the total -/
def sp_Hand_told (K : PySem.W.Frag) (C : Addr) : Sp := fun vs H Q _ => ∃ (x dx : Addr) (z : Str) (d : Addr) (kvs : List (Key × V)) (ks : List Str) (f : Sh), vs = [.ref x] ∧ H x = some (insH C dx z d) ∧ H d = some (.dK kvs) ∧ PgK K H kvs ks f ∧ ks.length ≤ 1000 ∧ ∀ H', Ex H H' → Q (.int (totF ks f)) H'
theorem ok_Hand_told (T : Tx K mg) : FnOk P w K mg base CX0 3 T.f_Hand_told T.fd_Hand_told ["self"] (sp_Hand_told K T.k_Hand) := by
  refine T.F_Hand_told.ok sc_Hand_told (fun vs H Q E h => ?_) (fun cdv A outer s H vs Q E hr h => ?_)
  · first | (obtain ⟨rfl, _⟩ := h; rfl) | (obtain ⟨_, rfl, _⟩ := h; rfl) | (obtain ⟨_, _, rfl, _⟩ := h; rfl) | (obtain ⟨_, _, _, rfl, _⟩ := h; rfl) | (obtain ⟨_, _, _, _, rfl, _⟩ := h; rfl) | (obtain ⟨_, _, _, _, _, rfl, _⟩ := h; rfl) | (obtain ⟨_, _, _, _, _, _, rfl, _⟩ := h; rfl) | (obtain ⟨_, _, _, _, _, _, _, rfl, _⟩ := h; rfl) | (obtain ⟨_, _, _, _, _, _, _, _, rfl, _⟩ := h; rfl)
  · obtain ⟨x, dx, z, d, kvs, ks, f, rfl, hx, hd, hp, hlen, k⟩ := h
    refine ⟨_, (pss_one (ps_ret (pe_call (ok_total T) (hr.mono (by decide)) rfl T.m_total T.F_total.kp T.b_total .nil pass0 (pa_cons (pe_fld (pv 0) rfl) pa_nil)))), ?_⟩
    have cl := T.cl_Hand
    have a2 := T.na_Hand_known
    walk_at "gc"
    exact k _ (by assumption)
/-- some amount -/
def sp_amount_by : Sp := fun vs H Q _ => ∃ n : Int, vs = [.int n] ∧ ∀ m : Int, 1 ≤ m → m ≤ 1000000000 → Q (.int m) H
theorem ok_l_amount_by (T : Tx K mg) : FnOk P w K mg base CX0 1 T.f_l_amount_by T.fd_l_amount_by ["_law_cell"] (sp_amount_by) := by
  refine T.F_l_amount_by.ok sc_l_amount_by (fun vs H Q E h => ?_) (fun cdv A outer s H vs Q E hr h => ?_)
  · first | (obtain ⟨rfl, _⟩ := h; rfl) | (obtain ⟨_, rfl, _⟩ := h; rfl) | (obtain ⟨_, _, rfl, _⟩ := h; rfl) | (obtain ⟨_, _, _, rfl, _⟩ := h; rfl) | (obtain ⟨_, _, _, _, rfl, _⟩ := h; rfl) | (obtain ⟨_, _, _, _, _, rfl, _⟩ := h; rfl) | (obtain ⟨_, _, _, _, _, _, rfl, _⟩ := h; rfl) | (obtain ⟨_, _, _, _, _, _, _, rfl, _⟩ := h; rfl) | (obtain ⟨_, _, _, _, _, _, _, _, rfl, _⟩ := h; rfl)
  · obtain ⟨n, rfl, k⟩ := h
    refine ⟨_, (pss_cons (ps_if (pt_cmpR op_eq (pe_op op_mod (pv 0) pe_int) pe_int (nomark _)) (pss_one (ps_ret (pe_op op_add pe_int (pe_op op_mod (pe_op op_fdiv (pv 0) pe_int) pe_int)))) pss_nil) (pss_cons (ps_if (pt_cmpR op_eq (pe_op op_mod (pv 0) pe_int) pe_int (nomark _)) (pss_one (ps_ret (pe_op op_sub pe_int (pe_op op_mod (pe_op op_fdiv (pv 0) pe_int) pe_int)))) pss_nil) (pss_one (ps_ret (pe_op op_add pe_int (pe_op op_mod (pe_op op_fdiv (pv 0) pe_int) pe_int)))))), ?_⟩
    have m4 := mod_in (a := n / 3) (b := 4) (by decide)
    have mb := mod_in (a := n / 3) (b := 1000000000) (by decide)
    walk_at "gc"
    refine Gc.eqI_2 (fun c1 => ?_) (fun c1 => ?_)
    · walk_at "gc"
      exact k _ (by omega) (by omega)
    walk_at "gc"
    refine Gc.eqI_2 (fun c1 => ?_) (fun c1 => ?_)
    · walk_at "gc"
      exact k _ (by omega) (by omega)
    walk_at "gc"
    exact k _ (by omega) (by omega)
/-- whole(i), i a whole number -/
def sp_whole : Sp := fun vs H Q _ => ∃ i : Int, vs = [.int i] ∧ Q (.bl true) H
theorem ok_l_whole (T : Tx K mg) : FnOk P w K mg base CX0 1 T.f_l_whole T.fd_l_whole ["_law_found"] (sp_whole) := by
  refine T.F_l_whole.ok sc_l_whole (fun vs H Q E h => ?_) (fun cdv A outer s H vs Q E hr h => ?_)
  · first | (obtain ⟨rfl, _⟩ := h; rfl) | (obtain ⟨_, rfl, _⟩ := h; rfl) | (obtain ⟨_, _, rfl, _⟩ := h; rfl) | (obtain ⟨_, _, _, rfl, _⟩ := h; rfl) | (obtain ⟨_, _, _, _, rfl, _⟩ := h; rfl) | (obtain ⟨_, _, _, _, _, rfl, _⟩ := h; rfl) | (obtain ⟨_, _, _, _, _, _, rfl, _⟩ := h; rfl) | (obtain ⟨_, _, _, _, _, _, _, rfl, _⟩ := h; rfl) | (obtain ⟨_, _, _, _, _, _, _, _, rfl, _⟩ := h; rfl)
  · obtain ⟨i, rfl, k⟩ := h
    refine ⟨_, (pss_one (ps_ret (pe_and (pe_callB call_isi (by rfl) T.n_isinstance PyProof.Rows.boot_isinstance (pa_cons (pv 0) (pa_cons (pe_bltn (v := .ty "int") (by rfl) T.n_int PyProof.Rows.boot_int rfl) pa_nil))) (pe_one (pe_not (pe_callB call_isi (by rfl) T.n_isinstance PyProof.Rows.boot_isinstance (pa_cons (pv 0) (pa_cons (pe_bltn (v := .ty "bool") (by rfl) T.n_bool PyProof.Rows.boot_bool rfl) pa_nil)))))))), ?_⟩
    walk_at "gc"
    exact k
/-- is_amount(x) -/
def sp_is_amount (K : PySem.W.Frag) : Sp := fun vs H Q _ => ∃ x : V, vs = [x] ∧ ((∃ i : Int, x = .int i ∧ Q (.bl (amountB i)) H) ∨ (WholeJ K H x false ∧ Q (.bl false) H))
theorem ok_is_amount (T : Tx K mg) : FnOk P w K mg base CX0 2 T.f_is_amount T.fd_is_amount ["thing"] (sp_is_amount K) := by
  refine T.F_is_amount.ok sc_is_amount (fun vs H Q E h => ?_) (fun cdv A outer s H vs Q E hr h => ?_)
  · first | (obtain ⟨rfl, _⟩ := h; rfl) | (obtain ⟨_, rfl, _⟩ := h; rfl) | (obtain ⟨_, _, rfl, _⟩ := h; rfl) | (obtain ⟨_, _, _, rfl, _⟩ := h; rfl) | (obtain ⟨_, _, _, _, rfl, _⟩ := h; rfl) | (obtain ⟨_, _, _, _, _, rfl, _⟩ := h; rfl) | (obtain ⟨_, _, _, _, _, _, rfl, _⟩ := h; rfl) | (obtain ⟨_, _, _, _, _, _, _, rfl, _⟩ := h; rfl) | (obtain ⟨_, _, _, _, _, _, _, _, rfl, _⟩ := h; rfl)
  · obtain ⟨x, rfl, k⟩ := h
    rcases k with ⟨i, rfl, k⟩ | ⟨hw, k⟩
    · refine ⟨_, (pss_one (ps_ret (pe_and (pe_call (ok_is_whole T) (hr.mono (by decide)) rfl T.m_is_whole T.F_is_whole.kp T.b_is_whole .nil pass0 (pa_cons (pv 0) pa_nil)) (pe_one (pe_chain op_le op_le pe_int (pv 0) (pe_glob (v := .int 1000000000) rfl T.c_MOST ⟨_, rfl⟩)))))), ?_⟩
      walk_at "gc"
      refine ⟨WholeJ.int i, ?_⟩
      walk_at "gc"
      refine Gc.le_2 (fun c1 => ?_) (fun c1 => ?_)
      · walk_at "gc"
        exact Gc.bl_eq (by rw [amountB, decide_eq_true c1]; rfl) k
      · exact Gc.bl_eq (by rw [amountB, decide_eq_false c1]; rfl) k
    · refine ⟨_, (pss_one (ps_ret (pe_and (pe_call (ok_is_whole T) (hr.mono (by decide)) rfl T.m_is_whole T.F_is_whole.kp T.b_is_whole .nil pass0 (pa_cons (pv 0) pa_nil)) (pe_one (pe_chain op_le op_le pe_int (pv 0) (pe_glob (v := .int 1000000000) rfl T.c_MOST ⟨_, rfl⟩)))))), ?_⟩
      walk_at "gc"
      exact k
/-- hand.grown(many, place) -/
def sp_grown (K : PySem.W.Frag) (C CA : Addr) : Sp := fun vs H Q E => ∃ (x dx : Addr) (z : Str) (d : Addr) (kvs : List (Key × V)) (ks : List Str) (f : Sh) (p : Int) (mv : V), vs = [.ref x, mv, .int p] ∧ (p = 0 ∨ p = 1) ∧ H x = some (insH C dx z d) ∧ H d = some (.dK kvs) ∧ PgK K H kvs ks f ∧ NN f ∧ ks.length ≤ 900 ∧
  ((∃ m : Int, mv = .int m ∧ amountB m = true ∧ ∀ d' kvs' ys H', H d' = none → Exs (fun a => a = x) H H' → H' x = some (insH C dx z d') → H' d' = some (.dK kvs') → PgK K H' kvs' ys (setF f z (addAt p (f z) m)) → PyProof.Rows.sortedS ys = true → (∀ w, w ∈ ys ↔ w ∈ ks ∨ w = z) → Q (.int (totF ys (setF f z (addAt p (f z) m)))) H') ∨
   (∃ m : Int, mv = .int m ∧ amountB m = false ∧ ∀ H', Ex H H' → E (.ref CA) none H') ∨ (WholeJ K H mv false ∧ ∀ H', Ex H H' → E (.ref CA) none H'))
theorem ok_Hand_grown (T : Tx K mg) : FnOk P w K mg base (L2N.CX P w) 3 T.f_Hand_grown T.fd_Hand_grown ["self", "many", "place"] (sp_grown K T.k_Hand T.k_NoAmount) := by
  refine okN T.F_Hand_grown sc_Hand_grown (fun vs H Q E h => ?_) (fun cdv A outer s H vs Q E hr h => ?_)
  · obtain ⟨_, _, _, _, _, _, _, _, _, rfl, _⟩ := h; rfl
  · obtain ⟨x, dx, z, d, kvs, ks, f, p, mv, rfl, hp01, hx, hd, hp, hnn, hlen, hc⟩ := h
    refine ⟨_, (pss_cons (ps_if (pt_not (pt_val (pe_call (ok_is_amount T) (hr.mono (by decide)) rfl T.m_is_amount T.F_is_amount.kp T.b_is_amount .nil pass0 (pa_cons (pv 1) pa_nil)))) (pss_one (L2N.ps_raise rfl (L2N.takes_of rfl rfl rfl rfl) (L2N.pmk_own PySem.F.excBase_ValueError T.x_NoAmount T.g_NoAmount T.kp_NoAmount (raises_own T.be_NoAmount T.ty_NoAmount) rfl))) pss_nil) (pss_cut (ps_set (i := 3) sc_Hand_grown.nd rfl (Or.inl rfl) (pe_callTy call_list_of (by rfl) T.n_list PyProof.Rows.boot_list (pa_cons (pe_call (ok_share_of T) (hr.mono (by decide)) rfl T.m_share_of T.F_share_of.kp T.b_share_of .nil pass0 (pa_cons (pe_fld (pv 0) rfl) (pa_cons (pe_fld (pv 0) rfl) pa_nil))) pa_nil))) (pss_cut (ps_asg (pe_op op_add (pe_ix ix_list (pv 3) (pv 2) (fun _ _ => rfl)) (pv 1)) (pg_sub (pv 3) (pv 2) set_list)) (pss_cons (ps_fld (pv 0) (pe_call (ok_joined T) (hr.mono (by decide)) rfl T.m_joined T.F_joined.kp T.b_joined .nil pass0 (pa_cons (pe_fld (pv 0) rfl) (pa_cons (pe_disp (pps_cons (pe_fld (pv 0) rfl) (pe_callTy call_tuple_of (by rfl) T.n_tuple PyProof.Rows.boot_tuple (pa_cons (pv 3) pa_nil)) pps_nil) (by rfl) (by rfl) (fun z => by cases z) (by decide)) pa_nil))) rfl) (pss_one (ps_ret (pe_call (ok_total T) (hr.mono (by decide)) rfl T.m_total T.F_total.kp T.b_total .nil pass0 (pa_cons (pe_fld (pv 0) rfl) pa_nil)))))))), ?_⟩
    have cl := T.cl_Hand
    have a1 := T.na_Hand_name
    have a2 := T.na_Hand_known
    rcases hc with ⟨m, rfl, hm, k⟩ | ⟨m, rfl, hm, k⟩ | ⟨hm, k⟩
    · walk_at "gc"
      refine Or.inl ⟨m, rfl, ?_⟩
      rw [hm]
      walk_at "gc"
      refine Gc.op_go fun N9 R9 B9 E9 hN9 hR9 => ?_
      walk_at "gc"
      rename_i t H1 e1 s1 l hl H2 e2 f2
      refine hN9 _ _ ?_
      clear hN9 hR9
      have hl0 : H l = none := ex_of_none e1 hl
      have e02 := e1.trans e2
      have hlx : x ≠ l := fun q => by rw [← q, hx] at hl0; cases hl0
      clear s1 e1 e2
      refine Gc.cut_go (fun σ' H3 => Hold (σ' = [some (.ref x), some (.int m), some (.int p), some (.ref l)] ∧ Ex H H3 ∧ H3 l = some (.lst [.int (addAt p (f z) m).1, .int (addAt p (f z) m).2]))) (fun R9 B9 E9 => ?_) (fun σ' H3 hm' => ?_)
      · rcases hp01 with rfl | rfl
        · walk_at "gc"
          exact ⟨⟨rfl, Ex.mut e02 hl0, upd_same⟩⟩
        · walk_at "gc"
          exact ⟨⟨rfl, Ex.mut e02 hl0, upd_same⟩⟩
      clear f2 e02
      obtain ⟨⟨rfl, e03, f3⟩⟩ := hm'
      have hx3 := e03 _ _ hx
      have hd3 := e03 _ _ hd
      have hp3 := hp.et (Et.of e03)
      walk_at "gc"
      rename_i p0 hp0 H4 e4 f4
      refine Or.inl ⟨by walk_at "gc_at", ?_⟩
      walk_at "gc"
      rename_i t5 ht5 H5 e5 f5
      refine ⟨[(.inr z, .ref t5)], rfl, by show 1 ≤ 15; decide, ?_⟩
      have f6 : upd H5 p0 (.dK (mergeK [] [((.inr z : Key), V.ref t5)])) p0 = some (.dK [(.inr z, .ref t5)]) := upd_same
      have e06 : Ex H (upd H5 p0 (.dK (mergeK [] [((.inr z : Key), V.ref t5)]))) := Ex.mut ((e03.trans e4).trans e5) (ex_of_none e03 hp0)
      have s6 : ShAt K (upd H5 p0 (.dK (mergeK [] [((.inr z : Key), V.ref t5)]))) t5 (addAt p (f z) m).1 (addAt p (f z) m).2 := (Et.dK (e5 _ _ f4)).tp _ _ (Evl.st_of f5)
      generalize upd H5 p0 (.dK (mergeK [] [((.inr z : Key), V.ref t5)])) = H6 at *
      have q6 := PgK.one (z := z) (s := addAt p (f z) m) s6
      clear f4 f5 e4 e5 f3 s6 hx3 hd3 hp3 e03 hp0 ht5
      have hx6 := e06 _ _ hx
      have hd6 := e06 _ _ hd
      have hp6 := hp.et (Et.of e06)
      have hge := addAt_ge (p := p) (s := f z) (m := m) (by have := amount_pos hm; omega)
      have hz1 : [z].length ≤ 1000 := by show 1 ≤ 1000; decide
      walk_at "gc"
      rename_i d' kvs' ys H7 hd7 e7 r7 p7 s7 m7
      have hdx : d' ≠ x := fun q => by rw [q, hx6] at hd7; cases hd7
      rw [mxF_one hnn hge.1 hge.2] at p7
      have hx7 := e7 _ _ hx6
      have hyl : ys.length ≤ 1000 := by
        have := nd_len p7.nd (m := ks ++ [z]) (fun w hw => List.mem_append.mpr ((m7 w).mp hw))
        rw [List.length_append] at this
        have e1 : [z].length = 1 := rfl
        omega
      refine ⟨(upd_ne hdx).trans r7, p7.ins hx7, hyl, fun H8 e8 => ?_⟩
      exact k d' kvs' ys H8 (ex_of_none e06 hd7) (((Exs.of (e06.trans e7)).trans (Exs.upd (S := fun a => a = x) rfl)).trans (Exs.of e8)) (e8 _ _ upd_same) (e8 _ _ ((upd_ne hdx).trans r7)) ((p7.ins hx7).et (Et.of e8)) s7 (fun w => (m7 w).trans (by simp))
    · walk_at "gc"
      refine Or.inl ⟨m, rfl, ?_⟩
      rw [hm]
      walk_at "gc"
      exact k _ (Ex.refl _)
    · walk_at "gc"
      refine Or.inr ⟨hm, ?_⟩
      walk_at "gc"
      exact k _ (Ex.refl _)
/-- hand.up(many), hand.down(many) -/
def sp_up (K : PySem.W.Frag) (C CA : Addr) : Sp := fun vs H Q E => ∃ (x dx : Addr) (z : Str) (d : Addr) (kvs : List (Key × V)) (ks : List Str) (f : Sh) (mv : V), vs = [.ref x, mv] ∧ H x = some (insH C dx z d) ∧ H d = some (.dK kvs) ∧ PgK K H kvs ks f ∧ NN f ∧ ks.length ≤ 900 ∧
  ((∃ m : Int, mv = .int m ∧ amountB m = true ∧ ∀ d' kvs' ys H', H d' = none → Exs (fun a => a = x) H H' → H' x = some (insH C dx z d') → H' d' = some (.dK kvs') → PgK K H' kvs' ys (setF f z (addAt 0 (f z) m)) → PyProof.Rows.sortedS ys = true → (∀ w, w ∈ ys ↔ w ∈ ks ∨ w = z) → Q (.int (totF ys (setF f z (addAt 0 (f z) m)))) H') ∨
   (∃ m : Int, mv = .int m ∧ amountB m = false ∧ ∀ H', Ex H H' → E (.ref CA) none H') ∨ (WholeJ K H mv false ∧ ∀ H', Ex H H' → E (.ref CA) none H'))
theorem ok_Hand_up (T : Tx K mg) : FnOk P w K mg base (L2N.CX P w) 4 T.f_Hand_up T.fd_Hand_up ["self", "many"] (sp_up K T.k_Hand T.k_NoAmount) := by
  refine okN T.F_Hand_up sc_Hand_up (fun vs H Q E h => ?_) (fun cdv A outer s H vs Q E hr h => ?_)
  · first | (obtain ⟨rfl, _⟩ := h; rfl) | (obtain ⟨_, rfl, _⟩ := h; rfl) | (obtain ⟨_, _, rfl, _⟩ := h; rfl) | (obtain ⟨_, _, _, rfl, _⟩ := h; rfl) | (obtain ⟨_, _, _, _, rfl, _⟩ := h; rfl) | (obtain ⟨_, _, _, _, _, rfl, _⟩ := h; rfl) | (obtain ⟨_, _, _, _, _, _, rfl, _⟩ := h; rfl) | (obtain ⟨_, _, _, _, _, _, _, rfl, _⟩ := h; rfl) | (obtain ⟨_, _, _, _, _, _, _, _, rfl, _⟩ := h; rfl)
  · obtain ⟨x, dx, z, d, kvs, ks, f, mv, rfl, hx, hd, hp, hnn, hlen, hc⟩ := h
    refine ⟨_, (pss_one (ps_ret (pe_meth (pv 0) T.cl_Hand T.M_Hand_grown (ok_Hand_grown T) (hr.mono (by decide)) T.b_Hand_grown .nil (L2N.passes_call (L2N.takes_of rfl rfl rfl rfl) (fun _ _ _ _ h => h)) (pa_cons (pv 1) (pa_cons pe_int pa_nil))))), ?_⟩
    walk_at "gc"
    exact hc
/-- hand.up(many), hand.down(many) -/
def sp_down (K : PySem.W.Frag) (C CA : Addr) : Sp := fun vs H Q E => ∃ (x dx : Addr) (z : Str) (d : Addr) (kvs : List (Key × V)) (ks : List Str) (f : Sh) (mv : V), vs = [.ref x, mv] ∧ H x = some (insH C dx z d) ∧ H d = some (.dK kvs) ∧ PgK K H kvs ks f ∧ NN f ∧ ks.length ≤ 900 ∧
  ((∃ m : Int, mv = .int m ∧ amountB m = true ∧ ∀ d' kvs' ys H', H d' = none → Exs (fun a => a = x) H H' → H' x = some (insH C dx z d') → H' d' = some (.dK kvs') → PgK K H' kvs' ys (setF f z (addAt 1 (f z) m)) → PyProof.Rows.sortedS ys = true → (∀ w, w ∈ ys ↔ w ∈ ks ∨ w = z) → Q (.int (totF ys (setF f z (addAt 1 (f z) m)))) H') ∨
   (∃ m : Int, mv = .int m ∧ amountB m = false ∧ ∀ H', Ex H H' → E (.ref CA) none H') ∨ (WholeJ K H mv false ∧ ∀ H', Ex H H' → E (.ref CA) none H'))
theorem ok_Hand_down (T : Tx K mg) : FnOk P w K mg base (L2N.CX P w) 4 T.f_Hand_down T.fd_Hand_down ["self", "many"] (sp_down K T.k_Hand T.k_NoAmount) := by
  refine okN T.F_Hand_down sc_Hand_down (fun vs H Q E h => ?_) (fun cdv A outer s H vs Q E hr h => ?_)
  · first | (obtain ⟨rfl, _⟩ := h; rfl) | (obtain ⟨_, rfl, _⟩ := h; rfl) | (obtain ⟨_, _, rfl, _⟩ := h; rfl) | (obtain ⟨_, _, _, rfl, _⟩ := h; rfl) | (obtain ⟨_, _, _, _, rfl, _⟩ := h; rfl) | (obtain ⟨_, _, _, _, _, rfl, _⟩ := h; rfl) | (obtain ⟨_, _, _, _, _, _, rfl, _⟩ := h; rfl) | (obtain ⟨_, _, _, _, _, _, _, rfl, _⟩ := h; rfl) | (obtain ⟨_, _, _, _, _, _, _, _, rfl, _⟩ := h; rfl)
  · obtain ⟨x, dx, z, d, kvs, ks, f, mv, rfl, hx, hd, hp, hnn, hlen, hc⟩ := h
    refine ⟨_, (pss_one (ps_ret (pe_meth (pv 0) T.cl_Hand T.M_Hand_grown (ok_Hand_grown T) (hr.mono (by decide)) T.b_Hand_grown .nil (L2N.passes_call (L2N.takes_of rfl rfl rfl rfl) (fun _ _ _ _ h => h)) (pa_cons (pv 1) (pa_cons pe_int pa_nil))))), ?_⟩
    walk_at "gc"
    exact hc
/-- the sum of the deeds heard of -/
def sp_l_sum (K : PySem.W.Frag) : Sp := fun vs H Q _ => ∃ (L d : Addr) (ds : List (Nat × Int)) (hs : List Nat), vs = [.ref L, .ref d] ∧ DLs K H L ds ∧ H d = some (.dK (rowsN hs)) ∧ (∀ k ∈ hs, k < ds.length) ∧ ∀ H', Ex H H' → Q (.int (sumH ds hs)) H'
theorem ok_l_sum (T : Tx K mg) : FnOk P w K mg base CX0 1 T.f_l_sum T.fd_l_sum ["_law_deeds", "_law_heard"] (sp_l_sum K) := by
  refine T.F_l_sum.ok sc_l_sum (fun vs H Q E h => ?_) (fun cdv A outer s H vs Q E hr h => ?_)
  · first | (obtain ⟨rfl, _⟩ := h; rfl) | (obtain ⟨_, rfl, _⟩ := h; rfl) | (obtain ⟨_, _, rfl, _⟩ := h; rfl) | (obtain ⟨_, _, _, rfl, _⟩ := h; rfl) | (obtain ⟨_, _, _, _, rfl, _⟩ := h; rfl) | (obtain ⟨_, _, _, _, _, rfl, _⟩ := h; rfl) | (obtain ⟨_, _, _, _, _, _, rfl, _⟩ := h; rfl) | (obtain ⟨_, _, _, _, _, _, _, rfl, _⟩ := h; rfl) | (obtain ⟨_, _, _, _, _, _, _, _, rfl, _⟩ := h; rfl)
  · obtain ⟨L, d, ds, hs, rfl, hL, hd, hk, k⟩ := h
    refine ⟨_, (pss_cons (ps_set (i := 2) sc_l_sum.nd rfl (Or.inl rfl) pe_int) (pss_cons (ps_lock (ps_for PassesOwn.never rfl (pi_keys (pv 1)) (pg_name (i := 3) sc_l_sum.nd rfl (Or.inl rfl)) (pss_one (ps_set (i := 2) sc_l_sum.nd rfl (Or.inl rfl) (pe_op op_add (pv 2) (pe_ix ix_tup (pe_ix ix_list (pv 0) (pv 3) (fun _ _ => rfl)) pe_int (fun _ _ => rfl))))))) (pss_one (ps_ret (pv 2))))), ?_⟩
    walk_at "gc"
    refine Gc.lock_go hd (fun od H2 hh2 er ul oth => ?_)
    walk_at "gc"
    refine Or.inl ⟨rowsN hs, hh2, ?_⟩
    have hl := rowsN_len hs
    refine for_it walk_keys (fun i σ' H' => Hold (∃ v3, σ' = [some (.ref L), some (.ref d), some (.int (sumH ds (hs.take i))), v3] ∧ H' = H2)) ⟨⟨_, rfl, rfl⟩⟩ (fun _ _ _ _ hp => by obtain ⟨⟨_, _, e⟩⟩ := hp; rw [e]; exact hh2) (fun i x σ' H3 H4 hi hp' hy => ?_) (fun σ' H3 hp' => ?_)
    · obtain ⟨⟨v3, rfl, rfl⟩⟩ := hp'
      obtain ⟨rfl, key, y, hky, rfl⟩ := hy
      obtain ⟨n, hn, rfl, _⟩ := rowsN_at hky
      have hnl := hk n (List.mem_of_getElem? hn)
      obtain ⟨xs, t, h1, h2, h3⟩ := hL.get hnl
      have hLd : L ≠ d := fun c => by rw [c, hd] at h1; cases h1
      have hL3 := (oth L hLd).trans h1
      have ht3 := er.sqT h3
      walk_at "gc"
      exact ⟨⟨_, by rw [take_snoc hn, sumH_snoc, getD_of hnl]; rfl, rfl⟩⟩
    obtain ⟨⟨v3, rfl, rfl⟩⟩ := hp'
    rw [hl, List.take_length]
    walk_at "gc"
    exact k _ (ul _ (Ex.refl _))
/-- the owners of what is new -/
def sp_l_owners (K : PySem.W.Frag) : Sp := fun vs H Q _ => ∃ (L d e : Addr) (ds : List (Nat × Int)) (hs os : List Nat), vs = [.ref L, .ref d, .ref e] ∧ DLs K H L ds ∧ H d = some (.dK (rowsN hs)) ∧ H e = some (.dK (rowsN os)) ∧ (∀ k ∈ hs, k < ds.length) ∧ hs.length ≤ 1000 ∧ ∀ p H', H p = none → Ex H H' → H' p = some (.dK (rowsN (ownersL ds hs os))) → Q (.ref p) H'
theorem ok_l_owners (T : Tx K mg) : FnOk P w K mg base CX0 1 T.f_l_owners T.fd_l_owners ["_law_deeds", "_law_heard", "_law_other"] (sp_l_owners K) := by
  refine T.F_l_owners.ok sc_l_owners (fun vs H Q E h => ?_) (fun cdv A outer s H vs Q E hr h => ?_)
  · first | (obtain ⟨rfl, _⟩ := h; rfl) | (obtain ⟨_, rfl, _⟩ := h; rfl) | (obtain ⟨_, _, rfl, _⟩ := h; rfl) | (obtain ⟨_, _, _, rfl, _⟩ := h; rfl) | (obtain ⟨_, _, _, _, rfl, _⟩ := h; rfl) | (obtain ⟨_, _, _, _, _, rfl, _⟩ := h; rfl) | (obtain ⟨_, _, _, _, _, _, rfl, _⟩ := h; rfl) | (obtain ⟨_, _, _, _, _, _, _, rfl, _⟩ := h; rfl) | (obtain ⟨_, _, _, _, _, _, _, _, rfl, _⟩ := h; rfl)
  · obtain ⟨L, d, e, ds, hs, os, rfl, hL, hd, he, hk, hl, k⟩ := h
    refine ⟨_, (pss_cons (ps_set (i := 3) sc_l_owners.nd rfl (Or.inl rfl) pe_dnewK) (pss_cons (ps_lock (ps_for PassesOwn.never rfl (pi_keys (pv 1)) (pg_name (i := 4) sc_l_owners.nd rfl (Or.inl rfl)) (pss_one (ps_if (pt_cmp (pc_dnotin (hu_of hr) (pv 4) (pv 2)) (by with_unfolding_all rfl)) (pss_one (ps_dput (hu_of hr) (pv 3) (pe_ix ix_tup (pe_ix ix_list (pv 0) (pv 4) (fun _ _ => rfl)) pe_int (fun _ _ => rfl)) pe_bl rfl)) pss_nil)))) (pss_one (ps_ret (pv 3))))), ?_⟩
    walk_at "gc"
    rename_i p hp0 H1 e1 f1
    have hd1 := e1 _ _ hd
    have he1 := e1 _ _ he
    have hL1 := hL.ex e1
    have hpd : p ≠ d := fun z => by subst z; rw [hd] at hp0; cases hp0
    have hpe : p ≠ e := fun z => by subst z; rw [he] at hp0; cases hp0
    refine Gc.lock_go hd1 (fun od H2 hh2 er ul oth => ?_)
    walk_at "gc"
    refine Or.inl ⟨rowsN hs, hh2, ?_⟩
    have hlr := rowsN_len hs
    refine for_it walk_keys (fun i σ' H' => Hold (∃ v4, σ' = [some (.ref L), some (.ref d), some (.ref e), some (.ref p), v4] ∧ H' p = some (.dK (rowsN (ownersL ds (hs.take i) os))) ∧ Exs (fun a => a = p) H2 H')) ⟨⟨_, rfl, (oth p hpd).trans f1, Exs.refl _ _⟩⟩ (fun _ _ _ _ hp => by obtain ⟨⟨_, _, _, e⟩⟩ := hp; exact e _ _ (Ne.symm hpd) hh2) (fun i x σ' H3 H4 hi hp' hy => ?_) (fun σ' H3 hp' => ?_)
    · obtain ⟨⟨v4, rfl, hpp, hxs⟩⟩ := hp'
      obtain ⟨rfl, key, y, hky, rfl⟩ := hy
      obtain ⟨n, hn, rfl, _⟩ := rowsN_at hky
      have hnl := hk n (List.mem_of_getElem? hn)
      obtain ⟨xs, t, h1, h2, h3⟩ := hL1.get hnl
      have hLd : L ≠ d := fun c => by rw [c, hd1] at h1; cases h1
      have hLp : L ≠ p := fun c => by rw [c, f1] at h1; cases h1
      have hL3 := hxs _ _ hLp ((oth L hLd).trans h1)
      have he2 : Rd H2 e (.dK (rowsN os)) := er.rd (.inl he1)
      have he3 : Rd H4 e (.dK (rowsN os)) := by
        rcases he2 with q | ⟨od', q⟩
        · exact .inl (hxs _ _ (Ne.symm hpe) q)
        · exact .inr ⟨od', hxs _ _ (Ne.symm hpe) q⟩
      have ht2 := er.sqT h3
      have ht3 : ShAt K H4 t (ds[n].1 : Nat) ds[n].2 := by
        rcases ht2 with (q | ⟨od', q⟩) | q
        · exact .inl (.inl (hxs _ _ (fun c => by rw [c, (oth p hpd).trans f1] at q; cases q) q))
        · exact .inl (.inr ⟨od', hxs _ _ (fun c => by rw [c, (oth p hpd).trans f1] at q; cases q) q⟩)
        · exact .inr q
      have hol := ownersL_len (ds := ds) (other := os) (hs.take i)
      rw [List.length_take] at hol
      have hsn : ownersL ds (hs.take (i + 1)) os = if n ∈ os then ownersL ds (hs.take i) os else addN (ownersL ds (hs.take i) os) (ownN ds n) := by rw [take_snoc hn, ownersL_snoc]
      have hown : ownN ds n = ds[n].1 := by unfold ownN; rw [getD_of hnl]
      walk_at "gc"
      refine And.intro (Gc.dget_o (.inl (n : Int)) he3) ?_
      rw [rowsN_val]
      by_cases c : n ∈ os
      · rw [if_pos c] at hsn ⊢
        walk_at "gc"
        exact ⟨⟨_, rfl, by rw [hsn]; exact hpp, hxs⟩⟩
      · rw [if_neg c] at hsn ⊢
        walk_at "gc"
        refine And.intro (DPut.k (k := .inl ((ds[n].1 : Nat) : Int)) hpp (Evl.sz_lt (by rw [rowsN_len]; omega))) ?_
        exact ⟨⟨_, rfl, by rw [upd_same, rowsN_put, hsn, hown], hxs.trans (Exs.upd rfl)⟩⟩
    obtain ⟨⟨v4, rfl, hpp, hxs⟩⟩ := hp'
    rw [hlr, List.take_length] at hpp
    have hxs1 : Exs (fun a => a = p) H2 H3 := hxs
    have eF : Ex H (upd H3 d (.dK (rowsN hs))) := fun a o q => by
      have q1 := e1 _ _ q
      have hap : a ≠ p := fun c => by rw [c, hp0] at q; cases q
      by_cases c : a = d
      · subst c
        rw [hd1] at q1
        cases q1
        exact upd_same
      · rw [upd_ne c]
        exact hxs _ _ hap ((oth a c).trans q1)
    have hfin := k p _ hp0 eF (by rw [upd_ne hpd]; exact hpp)
    refine ⟨hxs _ _ (Ne.symm hpd) hh2, ?_⟩
    walk_at "gc"
    exact hfin
/-- a hand hears a page, and of what -/
def sp_hears (K : PySem.W.Frag) (C : Addr) : Sp := fun vs H Q _ => ∃ (x dx : Addr) (z : Str) (d : Addr) (kvs : List (Key × V)) (ks : List Str) (pg : Addr) (kv2 : List (Key × V)) (ls : List Str) (L e w : Addr) (zs : List Str) (ds : List (Nat × Int)) (hs ns : List Nat), vs = [.ref x, .ref pg, .ref L, .ref e, .ref w] ∧
  H x = some (insH C dx z d) ∧ H d = some (.dK kvs) ∧ PgK K H kvs ks (pageF zs ds (inP hs)) ∧ H pg = some (.dK kv2) ∧ PgK K H kv2 ls (pageF zs ds (inP ns)) ∧ NmP ls (pageF zs ds (inP ns)) ∧ ks.length ≤ 100 ∧ ls.length ≤ 100 ∧ (∀ y ∈ ls, y ∈ zs) ∧ DsOk zs ds ∧ zs.Nodup ∧ DLs K H L ds ∧
  H e = some (.dK (rowsN hs)) ∧ H w = some (.dK (rowsN ns)) ∧ w ≠ e ∧ pg ≠ e ∧ Closed ds (inP hs) ∧ Closed ds (inP ns) ∧ (∀ k ∈ hs, k < ds.length) ∧ (∀ k ∈ ns, k < ds.length) ∧ hs.Nodup ∧ ns.Nodup ∧ ds.length ≤ 100 ∧ rchB (pageF zs ds (inP hs)) (pageF zs ds (inP ns)) z = true ∧
  ∀ d' kvs' ys H', H d' = none → Exs (fun a => a = x ∨ a = e) H H' → H' x = some (insH C dx z d') → H' d' = some (.dK kvs') → PgK K H' kvs' ys (pageF zs ds (inP (unionL hs ns))) → PyProof.Rows.sortedS ys = true → (∀ y, y ∈ ys ↔ y ∈ ks ∨ y ∈ ls) → H' e = some (.dK (rowsN (unionL hs ns))) → Q (.bl true) H'
theorem ok_l_hears (T : Tx K mg) : FnOk P w K mg base CX0 5 T.f_l_hears T.fd_l_hears ["_law_hand", "_law_page", "_law_deeds", "_law_heard", "_law_news_here"] (sp_hears K T.k_Hand) := by
  refine T.F_l_hears.ok sc_l_hears (fun vs H Q E h => ?_) (fun cdv A outer s H vs Q E hr h => ?_)
  · obtain ⟨_, _, _, _, _, _, _, _, _, _, _, _, _, _, _, _, rfl, _⟩ := h; rfl
  · obtain ⟨x, dx, z, d, kvs, ks, pg, kv2, ls, L, e, w, zs, ds, hs, ns, rfl, hx, hd, hp, hpg, hq, hqn, hks, hls, hqs, hok, hnd, hL, he, hw, hwe, hpe, hc1, hc2, hk1, hk2, hn1, hn2, hdl, ht, k⟩ := h
    refine ⟨_, (pss_cut (ps_set (i := 5) sc_l_hears.nd rfl (Or.inl rfl) (pe_meth (pv 0) T.cl_Hand T.M_Hand_hear (ok_Hand_hear T) (hr.mono (by decide)) T.b_Hand_hear .nil passLN (pa_cons (pv 1) pa_nil))) (pss_cut (ps_set (i := 6) sc_l_hears.nd rfl (Or.inl rfl) (pe_callB call_lenDR (by rfl) T.n_len PySem.boot_len (pa_cons (pe_call (ok_l_owners T) (hr.mono (by decide)) rfl T.m_l_owners T.F_l_owners.kp T.b_l_owners .nil pass0 (pa_cons (pv 2) (pa_cons (pv 4) (pa_cons (pv 3) pa_nil)))) pa_nil))) (pss_cut (ps_lock (ps_for PassesOwn.never rfl (pi_keys (pv 4)) (pg_name (i := 7) sc_l_hears.nd rfl (Or.inl rfl)) (pss_one (ps_dput (hu_of hr) (pv 3) (pv 7) pe_bl rfl)))) (pss_one (ps_ret (pe_and (pe_call (ok_l_whole T) (hr.mono (by decide)) rfl T.m_l_whole T.F_l_whole.kp T.b_l_whole .nil pass0 (pa_cons (pv 5) pa_nil)) (pe_one (pe_cmpR op_eq (pv 5) (pv 6) (nomark _))))))))), ?_⟩
    have hks8 : ks.length ≤ 800 := by omega
    have hls2 : ls.length ≤ 200 := by omega
    have hxe : e ≠ x := fun c => by rw [c, hx] at he; cases he
    have hxw : w ≠ x := fun c => by rw [c, hx] at hw; cases hw
    refine Gc.op_go fun N9 R9 B9 E9 hN9 hR9 => ?_
    walk_at "gc"
    refine Or.inl ⟨pg, kv2, ls, _, rfl, hpg, hq, pageF_nn, hqn, hls2, fun _ d1 kv1 ys H1 hd1 ex1 q1 r1 p1 s1 m1 => ?_, fun q => by rw [ht] at q; cases q⟩
    have hd1e : d1 ≠ e := fun c => by rw [c, he] at hd1; cases hd1
    have hd1w : d1 ≠ w := fun c => by rw [c, hw] at hd1; cases hd1
    refine hN9 _ _ ?_
    clear hN9 hR9
    rw [union_page hok hnd hc1 hc2] at p1
    have hcnt : (lackK ls (pageF zs ds (inP hs)) (pageF zs ds (inP ns))).length = (ownersL ds ns hs).length := by
      rw [← count_page hok hnd hk2 hc1 hc2]
      exact cnt_all hq.nd hnd hqs hq.out pageF_nn
    rw [hcnt]
    have he1 := ex1 _ _ hxe he
    have hw1 := ex1 _ _ hxw hw
    have hL1 : DLs K H1 L ds := by
      obtain ⟨ts, h1, h2, h3⟩ := hL.it
      exact ⟨ts, ex1 _ _ (fun c => by rw [c, hx] at h1; cases h1) h1, h2, fun i t d a b => sqT_exs ex1 (fun p c => .inl ⟨_, _, _, c ▸ hx⟩) (h3 i t d a b)⟩
    have hnl : ns.length ≤ 1000 := by have := nd_range hn2 hk2; omega
    clear hL hw he hpg hq hqn hd hp hqs hks8 hls2
    refine Gc.op_go fun N9 R9 B9 E9 hN9 hR9 => ?_
    walk_at "gc"
    rename_i p2 H2 hp2 e2 f2
    refine hN9 _ _ ?_
    clear hN9 hR9
    have he2 := e2 _ _ he1
    have hw2 := e2 _ _ hw1
    have q2 := e2 _ _ q1
    have r2 := e2 _ _ r1
    have p12 := p1.et (Et.of e2)
    clear he1 hw1 q1 r1 p1 hL1 f2
    refine Gc.op_go fun N9 R9 B9 E9 hN9 hR9 => ?_
    rw [rowsN_len]
    refine Gc.lock_go hw2 (fun od H3 h3 er ul oth => ?_)
    walk_at "gc"
    refine Or.inl ⟨rowsN ns, h3, ?_⟩
    have hlr := rowsN_len ns
    have he3 := (oth e (Ne.symm hwe)).trans he2
    refine Gc.for_go walk_keys (fun i σ' H' => Hold (∃ v7, σ' = [some (.ref x), some (.ref pg), some (.ref L), some (.ref e), some (.ref w), some (.int ((ownersL ds ns hs).length : Nat)), some (.int ((ownersL ds ns hs).length : Nat)), v7] ∧ H' e = some (.dK (rowsN (unionL hs (ns.take i)))) ∧ Exs (fun a => a = e) H3 H' ∧ Et K H3 H')) ⟨⟨_, rfl, he3, Exs.refl _ _, Et.refl _⟩⟩ (fun _ _ _ _ hp => by obtain ⟨⟨_, _, _, e, _⟩⟩ := hp; exact e _ _ hwe h3) (fun R9 B9 i x9 σ' H5 H6 hi hp' hy => ?_) (fun σ' H5 hp' => ?_)
    · obtain ⟨⟨v7, rfl, hee, hxs, het⟩⟩ := hp'
      obtain ⟨rfl, key, y, hky, rfl⟩ := hy
      obtain ⟨n, hn, rfl, _⟩ := rowsN_at hky
      have hul : (unionL hs (ns.take i)).length ≤ 100 := by
        have := nd_range (n := ds.length) (unionL_nd hn1 (ns.take i)) fun k hk => ((mem_unionL _).mp hk).elim (hk1 k) (fun q => hk2 k (List.mem_of_mem_take q))
        omega
      walk_at "gc"
      refine And.intro (DPut.k (k := .inl (n : Int)) hee (Evl.sz_lt (by rw [rowsN_len]; omega))) ?_
      exact ⟨⟨_, rfl, by rw [upd_same, rowsN_put, take_snoc hn, unionL_snoc], hxs.trans (Exs.upd rfl), het.trans (Et.dK hee)⟩⟩
    obtain ⟨⟨v7, rfl, hee, hxs, het⟩⟩ := hp'
    rw [hlr, List.take_length] at hee
    have h5 := hxs _ _ hwe h3
    refine ⟨h5, ?_⟩
    refine hN9 _ _ ?_
    clear hN9 hR9
    have fin1 : upd H5 w (.dK (rowsN ns)) e = some (.dK (rowsN (unionL hs ns))) := by rw [upd_ne (Ne.symm hwe)]; exact hee
    have fin2 : upd H5 w (.dK (rowsN ns)) x = some (insH T.k_Hand dx z d1) := by rw [upd_ne (Ne.symm hxw)]; exact hxs _ _ (Ne.symm hxe) ((oth x (Ne.symm hxw)).trans q2)
    have fin3 : upd H5 w (.dK (rowsN ns)) d1 = some (.dK kv1) := by rw [upd_ne hd1w]; exact hxs _ _ hd1e ((oth d1 hd1w).trans r2)
    have fin4 : PgK K (upd H5 w (.dK (rowsN ns))) kv1 ys (pageF zs ds (inP (unionL hs ns))) := ((p12.et er.et).et het).et (Er.unlock h5).et
    have fin5 : Exs (fun a => a = x ∨ a = e) H (upd H5 w (.dK (rowsN ns))) := fun a o n q => by
      have a1 : H2 a = some o := e2 _ _ (ex1 _ _ (fun c => n (.inl c)) q)
      by_cases c : a = w
      · rw [c] at a1 ⊢
        rw [hw2] at a1
        cases a1
        exact upd_same
      · rw [upd_ne c]
        exact hxs _ _ (fun c => n (.inr c)) ((oth a c).trans a1)
    refine Gc.end_go fun N9 R9 B9 E9 hN9 hR9 => ?_
    walk_at "gc"
    exact Gc.bl_eq (decide_eq_true rfl) (hR9 _ _ (k _ _ _ _ hd1 fin5 fin2 fin3 fin4 s1 m1 fin1))
/-- hand.letter(page) -/
def sp_letter (K : PySem.W.Frag) (C CP : Addr) : Sp := fun vs H Q E => ∃ (x dx : Addr) (z : Str) (d : Addr) (kvs : List (Key × V)) (ks : List Str) (f : Sh) (v : V), vs = [.ref x, v] ∧ H x = some (insH C dx z d) ∧ H d = some (.dK kvs) ∧ PgK K H kvs ks f ∧ ks.length ≤ 1000 ∧
  ((∃ (e : Addr) (kvs2 : List (Key × V)) (ls : List Str) (g : Sh), v = .ref e ∧ H e = some (.dK kvs2) ∧ PgK K H kvs2 ls g ∧ NN g ∧ NmP ls g ∧ ls.length ≤ 200 ∧
    ∀ p kvs' ms H', H p = none → Ex H H' → H' p = some (.dK kvs') → PgK K H' kvs' ms (lackF g f) → PyProof.Rows.sortedS ms = true → (∀ w, w ∈ ms ↔ w ∈ lackK ks g f) → ms.length ≤ ks.length → Q (.ref p) H') ∨
   (NoPg K H v ∧ ∀ H', Ex H H' → E (.ref CP) none H'))
theorem ok_Hand_letter (T : Tx K mg) : FnOk P w K mg base (L2N.CX P w) 4 T.f_Hand_letter T.fd_Hand_letter ["self", "page"] (sp_letter K T.k_Hand T.k_NoPage) := by
  refine okN T.F_Hand_letter sc_Hand_letter (fun vs H Q E h => ?_) (fun cdv A outer s H vs Q E hr h => ?_)
  · first | (obtain ⟨rfl, _⟩ := h; rfl) | (obtain ⟨_, rfl, _⟩ := h; rfl) | (obtain ⟨_, _, rfl, _⟩ := h; rfl) | (obtain ⟨_, _, _, rfl, _⟩ := h; rfl) | (obtain ⟨_, _, _, _, rfl, _⟩ := h; rfl) | (obtain ⟨_, _, _, _, _, rfl, _⟩ := h; rfl) | (obtain ⟨_, _, _, _, _, _, rfl, _⟩ := h; rfl) | (obtain ⟨_, _, _, _, _, _, _, rfl, _⟩ := h; rfl) | (obtain ⟨_, _, _, _, _, _, _, _, rfl, _⟩ := h; rfl)
  · obtain ⟨x, dx, z, d, kvs, ks, f, v, rfl, hx, hd, hp, hlen, hc⟩ := h
    refine ⟨_, (pss_cons (ps_if (pt_not (pt_val (pe_call (ok_is_page T) (hr.mono (by decide)) rfl T.m_is_page T.F_is_page.kp T.b_is_page .nil pass0 (pa_cons (pv 1) pa_nil)))) (pss_one (L2N.ps_raise rfl (L2N.takes_of rfl rfl rfl rfl) (L2N.pmk_own PySem.F.excBase_ValueError T.x_NoPage T.g_NoPage T.kp_NoPage (raises_own T.be_NoPage T.ty_NoPage) rfl))) pss_nil) (pss_one (ps_ret (pe_call (ok_lacking T) (hr.mono (by decide)) rfl T.m_lacking T.F_lacking.kp T.b_lacking .nil pass0 (pa_cons (pv 1) (pa_cons (pe_fld (pv 0) rfl) pa_nil)))))), ?_⟩
    have cl := T.cl_Hand
    have a2 := T.na_Hand_known
    rcases hc with ⟨e, kvs2, ls, g, rfl, he, hq, hn2, hp2, hl2, k⟩ | ⟨⟨e, kvs2, rfl, he, hj⟩ | ⟨t, ht, hk⟩, k⟩
    · have hj := hq.pageJ hn2 hp2 hl2
      walk_at "gc"
      refine Or.inl ⟨e, kvs2, true, rfl, he, hj, fun H1 e1 => ?_⟩
      walk_at "gc"
      rename_i p kvs' ms H2 hp0 e2 r2 p2 s2 m2 l2
      exact k p kvs' ms H2 (ex_of_none e1 hp0) (e1.trans e2) r2 p2 s2 m2 l2
    · walk_at "gc"
      refine Or.inl ⟨e, kvs2, false, rfl, he, hj, fun H1 e1 => ?_⟩
      walk_at "gc"
      exact k _ e1
    · walk_at "gc"
      refine Or.inr ⟨t, ht, hk, ?_⟩
      walk_at "gc"
      exact k _ (Ex.refl _)
/-- the deeds of the owners of what is new -/
def sp_l_news (K : PySem.W.Frag) : Sp := fun vs H Q _ => ∃ (L d e : Addr) (ds : List (Nat × Int)) (hs os : List Nat), vs = [.ref L, .ref d, .ref e] ∧ DLs K H L ds ∧ H d = some (.dK (rowsN hs)) ∧ H e = some (.dK (rowsN os)) ∧ (∀ k ∈ hs, k < ds.length) ∧ hs.length ≤ 1000 ∧ hs.Nodup ∧ ∀ p H', H p = none → Ex H H' → H' p = some (.dK (rowsN (newsL ds hs os))) → Q (.ref p) H'
theorem ok_l_news (T : Tx K mg) : FnOk P w K mg base CX0 2 T.f_l_news T.fd_l_news ["_law_deeds", "_law_heard", "_law_other"] (sp_l_news K) := by
  refine T.F_l_news.ok sc_l_news (fun vs H Q E h => ?_) (fun cdv A outer s H vs Q E hr h => ?_)
  · first | (obtain ⟨rfl, _⟩ := h; rfl) | (obtain ⟨_, rfl, _⟩ := h; rfl) | (obtain ⟨_, _, rfl, _⟩ := h; rfl) | (obtain ⟨_, _, _, rfl, _⟩ := h; rfl) | (obtain ⟨_, _, _, _, rfl, _⟩ := h; rfl) | (obtain ⟨_, _, _, _, _, rfl, _⟩ := h; rfl) | (obtain ⟨_, _, _, _, _, _, rfl, _⟩ := h; rfl) | (obtain ⟨_, _, _, _, _, _, _, rfl, _⟩ := h; rfl) | (obtain ⟨_, _, _, _, _, _, _, _, rfl, _⟩ := h; rfl)
  · obtain ⟨L, d, e, ds, hs, os, rfl, hL, hd, he, hk, hl, hnd, k⟩ := h
    refine ⟨_, (pss_cons (ps_set (i := 3) sc_l_news.nd rfl (Or.inl rfl) (pe_call (ok_l_owners T) (hr.mono (by decide)) rfl T.m_l_owners T.F_l_owners.kp T.b_l_owners .nil pass0 (pa_cons (pv 0) (pa_cons (pv 1) (pa_cons (pv 2) pa_nil))))) (pss_cons (ps_set (i := 4) sc_l_news.nd rfl (Or.inl rfl) pe_dnewK) (pss_cons (ps_lock (ps_for PassesOwn.never rfl (pi_keys (pv 1)) (pg_name (i := 5) sc_l_news.nd rfl (Or.inl rfl)) (pss_one (ps_if (pt_cmp (pc_din (hu_of hr) (pe_ix ix_tup (pe_ix ix_list (pv 0) (pv 5) (fun _ _ => rfl)) pe_int (fun _ _ => rfl)) (pv 3)) (by with_unfolding_all rfl)) (pss_one (ps_dput (hu_of hr) (pv 4) (pv 5) pe_bl rfl)) pss_nil)))) (pss_one (ps_ret (pv 4)))))), ?_⟩
    walk_at "gc"
    rename_i ow H0 how0 e0 f0 p hp0 H1 e1 f1
    have e01 := e0.trans e1
    have hd1 := e01 _ _ hd
    have hw1 := e1 _ _ f0
    have hL1 := hL.ex e01
    have hpd : p ≠ d := fun z => by subst z; rw [e0 _ _ hd] at hp0; cases hp0
    have hpw : p ≠ ow := fun z => by subst z; rw [f0] at hp0; cases hp0
    have hwd : ow ≠ d := fun z => by subst z; rw [hd] at how0; cases how0
    have hpH : H p = none := ex_of_none e0 hp0
    refine Gc.lock_go hd1 (fun od H2 hh2 er ul oth => ?_)
    walk_at "gc"
    refine Or.inl ⟨rowsN hs, hh2, ?_⟩
    have hlr := rowsN_len hs
    refine for_it walk_keys (fun i σ' H' => Hold (∃ v5, σ' = [some (.ref L), some (.ref d), some (.ref e), some (.ref ow), some (.ref p), v5] ∧ H' p = some (.dK (rowsN ((hs.take i).filter fun k => decide (ownN ds k ∈ ownersL ds hs os)))) ∧ Exs (fun a => a = p) H2 H')) ⟨⟨_, rfl, (oth p hpd).trans f1, Exs.refl _ _⟩⟩ (fun _ _ _ _ hp => by obtain ⟨⟨_, _, _, e⟩⟩ := hp; exact e _ _ (Ne.symm hpd) hh2) (fun i x σ' H3 H4 hi hp' hy => ?_) (fun σ' H3 hp' => ?_)
    · obtain ⟨⟨v4, rfl, hpp, hxs⟩⟩ := hp'
      obtain ⟨rfl, key, y, hky, rfl⟩ := hy
      obtain ⟨n, hn, rfl, _⟩ := rowsN_at hky
      have hnl := hk n (List.mem_of_getElem? hn)
      obtain ⟨xs, t, h1, h2, h3⟩ := hL1.get hnl
      have hLd : L ≠ d := fun c => by rw [c, hd1] at h1; cases h1
      have hLp : L ≠ p := fun c => by rw [c, f1] at h1; cases h1
      have hL3 := hxs _ _ hLp ((oth L hLd).trans h1)
      have hw3 := hxs _ _ (Ne.symm hpw) ((oth ow hwd).trans hw1)
      have ht2 := er.sqT h3
      have ht3 : ShAt K H4 t (ds[n].1 : Nat) ds[n].2 := by
        rcases ht2 with (q | ⟨od', q⟩) | q
        · exact .inl (.inl (hxs _ _ (fun c => by rw [c, (oth p hpd).trans f1] at q; cases q) q))
        · exact .inl (.inr ⟨od', hxs _ _ (fun c => by rw [c, (oth p hpd).trans f1] at q; cases q) q⟩)
        · exact .inr q
      have hol := List.length_filter_le (fun k => decide (ownN ds k ∈ ownersL ds hs os)) (hs.take i)
      rw [List.length_take] at hol
      have hown : ownN ds n = ds[n].1 := by unfold ownN; rw [getD_of hnl]
      have hsn : ((hs.take (i + 1)).filter fun k => decide (ownN ds k ∈ ownersL ds hs os)) = if ownN ds n ∈ ownersL ds hs os then addN ((hs.take i).filter fun k => decide (ownN ds k ∈ ownersL ds hs os)) n else (hs.take i).filter fun k => decide (ownN ds k ∈ ownersL ds hs os) := by
        rw [take_snoc hn, List.filter_append]
        by_cases c : ownN ds n ∈ ownersL ds hs os
        · rw [if_pos c]
          have hni : ¬ n ∈ (hs.take i).filter fun k => decide (ownN ds k ∈ ownersL ds hs os) := fun q => by
            have q1 := (List.mem_filter.mp q).1
            obtain ⟨j, hj⟩ := List.mem_iff_getElem?.mp q1
            have hji : j < i := by have := (List.getElem?_eq_some_iff.mp hj).1; rw [List.length_take] at this; omega
            rw [List.getElem?_take_of_lt hji] at hj
            obtain ⟨b1, b2⟩ := List.getElem?_eq_some_iff.mp hj
            obtain ⟨b3, b4⟩ := List.getElem?_eq_some_iff.mp hn
            exact (List.pairwise_iff_getElem.mp (List.nodup_iff_pairwise_ne.mp hnd)) j i b1 b3 hji (b2.trans b4.symm)
          unfold addN
          rw [if_neg hni, List.filter_cons_of_pos (by simp [c])]
          rfl
        · rw [if_neg c, List.filter_cons_of_neg (by simp [c])]
          simp
      walk_at "gc"
      refine And.intro (Gc.dget_o (.inl ((ds[n].1 : Nat) : Int)) (.inl hw3)) ?_
      rw [rowsN_val, ← hown]
      by_cases c : ownN ds n ∈ ownersL ds hs os
      · rw [if_pos c] at hsn ⊢
        walk_at "gc"
        refine And.intro (DPut.k (k := .inl (n : Int)) hpp (Evl.sz_lt (by rw [rowsN_len]; omega))) ?_
        exact ⟨⟨_, rfl, by rw [upd_same, rowsN_put, hsn], hxs.trans (Exs.upd rfl)⟩⟩
      · rw [if_neg c] at hsn ⊢
        walk_at "gc"
        exact ⟨⟨_, rfl, by rw [hsn]; exact hpp, hxs⟩⟩
    obtain ⟨⟨v4, rfl, hpp, hxs⟩⟩ := hp'
    rw [hlr, List.take_length] at hpp
    have eF : Ex H (upd H3 d (.dK (rowsN hs))) := fun a o q => by
      have q1 := e01 _ _ q
      have hap : a ≠ p := fun c => by rw [c, hpH] at q; cases q
      by_cases c : a = d
      · subst c
        rw [hd1] at q1
        cases q1
        exact upd_same
      · rw [upd_ne c]
        exact hxs _ _ hap ((oth a c).trans q1)
    have hfin := k p _ hpH eF (by rw [upd_ne hpd]; exact hpp)
    refine ⟨hxs _ _ (Ne.symm hpd) hh2, ?_⟩
    walk_at "gc"
    exact hfin
/-- hand.page(): the page, a new dict -/
def sp_Hand_page (K : PySem.W.Frag) (C : Addr) : Sp := fun vs H Q _ => ∃ (x dx : Addr) (z : Str) (d : Addr) (kvs : List (Key × V)), vs = [.ref x] ∧ H x = some (insH C dx z d) ∧ Rd H d (.dK kvs) ∧ ∀ p H', H p = none → Ex H H' → H' p = some (.dK kvs) → Q (.ref p) H'
theorem ok_Hand_page (T : Tx K mg) : FnOk P w K mg base CX0 1 T.f_Hand_page T.fd_Hand_page ["self"] (sp_Hand_page K T.k_Hand) := by
  refine T.F_Hand_page.ok sc_Hand_page (fun vs H Q E h => ?_) (fun cdv A outer s H vs Q E hr h => ?_)
  · first | (obtain ⟨rfl, _⟩ := h; rfl) | (obtain ⟨_, rfl, _⟩ := h; rfl) | (obtain ⟨_, _, rfl, _⟩ := h; rfl) | (obtain ⟨_, _, _, rfl, _⟩ := h; rfl) | (obtain ⟨_, _, _, _, rfl, _⟩ := h; rfl) | (obtain ⟨_, _, _, _, _, rfl, _⟩ := h; rfl) | (obtain ⟨_, _, _, _, _, _, rfl, _⟩ := h; rfl) | (obtain ⟨_, _, _, _, _, _, _, rfl, _⟩ := h; rfl) | (obtain ⟨_, _, _, _, _, _, _, _, rfl, _⟩ := h; rfl)
  · obtain ⟨x, dx, z, d, kvs, rfl, hx, hd, k⟩ := h
    refine ⟨_, (pss_one (ps_ret (pe_callTy call_dictD (by rfl) T.n_dict PyProof.Rows.boot_dict (pa_cons (pe_fld (pv 0) rfl) pa_nil)))), ?_⟩
    have cl := T.cl_Hand
    have a2 := T.na_Hand_known
    walk_at "gc"
    rename_i p hp H1 e1 f1
    exact k p H1 hp e1 f1
/-- a deed, and what is asked of it -/
def sp_deed13 (K : PySem.W.Frag) (C : Addr) : Sp := fun vs H Q _ => ∃ (zs : List Str) (B : Int) (hL eL dL bL : Addr) (xs es bs : List Addr) (ds : List (Nat × Int)) (hs : List (List Nat)) (cell : Int), vs = [.ref hL, .ref eL, .ref dL, .ref bL, .int cell] ∧ HW K C H zs B hL eL dL bL xs es bs ds hs ∧ 2 ≤ zs.length ∧ zs.length ≤ 12 ∧ ds.length ≤ 63 ∧ bs.length ≤ 63 ∧ 0 ≤ B ∧ B ≤ 1000000000000 ∧
  ∀ bs' ds' hs' H', HW K C H' zs (B + 1000000000) hL eL dL bL xs es bs' ds' hs' → ds'.length ≤ ds.length + 1 → bs'.length ≤ bs.length + 1 → Kept dL bL H H' → Q (.bl true) H'
theorem ok_l_deed13 (T : Tx K mg) : FnOk P w K mg base CX0 6 T.f_l_deed13 T.fd_l_deed13 ["_law_hands", "_law_heard", "_law_deeds", "_law_bag", "_law_cell"] (sp_deed13 K T.k_Hand) := by
  refine T.F_l_deed13.ok sc_l_deed13 (fun vs H Q E h => ?_) (fun cdv A outer s H vs Q E hr h => ?_)
  · obtain ⟨_, _, _, _, _, _, _, _, _, _, _, _, rfl, _⟩ := h; rfl
  · obtain ⟨zs, B, hL, eL, dL, bL, xs, es, bs, ds, hs, cell, rfl, hw, hz2, hz12, hds, hbs, hB0, hB, k⟩ := h
    refine ⟨_, (pss_cut (ps_set (i := 5) sc_l_deed13.nd rfl (Or.inl rfl) (pe_callB call_len_seq (by rfl) T.n_len PySem.boot_len (pa_cons (pv 0) pa_nil))) (pss_cut (ps_set (i := 6) sc_l_deed13.nd rfl (Or.inl rfl) (pe_op op_mod (pe_op op_fdiv (pv 4) pe_int) (pv 5))) (pss_cut (ps_set (i := 7) sc_l_deed13.nd rfl (Or.inl rfl) (pe_op op_mod (pe_op op_fdiv (pv 4) pe_int) (pv 5))) (pss_cut (ps_set (i := 8) sc_l_deed13.nd rfl (Or.inl rfl) (pe_op op_fdiv (pv 4) pe_int)) (pss_cut (ps_set (i := 9) sc_l_deed13.nd rfl (Or.inl rfl) pe_bl) (pss_cut (ps_if (pt_cmpR op_lt (pe_op op_mod (pv 4) pe_int) pe_int (nomark _)) (pss_cut (ps_set (i := 10) sc_l_deed13.nd rfl (Or.inl rfl) (pe_call (ok_l_amount_by T) (hr.mono (by decide)) rfl T.m_l_amount_by T.F_l_amount_by.kp T.b_l_amount_by .nil pass0 (pa_cons (pv 8) pa_nil))) (pss_cut (ps_expr (pe_bm PySem.F.plainAttrs_list PySem.F.slot_list_append PySem.F.type_list_append mt_append (pv 2) (pa_cons (pe_tup (pa_cons (pv 6) (pa_cons (pe_op op_sub (pv 10) (pe_op op_mul (pe_op op_mul pe_int (pv 10)) (pe_op op_mod (pv 4) pe_int))) pa_nil))) pa_nil))) (pss_cut (ps_dput (hu_of hr) (pe_ix ix_list (pv 1) (pv 6) (fun _ _ => rfl)) (pe_op op_sub (pe_callB call_len_seq (by rfl) T.n_len PySem.boot_len (pa_cons (pv 2) pa_nil)) pe_int) pe_bl rfl) (pss_cut (ps_set (i := 11) sc_l_deed13.nd rfl (Or.inl rfl) (pe_ifExp (pt_cmpR op_eq (pe_op op_mod (pv 4) pe_int) pe_int (nomark _)) (pe_meth (pe_ix ix_list (pv 0) (pv 6) (fun _ _ => rfl)) T.cl_Hand T.M_Hand_up (ok_Hand_up T) (hr.mono (by decide)) T.b_Hand_up .nil passLN (pa_cons (pv 10) pa_nil)) (pe_meth (pe_ix ix_list (pv 0) (pv 6) (fun _ _ => rfl)) T.cl_Hand T.M_Hand_down (ok_Hand_down T) (hr.mono (by decide)) T.b_Hand_down .nil passLN (pa_cons (pv 10) pa_nil)))) (pss_one (ps_set (i := 9) sc_l_deed13.nd rfl (Or.inl rfl) (pe_and (pe_call (ok_l_whole T) (hr.mono (by decide)) rfl T.m_l_whole T.F_l_whole.kp T.b_l_whole .nil pass0 (pa_cons (pv 11) pa_nil)) (pe_one (pe_cmpR op_eq (pv 11) (pe_call (ok_l_sum T) (hr.mono (by decide)) rfl T.m_l_sum T.F_l_sum.kp T.b_l_sum .nil pass0 (pa_cons (pv 2) (pa_cons (pe_ix ix_list (pv 1) (pv 6) (fun _ _ => rfl)) pa_nil))) (nomark _)))))))))) (pss_one (ps_if (pt_cmpR op_eq (pe_op op_mod (pv 4) pe_int) pe_int (nomark _)) (pss_one (ps_expr (pe_bm PySem.F.plainAttrs_list PySem.F.slot_list_append PySem.F.type_list_append mt_append (pv 3) (pa_cons (pe_tup (pa_cons (pe_meth (pe_ix ix_list (pv 0) (pv 6) (fun _ _ => rfl)) T.cl_Hand T.M_Hand_letter (ok_Hand_letter T) (hr.mono (by decide)) T.b_Hand_letter .nil passLN (pa_cons (pe_meth0 (pe_ix ix_list (pv 0) (pv 7) (fun _ _ => rfl)) T.cl_Hand T.M_Hand_page (ok_Hand_page T) (hr.mono (by decide)) T.b_Hand_page .nil pass0) pa_nil)) (pa_cons (pe_call (ok_l_news T) (hr.mono (by decide)) rfl T.m_l_news T.F_l_news.kp T.b_l_news .nil pass0 (pa_cons (pv 2) (pa_cons (pe_ix ix_list (pv 1) (pv 6) (fun _ _ => rfl)) (pa_cons (pe_ix ix_list (pv 1) (pv 7) (fun _ _ => rfl)) pa_nil)))) pa_nil))) pa_nil)))) (pss_one (ps_if (PW.pt (pw_and (pt_cmpR op_eq (pe_op op_mod (pv 4) pe_int) pe_int (nomark _)) (pw_and1 (pt_cmpR op_gt (pe_callB call_len_seq (by rfl) T.n_len PySem.boot_len (pa_cons (pv 3) pa_nil)) pe_int (nomark _))))) (pss_cut (ps_set (i := 12) sc_l_deed13.nd rfl (Or.inl rfl) (pe_ix ix_list (pv 3) (pe_op op_mod (pv 8) (pe_callB call_len_seq (by rfl) T.n_len PySem.boot_len (pa_cons (pv 3) pa_nil))) (fun _ _ => rfl))) (pss_one (ps_set (i := 9) sc_l_deed13.nd rfl (Or.inl rfl) (pe_call (ok_l_hears T) (hr.mono (by decide)) rfl T.m_l_hears T.F_l_hears.kp T.b_l_hears .nil pass0 (pa_cons (pe_ix ix_list (pv 0) (pv 6) (fun _ _ => rfl)) (pa_cons (pe_callTy call_dictD (by rfl) T.n_dict PyProof.Rows.boot_dict (pa_cons (pe_ix ix_tup (pv 12) pe_int (fun _ _ => rfl)) pa_nil)) (pa_cons (pv 2) (pa_cons (pe_ix ix_list (pv 1) (pv 6) (fun _ _ => rfl)) (pa_cons (pe_ix ix_tup (pv 12) pe_int (fun _ _ => rfl)) pa_nil))))))))) (pss_one (ps_set (i := 9) sc_l_deed13.nd rfl (Or.inl rfl) (pe_call (ok_l_hears T) (hr.mono (by decide)) rfl T.m_l_hears T.F_l_hears.kp T.b_l_hears .nil pass0 (pa_cons (pe_ix ix_list (pv 0) (pv 6) (fun _ _ => rfl)) (pa_cons (pe_meth0 (pe_ix ix_list (pv 0) (pv 7) (fun _ _ => rfl)) T.cl_Hand T.M_Hand_page (ok_Hand_page T) (hr.mono (by decide)) T.b_Hand_page .nil pass0) (pa_cons (pv 2) (pa_cons (pe_ix ix_list (pv 1) (pv 6) (fun _ _ => rfl)) (pa_cons (pe_callTy call_dictD (by rfl) T.n_dict PyProof.Rows.boot_dict (pa_cons (pe_ix ix_list (pv 1) (pv 7) (fun _ _ => rfl)) pa_nil)) pa_nil))))))))))))) (pss_cut (ps_set (i := 13) sc_l_deed13.nd rfl (Or.inl rfl) (pe_meth0 (pe_ix ix_list (pv 0) (pv 6) (fun _ _ => rfl)) T.cl_Hand T.M_Hand_told (ok_Hand_told T) (hr.mono (by decide)) T.b_Hand_told .nil pass0)) (pss_one (ps_ret (pe_and (pv 9) (pe_and (pe_call (ok_l_whole T) (hr.mono (by decide)) rfl T.m_l_whole T.F_l_whole.kp T.b_l_whole .nil pass0 (pa_cons (pv 13) pa_nil)) (pe_one (pe_cmpR op_eq (pv 13) (pe_call (ok_l_sum T) (hr.mono (by decide)) rfl T.m_l_sum T.F_l_sum.kp T.b_l_sum .nil pass0 (pa_cons (pv 2) (pa_cons (pe_ix ix_list (pv 1) (pv 6) (fun _ _ => rfl)) pa_nil))) (nomark _)))))))))))))), ?_⟩
    have hxl : (xs.map V.ref).length = zs.length := by rw [List.length_map]; exact hw.xl
    have hHL := hw.hl
    have hposz : 0 < zs.length := by omega
    obtain ⟨w, hw1, hwl⟩ := place (j := cell / 5) hposz
    obtain ⟨o, ho1, hol⟩ := place (j := cell / 60) hposz
    refine Gc.op_go fun N9 R9 B9 E9 hN9 hR9 => ?_
    walk_at "gc"
    rw [hxl]
    refine hN9 _ _ ?_
    clear hN9 hR9
    refine Gc.cut_go (fun σ' H' => Hold (σ' = [some (.ref hL), some (.ref eL), some (.ref dL), some (.ref bL), some (.int cell), some (.int (zs.length : Nat)), some (.int w), none, none, none, none, none, none, none] ∧ H' = H)) (fun R9 B9 E9 => ?_) (fun σ' H' hm => ?_)
    · have hp : (0 : Int) < ((zs.length : Nat) : Int) := by omega
      walk_at "gc"
      exact ⟨⟨by rw [← hw1]; rfl, rfl⟩⟩
    obtain ⟨⟨rfl, rfl⟩⟩ := hm
    refine Gc.cut_go (fun σ' H'' => Hold (σ' = [some (.ref hL), some (.ref eL), some (.ref dL), some (.ref bL), some (.int cell), some (.int (zs.length : Nat)), some (.int w), some (.int o), none, none, none, none, none, none] ∧ H'' = H')) (fun R9 B9 E9 => ?_) (fun σ' H'' hm => ?_)
    · have hp : (0 : Int) < ((zs.length : Nat) : Int) := by omega
      walk_at "gc"
      exact ⟨⟨by rw [← ho1]; rfl, rfl⟩⟩
    obtain ⟨⟨rfl, rfl⟩⟩ := hm
    refine Gc.op_go fun N9 R9 B9 E9 hN9 hR9 => ?_
    walk_at "gc"
    refine hN9 _ _ ?_
    clear hN9 hR9
    refine Gc.op_go fun N9 R9 B9 E9 hN9 hR9 => ?_
    walk_at "gc"
    refine hN9 _ _ ?_
    clear hN9 hR9
    have m5 := mod_in (a := cell) (b := 5) (by decide)
    generalize hmo : cell / 720 = mo
    obtain ⟨x, z, e, t, hx, hz, he, ht⟩ := hw.at_ hwl
    obtain ⟨x2, z2, e2, t2, hx2, hz3, he2, ht2⟩ := hw.at_ hol
    have hel := hw.el
    have hbl := hw.bl
    have ax := ref_at hx
    have ae := ref_at he
    have ax2 := ref_at hx2
    have ae2 := ref_at he2
    obtain ⟨g1, g2, g3, g4⟩ := hw.heard w e t he ht
    obtain ⟨k1, k2, k3, k4⟩ := hw.heard o e2 t2 he2 ht2
    obtain ⟨dx, d, kvs, ks, hX, hG, hGs, hGe⟩ := (hw.hand w x z t hx hz ht).it
    obtain ⟨dx2, d2, kvs2, ks2, hX2, hG2, hGs2, hGe2⟩ := (hw.hand o x2 z2 t2 hx2 hz3 ht2).it
    have hks : ks.length ≤ 100 := by have := hG.len; omega
    have hks2 : ks2.length ≤ 100 := by have := hG2.len; omega
    have hem := List.mem_of_getElem? he
    have hem2 := List.mem_of_getElem? he2
    have hgd := hG.at_
    have hgp := hG.pg
    have hgd2 := hG2.at_
    have hgp2 := hG2.pg
    have hB1 : B ≤ B + 1000000000 := by omega
    refine Gc.cut_go (fun σ' H9 => Hold (∃ v10 v11 v12 bs' ds' hs', σ' = [some (.ref hL), some (.ref eL), some (.ref dL), some (.ref bL), some (.int cell), some (.int (zs.length : Nat)), some (.int w), some (.int o), some (.int mo), some (.bl true), v10, v11, v12, none] ∧ HW K T.k_Hand H9 zs (B + 1000000000) hL eL dL bL xs es bs' ds' hs' ∧ ds'.length ≤ ds.length + 1 ∧ bs'.length ≤ bs.length + 1 ∧ Kept dL bL H'' H9)) (fun R9 B9 E9 => ?_) (fun σ' H9 hm => ?_)
    · walk_at "gc"
      refine Gc.lt_2 (fun c1 => ?_) (fun c1 => ?_)
      · walk_at "gc"
        obtain ⟨ts, hdl1, hdl2, hdl3⟩ := hw.dl.it
        have hzx := hw.xl
        refine Gc.op_go fun N9 R9 B9 E9 hN9 hR9 => ?_
        walk_at "gc"
        rename_i M hM1 hM2
        refine hN9 _ _ ?_
        clear hN9 hR9
        have mM : -(2 ^ 64) < (2 : Int) ∧ (2 : Int) < 2 ^ 64 := by decide
        have mM2 : -(2 ^ 64) < 2 * M ∧ 2 * M < 2 ^ 64 := ⟨by omega, by omega⟩
        have htl : (ts.map V.ref).length < sizeLine := Evl.sz_lt (by rw [List.length_map]; omega)
        have hP5 : cell % 5 = 0 ∨ cell % 5 = 1 := by omega
        refine Gc.op_go fun N9 R9 B9 E9 hN9 hR9 => ?_
        walk_at "gc"
        rename_i tp htp H1 e1 f1
        refine hN9 _ _ ?_
        clear hN9 hR9
        obtain ⟨m, hm⟩ : ∃ m, M - 2 * M * (cell % 5) = m := ⟨_, rfl⟩
        have f1 : H1 tp = some (.tup [.int w, .int m]) := by rw [← hm]; exact f1
        have ha : m = if cell % 5 = 0 then M else -M := by
          rw [← hm]
          rcases hP5 with q | q <;> rw [q]
          · rw [if_pos rfl]; omega
          · rw [if_neg (by decide)]; omega
        have hm0 : ¬ m = 0 ∧ -1000000000 ≤ m ∧ m ≤ 1000000000 := by
          rw [ha]
          split <;> exact ⟨by omega, by omega, by omega⟩
        have hd1 := e1 _ _ hdl1
        have etL := Et.lst (K := K) (ys := ts.map V.ref ++ [.ref tp]) hd1
        have hdl2 : DLs K (upd H1 dL (.lst (ts.map V.ref ++ [.ref tp]))) dL (ds ++ [(w, m)]) := ⟨ts ++ [tp], by rw [upd_same, List.map_append]; rfl, by rw [List.length_append, List.length_append, hdl2]; rfl, fun i t9 d9 a b => by
          by_cases c : i < ts.length
          · rw [List.getElem?_append_left c] at a
            rw [List.getElem?_append_left (by omega)] at b
            exact etL.tp _ _ (Er.sqT (Er.of e1) (hdl3 i t9 d9 a b))
          · have hi : i = ts.length := by
              have := (List.getElem?_eq_some_iff.mp a).1
              rw [List.length_append, List.length_singleton] at this
              omega
            rw [hi, List.getElem?_append_right (Nat.le_refl _), Nat.sub_self] at a
            rw [hi, List.getElem?_append_right (by omega), show ts.length - ds.length = 0 by omega] at b
            cases a; cases b
            exact etL.tp _ _ (Evl.st_of f1)⟩
        have keep : ∀ {a : Addr} {u : L2.HO}, H'' a = some u → a ≠ dL → upd H1 dL (.lst (ts.map V.ref ++ [.ref tp])) a = some u := fun q n => by rw [upd_ne n]; exact e1 _ _ q
        have hed : e ≠ dL := fun c => by rw [c, hdl1] at g1; cases g1
        have hxd : x ≠ dL := fun c => by rw [c, hdl1] at hX; cases hX
        have hdd : d ≠ dL := fun c => by rw [c, hdl1] at hgd; cases hgd
        have g12 := keep g1 hed
        have hX2' := keep hX hxd
        have hgd2' := keep hgd hdd
        have hgp2' := (hgp.et (Et.of e1)).et etL
        have hHL2 := keep hHL (Ne.symm hw.ne.2.1)
        have hel2 := keep hel (Ne.symm hw.ne.2.2.1)
        have hdL2 : upd H1 dL (.lst (ts.map V.ref ++ [.ref tp])) dL = some (.lst (ts.map V.ref ++ [.ref tp])) := upd_same
        have ex2 : Exs (fun a => a = x ∨ a = e ∨ a = dL) H'' (upd H1 dL (.lst (ts.map V.ref ++ [.ref tp]))) := (Exs.of e1).trans (Exs.upd (.inr (.inr rfl)))
        have hlen1 : (((ts.map V.ref ++ [V.ref tp]).length : Nat) : Int) - 1 = ((ds.length : Nat) : Int) := by rw [List.length_append, List.length_map]; show ((ts.length + 1 : Nat) : Int) - 1 = _; omega
        clear hd1 etL keep f1 htp hdl3 hHL hel
        generalize upd H1 dL (.lst (ts.map V.ref ++ [.ref tp])) = H2 at *
        refine Gc.op_go fun N9 R9 B9 E9 hN9 hR9 => ?_
        walk_at "gc"
        have htl2 : t.length ≤ 100 := by have := nd_range g2 g3; omega
        have hkey : DPut H2 e (V.int ((((ts.map V.ref ++ [V.ref tp]).length : Nat) : Int) - 1)) (V.bl true) (upd H2 e (.dK (putK (rowsN t) (.inl ((ds.length : Nat) : Int)) (.bl true)))) := by
          rw [hlen1]
          exact DPut.k (k := .inl ((ds.length : Nat) : Int)) g12 (Evl.sz_lt (by rw [rowsN_len]; omega))
        refine And.intro hkey ?_
        walk_at "gc"
        refine hN9 _ _ ?_
        clear hN9 hR9
        have hadd : putK (rowsN t) (.inl ((ds.length : Nat) : Int)) (.bl true) = rowsN (t ++ [ds.length]) := by
          rw [rowsN_put]
          unfold addN
          rw [if_neg (fun q => by have := g3 _ q; omega)]
        rw [hadd]
        have hxe : x ≠ e := fun c => by rw [c, g1] at hX; cases hX
        have hde : d ≠ e := fun c => hGe (c ▸ hem)
        have hle : ∀ {a : Addr} {ys : List V}, H2 a = some (.lst ys) → upd H2 e (.dK (rowsN (t ++ [ds.length]))) a = some (.lst ys) := fun q => by rw [upd_ne (fun c => by rw [c, g12] at q; cases q)]; exact q
        have g13 : upd H2 e (.dK (rowsN (t ++ [ds.length]))) e = some (.dK (rowsN (t ++ [ds.length]))) := upd_same
        have hX3 : upd H2 e (.dK (rowsN (t ++ [ds.length]))) x = some (insH T.k_Hand dx z d) := by rw [upd_ne hxe]; exact hX2'
        have hgd3 : upd H2 e (.dK (rowsN (t ++ [ds.length]))) d = some (.dK kvs) := by rw [upd_ne hde]; exact hgd2'
        have et3 := Et.dK (K := K) (ys := rowsN (t ++ [ds.length])) g12
        have hgp3 := hgp2'.et et3
        have hHL3 := hle hHL2
        have hel3 := hle hel2
        have ex3 : Exs (fun a => a = x ∨ a = e ∨ a = dL) H'' (upd H2 e (.dK (rowsN (t ++ [ds.length])))) := ex2.trans (Exs.upd (.inr (.inl rfl)))
        have hdl3 : DLs K (upd H2 e (.dK (rowsN (t ++ [ds.length])))) dL (ds ++ [(w, m)]) := by
          obtain ⟨us, p1, p2, p3⟩ := hdl2.it
          exact ⟨us, hle p1, p2, fun i t9 d9 a b => et3.tp _ _ (p3 i t9 d9 a b)⟩
        clear hX2' hgd2' hgp2' hHL2 hel2 ex2 hdl2 g12 hdL2 hkey hle et3 hlen1
        generalize upd H2 e (.dK (rowsN (t ++ [ds.length]))) = H3 at *
        have hzm := List.mem_of_getElem? hz
        have hnn := hG.nn
        have hks9 : ks.length ≤ 900 := by omega
        have ham : amountB M = true := by unfold amountB; simp only [Bool.and_eq_true, decide_eq_true_eq]; exact ⟨hM1, hM2⟩
        have hdp := deed_page (ds := ds) (t := t) hz hM1 hP5 ha
        have hxl9 : (xs.map V.ref).length = zs.length := by rw [List.length_map]; exact hw.xl
        refine Gc.cut_go (fun σ' H4 => Hold (∃ d' kvs' ys, σ' = [some (.ref hL), some (.ref eL), some (.ref dL), some (.ref bL), some (.int cell), some (.int (zs.length : Nat)), some (.int w), some (.int o), some (.int mo), some (.bl true), some (.int M), some (.int (totF ys (pageF zs (ds ++ [(w, m)]) (inP (t ++ [ds.length]))))), none, none] ∧ H3 d' = none ∧ Exs (fun a => a = x) H3 H4 ∧ H4 x = some (insH T.k_Hand dx z d') ∧ H4 d' = some (.dK kvs') ∧ PgK K H4 kvs' ys (pageF zs (ds ++ [(w, m)]) (inP (t ++ [ds.length]))) ∧ PyProof.Rows.sortedS ys = true ∧ ∀ y, y ∈ ys ↔ y ∈ ks ∨ y = z)) (fun R9 B9 E9 => ?_) (fun σ' H4 hm9 => ?_)
        · walk_at "gc"
          refine Gc.eqI_2 (fun c5 => ?_) (fun c5 => ?_)
          · walk_at "gc"
            refine Or.inl ⟨M, rfl, ham, fun d' kvs' ys H4 a1 a2 a3 a4 a5 a6 a7 => ?_⟩
            rw [c5] at hdp
            rw [← hdp] at a5 ⊢
            walk_at "gc"
            exact ⟨⟨d', kvs', ys, by rw [← hmo]; rfl, a1, a2, a3, a4, a5, a6, a7⟩⟩
          · walk_at "gc"
            refine Or.inl ⟨M, rfl, ham, fun d' kvs' ys H4 a1 a2 a3 a4 a5 a6 a7 => ?_⟩
            rw [show cell % 5 = 1 by omega] at hdp
            rw [← hdp] at a5 ⊢
            walk_at "gc"
            exact ⟨⟨d', kvs', ys, by rw [← hmo]; rfl, a1, a2, a3, a4, a5, a6, a7⟩⟩
        obtain ⟨⟨d', kvs', ys, rfl, a1, a2, a3, a4, a5, a6, a7⟩⟩ := hm9
        have hd'e : ¬ d' ∈ es := fun q => by
          obtain ⟨j, hj⟩ := List.mem_iff_getElem?.mp q
          have hjl := (List.getElem?_eq_some_iff.mp hj).1
          have hj2 := (hw.heard j d' (hs[j]'(by rw [hw.hsl, ← hw.esl]; exact hjl)) hj (List.getElem?_eq_getElem _)).1
          have hj3 : H3 d' = _ := ex3 _ _ (fun c => by
            rcases c with c | c | c
            · rw [c, hX] at hj2; cases hj2
            · rw [c, g13] at a1; cases a1
            · rw [c, hdl1] at hj2; cases hj2) hj2
          rw [a1] at hj3
          cases hj3
        have ex4 : Exs (fun a => a = x ∨ a = e ∨ a = dL) H'' H4 := ex3.trans (a2.new fun a c => .inl (.inl c))
        have g14 := a2 _ _ (Ne.symm hxe) g13
        have hel4 := a2 _ _ (fun c => by rw [c, hX3] at hel3; cases hel3) hel3
        have hdl4 : DLs K H4 dL (ds ++ [(w, m)]) := by
          obtain ⟨us, p1, p2, p3⟩ := hdl3.it
          exact ⟨us, a2 _ _ (fun c => by rw [c, hX3] at p1; cases p1) p1, p2, fun i t9 d9 a b => sqT_exs a2 (fun p c => .inl ⟨_, _, _, c ▸ hX3⟩) (p3 i t9 d9 a b)⟩
        have hPG : PG K none H4 zs (B + 1000000000) d' kvs' ys (pageF zs (ds ++ [(w, m)]) (inP (t ++ [ds.length]))) := by
          rw [hdp] at a5 ⊢
          exact PG.deed hG hzm (hw.nm z hzm) hM1 hM2 hB0 hB a4 a5 a7
        have hwf := hw.deed hB1 hx he hz ht ex4 hm0 hdl4 g14 a3 hPG a6 hd'e
        have hrg : ∀ k ∈ t ++ [ds.length], k < (ds ++ [(w, m)]).length := fun k hk => by
          rw [List.length_append, List.length_singleton]
          rcases List.mem_append.mp hk with q | q
          · have := g3 k q; omega
          · rw [List.mem_singleton.mp q]; omega
        have hnd9 : (t ++ [ds.length]).Nodup := List.nodup_append.mpr ⟨g2, List.nodup_cons.mpr ⟨by simp, List.nodup_nil⟩, fun a ha b hb e => by rw [List.mem_singleton.mp hb] at e; have := g3 a ha; omega⟩
        have hkp : Kept dL bL H'' H4 := Kept.exs ex4 fun a c => by
          rcases c with c | c | c
          · exact .inr (.inr (.inl ⟨_, _, _, by rw [c]; exact hX⟩))
          · exact .inr (.inr (.inr ⟨_, by rw [c]; exact g1⟩))
          · exact .inl c
        have heq : decide (V.int (totF ys (pageF zs (ds ++ [(w, m)]) (inP (t ++ [ds.length])))) = V.int (sumH (ds ++ [(w, m)]) (t ++ [ds.length]))) = true := decide_eq_true (by rw [hPG.tot hw.nd, tot_page hwf.ok hw.nd, ← sumH_hsum hnd9 hrg])
        clear ex3 hX3 hgd3 hgp3 hHL3 hel3 hdl3 g13
        walk_at "gc"
        rename_i H5 e5
        exact ⟨⟨some (.int M), _, none, bs, ds ++ [(w, m)], _, by rw [heq]; rfl, hwf.ex e5, by rw [List.length_append]; exact Nat.le_refl _, Nat.le_succ _, hkp.trans (Kept.of e5)⟩⟩
      walk_at "gc"
      refine Gc.eqI_2 (fun c2 => ?_) (fun c2 => ?_)
      · walk_at "gc"
        rename_i p H1 hp0 e1 f1
        have hgp21 := hgp2.et (Et.of e1)
        refine Or.inl ⟨p, kvs2, ks2, _, rfl, f1, hgp21, hG2.nn, hG2.nm, by omega, fun l kvl kl Hl hl0 el fl pl sl ml ll => ?_⟩
        have e1l := e1.trans el
        have hwl := hw.ex e1l
        have hdl1 := hwl.dl
        have hel1 := hwl.el
        have g11 := e1l _ _ g1
        have k11 := e1l _ _ k1
        have htl : t.length ≤ 1000 := by have := nd_range g2 g3; omega
        clear hHL hel hbl hX hX2 hgd hgp hgd2 hgp2 f1 hgp21
        walk_at "gc"
        rename_i wn Hn hwn0 en fn b hb0 Hb eb fb
        have hbs2 : (bs.map V.ref).length < sizeLine := Evl.sz_lt (by rw [List.length_map]; omega)
        have hwb := hwl.ex (en.trans eb)
        have hbl := hwb.bl
        refine And.intro hbl (And.intro hbs2 ?_)
        have hb9 : upd Hb bL (.lst (bs.map V.ref ++ [.ref b])) bL = some (.lst ((bs ++ [b]).map V.ref)) := by rw [upd_same, List.map_append]; rfl
        have exb : Exs (fun a => a = bL) Hb (upd Hb bL (.lst (bs.map V.ref ++ [.ref b]))) := Exs.upd rfl
        have flb := eb _ _ (en _ _ fl)
        have fnb := eb _ _ fn
        have hlb : l ≠ bL := fun c => by rw [c, hbl] at flb; cases flb
        have hnb : wn ≠ bL := fun c => by rw [c, hbl] at fnb; cases fnb
        have plb := (pl.et (Et.of (en.trans eb))).et (Et.lst (K := K) (ys := bs.map V.ref ++ [.ref b]) hbl)
        have stb := (Et.lst (K := K) (ys := bs.map V.ref ++ [.ref b]) hbl).tp _ _ (Evl.st_of (K := K) fb)
        have hPl := PG.lack hG hB0 ((upd_ne hlb).trans flb) plb ml
        rw [letter_page hw.ok hw.nd g3 g4 k4] at hPl
        have hLet : LetE K (upd Hb bL (.lst (bs.map V.ref ++ [.ref b]))) zs es B ds b := ⟨l, wn, kvl, kl, newsL ds t t2, stb, hPl, (upd_ne hnb).trans fnb, hwl.fresh hwn0, (hw.ex e1).fresh hl0, List.Pairwise.filter _ g2, fun k hk => g3 k (mem_newsL.mp hk).1, news_closed g4⟩
        have hwf := (hwb.letter exb hb9 hLet).up hB1
        refine ⟨⟨none, none, none, _, _, _, by rw [← hmo]; rfl, hwf, by omega, by rw [List.length_append]; exact Nat.le_refl _, ?_⟩⟩
        exact (Kept.of (e1l.trans (en.trans eb))).trans (Kept.exs exb fun a c => .inr (.inl c))
      have hhear : ∀ (pg wn : Addr) (kv2 : List (Key × V)) (ls : List Str) (ns : List Nat) (Hc : Hp), Ex H'' Hc → PG K none Hc zs B pg kv2 ls (pageF zs ds (inP ns)) → Hc wn = some (.dK (rowsN ns)) → ¬ wn ∈ es → ¬ pg ∈ es → ns.Nodup → (∀ k ∈ ns, k < ds.length) → Closed ds (inP ns) → ∀ Q : VK, (∀ hs' H', HW K T.k_Hand H' zs (B + 1000000000) hL eL dL bL xs es bs ds hs' → Kept dL bL H'' H' → Q (.bl true) H') → sp_hears K T.k_Hand [.ref x, .ref pg, .ref dL, .ref e, .ref wn] Hc Q E0 := fun pg wn kv2 ls ns Hc ec hq hwn hn1 hn2 hn3 hn4 hn5 Q hQ => by
        have hwc := hw.ex ec
        have hGc := hG.ex ec
        refine ⟨x, dx, z, d, kvs, ks, pg, kv2, ls, dL, e, wn, zs, ds, t, ns, rfl, ec _ _ hX, hGc.at_, hGc.pg, hq.at_, hq.pg, hq.nm, hks, by have := hq.len; omega, hq.sub, hw.ok, hw.nd, hwc.dl, ec _ _ g1, hwn, fun c => hn1 (c ▸ hem), fun c => hn2 (c ▸ hem), g4, hn5, g3, hn4, g2, hn3, by omega, hw.trust hz ht g4 hn5, fun d' kvs' ys H' a1 a2 a3 a4 a5 a6 a7 a8 => ?_⟩
        exact hQ _ H' ((hwc.hears hx he hz ht hGc hq hn3 hn4 hn5 a1 a2 a3 a4 a5 a6 a7 a8).up hB1) ((Kept.of ec).trans (hwc.kept hx he hz ht a2))
      walk_at "gc"
      refine Gc.eqI_2 (fun c3 => ?_) (fun c3 => ?_)
      · walk_at "gc"
        refine Gc.lt_2 (fun c4 => ?_) (fun c4 => ?_)
        · obtain ⟨bi, hb1, hbi⟩ := place (n := (bs.map V.ref).length) (j := cell / 720) (by omega)
          have hbi' : bi < bs.length := by rw [List.length_map] at hbi; exact hbi
          have hbx := List.getElem?_eq_getElem hbi'
          have hbm := List.getElem_mem hbi'
          generalize bs[bi] = b at hbx hbm
          obtain ⟨l, wn, kvl, kl, ns, stb, hPl, hwn, hn1, hn2, hn3, hn4, hn5⟩ := (hw.lets b hbm).it
          have hab : atI (bs.map V.ref) (cell / 720 % (((bs.map V.ref).length : Nat) : Int)) = some (.ref b) := by rw [hb1]; exact ref_at hbx
          have hld := hPl.at_
          have hposb : (0 : Int) < (((bs.map V.ref).length : Nat) : Int) := c4
          have hkl100 : kl.length ≤ 100 := by have := hPl.len; omega
          refine Gc.op_go fun N9 R9 B9 E9 hN9 hR9 => ?_
          walk_at "gc"
          refine hN9 _ _ ?_
          clear hN9 hR9
          walk_at "gc"
          rename_i c9 hc9 H1 e1 f1
          have hq1 : PG K none H1 zs B c9 kvl kl (pageF zs ds (inP ns)) := ⟨f1, hPl.pg.et (Et.of e1), hPl.nm, hPl.nn, hPl.sub, hPl.bd, fun x hx => by cases hx⟩
          refine ⟨hq1.pg, hPl.nm, hks, hkl100, hPl.sub, hw.ok, hw.nd, hw.dl.ex e1, e1 _ _ g1, e1 _ _ hwn, fun c => hn1 (c ▸ hem), fun c => (hw.fresh hc9) (c ▸ hem), g4, hn5, g3, hn4, g2, hn3, by omega, hw.trust hz ht g4 hn5, fun d' kvs' ys H' a1 a2 a3 a4 a5 a6 a7 a8 => ?_⟩
          have hwf := ((hw.ex e1).hears hx he hz ht (hG.ex e1) hq1 hn3 hn4 hn5 a1 a2 a3 a4 a5 a6 a7 a8).up hB1
          walk_at "gc"
          exact ⟨⟨none, none, some (.ref b), _, _, _, by rw [← hmo]; rfl, hwf, Nat.le_succ _, Nat.le_succ _, (Kept.of e1).trans ((hw.ex e1).kept hx he hz ht a2)⟩⟩
        · walk_at "gc"
          rename_i pg H1 hp0 e1 f1 w3 hw0 H2 e2 f2
          have e12 := e1.trans e2
          have hpe : pg ≠ e := fun c => (hw.fresh hp0) (c ▸ hem)
          have hwe : w3 ≠ e := fun c => ((hw.ex e1).fresh hw0) (c ▸ hem)
          have hq2 : PG K none H2 zs B pg kvs2 ks2 (pageF zs ds (inP t2)) := ⟨e2 _ _ f1, hG2.pg.et (Et.of e12), hG2.nm, hG2.nn, hG2.sub, hG2.bd, fun x hx => by cases hx⟩
          refine ⟨hG2.nm, hks, hks2, hG2.sub, hw.ok, hw.nd, hw.dl.ex e12, e12 _ _ g1, f2, hwe, hpe, g4, k4, g3, k3, g2, k2, by omega, hw.trust hz ht g4 k4, fun d' kvs' ys H' a1 a2 a3 a4 a5 a6 a7 a8 => ?_⟩
          have hwf := ((hw.ex e12).hears hx he hz ht (hG.ex e12) hq2 k2 k3 k4 a1 a2 a3 a4 a5 a6 a7 a8).up hB1
          walk_at "gc"
          exact ⟨⟨none, none, none, _, _, _, by rw [← hmo]; rfl, hwf, Nat.le_succ _, Nat.le_succ _, (Kept.of e12).trans ((hw.ex e12).kept hx he hz ht a2)⟩⟩
      · walk_at "gc"
        rename_i pg H1 hp0 e1 f1 w3 hw0 H2 e2 f2
        have e12 := e1.trans e2
        have hpe : pg ≠ e := fun c => (hw.fresh hp0) (c ▸ hem)
        have hwe : w3 ≠ e := fun c => ((hw.ex e1).fresh hw0) (c ▸ hem)
        have hq2 : PG K none H2 zs B pg kvs2 ks2 (pageF zs ds (inP t2)) := ⟨e2 _ _ f1, hG2.pg.et (Et.of e12), hG2.nm, hG2.nn, hG2.sub, hG2.bd, fun x hx => by cases hx⟩
        refine ⟨hG2.nm, hks, hks2, hG2.sub, hw.ok, hw.nd, hw.dl.ex e12, e12 _ _ g1, f2, hwe, hpe, g4, k4, g3, k3, g2, k2, by omega, hw.trust hz ht g4 k4, fun d' kvs' ys H' a1 a2 a3 a4 a5 a6 a7 a8 => ?_⟩
        have hwf := ((hw.ex e12).hears hx he hz ht (hG.ex e12) hq2 k2 k3 k4 a1 a2 a3 a4 a5 a6 a7 a8).up hB1
        walk_at "gc"
        exact ⟨⟨none, none, none, _, _, _, by rw [← hmo]; rfl, hwf, Nat.le_succ _, Nat.le_succ _, (Kept.of e12).trans ((hw.ex e12).kept hx he hz ht a2)⟩⟩
    obtain ⟨⟨v10, v11, v12, bs', ds', hs', rfl, hw9, hl1, hl2, hk9⟩⟩ := hm
    obtain ⟨y, z9, f, u, q1, q2, q3, q4⟩ := hw9.at_ hwl
    rw [hx] at q1
    rw [hz] at q2
    rw [he] at q3
    cases q1; cases q2; cases q3
    obtain ⟨r1, r2, r3, r4⟩ := hw9.heard w e u he q4
    obtain ⟨dx9, d9, kvs9, ks9, hX9, hG9, _, _⟩ := (hw9.hand w x z u hx hz q4).it
    have hks9 : ks9.length ≤ 1000 := by have := hG9.len; omega
    have hHL9 := hw9.hl
    have hEL9 := hw9.el
    have hDL9 := hw9.dl
    have hg9 := hG9.at_
    have hp9 := hG9.pg
    refine Gc.op_go fun N9 R9 B9 E9 hN9 hR9 => ?_
    walk_at "gc"
    refine hN9 _ _ ?_
    clear hN9 hR9
    refine Gc.end_go fun N9 R9 B9 E9 hN9 hR9 => ?_
    rename_i H10 e10
    have hDL10 := hDL9.ex e10
    have hEL10 := e10 _ _ hEL9
    have r10 := e10 _ _ r1
    clear hDL9 hEL9 hHL9 hg9 hp9
    walk_at "gc"
    rename_i H11 e11
    exact Gc.bl_eq (decide_eq_true (by rw [hG9.tot hw9.nd, tot_page hw9.ok hw9.nd, ← sumH_hsum r2 r3])) (hR9 _ _ (k bs' ds' hs' _ (hw9.ex (e10.trans e11)) hl1 hl2 (hk9.trans (Kept.of (e10.trans e11)))))
theorem ok_law_k13 (T : Tx K mg) : FnOk P w K mg base CX0 7 T.f_law_k13 T.fd_law_k13 ["_law_script"] (sp_law K) := by
  refine T.F_law_k13.ok sc_law_k13 (fun vs H Q E h => ?_) (fun cdv A outer s H vs Q E hr h => ?_)
  · first | (obtain ⟨rfl, _⟩ := h; rfl) | (obtain ⟨_, rfl, _⟩ := h; rfl) | (obtain ⟨_, _, rfl, _⟩ := h; rfl) | (obtain ⟨_, _, _, rfl, _⟩ := h; rfl) | (obtain ⟨_, _, _, _, rfl, _⟩ := h; rfl) | (obtain ⟨_, _, _, _, _, rfl, _⟩ := h; rfl) | (obtain ⟨_, _, _, _, _, _, rfl, _⟩ := h; rfl) | (obtain ⟨_, _, _, _, _, _, _, rfl, _⟩ := h; rfl) | (obtain ⟨_, _, _, _, _, _, _, _, rfl, _⟩ := h; rfl)
  · obtain ⟨a, ns, rfl, hs, hl, k⟩ := h
    refine ⟨_, (pss_cut (ps_set (i := 1) sc_law_k13.nd rfl (Or.inl rfl) (pe_op op_add pe_int (pe_op op_mod (pe_call (ok_l_cell_at T) (hr.mono (by decide)) rfl T.m_l_cell_at T.F_l_cell_at.kp T.b_l_cell_at .nil pass0 (pa_cons (pv 0) (pa_cons pe_int pa_nil))) pe_int))) (pss_cut (ps_if (pt_cmpR op_eq (pe_op op_mod (pe_op op_fdiv (pe_call (ok_l_cell_at T) (hr.mono (by decide)) rfl T.m_l_cell_at T.F_l_cell_at.kp T.b_l_cell_at .nil pass0 (pa_cons (pv 0) (pa_cons pe_int pa_nil))) pe_int) pe_int) pe_int (nomark _)) (pss_one (ps_set (i := 1) sc_law_k13.nd rfl (Or.inl rfl) pe_int)) pss_nil) (pss_cut (ps_setLc (i := 2) (own := [("_law_name", 3)]) (g := gName 3) (tt := tYes) rfl sc_law_k13.nd rfl rfl (sw_true rfl rfl rfl (by decide +kernel)) (pi_list (pe_call (ok_l_names12 T) (hr.mono (by decide)) rfl T.m_l_names12 T.F_l_names12.kp T.b_l_names12 .nil pass0 (pa_cons (pv 0) (pa_cons (pv 1) pa_nil)))) (blkOk_by (own := [("_law_name", 3)]) (N := ["_law_script", "_law_size", "_law_hands", "_law_name", "_law_heard", "_law_hand", "_law_deeds", "_law_bag", "_law_k", "_law_due", "_law_deed_here"]) (sc := defScope s_law_k13) (by decide +kernel)) (fun _ _ _ _ _ => pg_name (i := 3) sc_law_k13.nd rfl (Or.inl rfl)) (fun _ _ _ _ _ => pts_nil) (fun _ _ _ _ _ => (pe_make T.M_Hand (ok_Hand_init T) (hr.mono (by decide)) rfl T.g_Hand T.b_Hand_init .nil passLN (pa_cons (pv 3) pa_nil)))) (pss_cut (ps_setLc (i := 4) (own := [("_law_hand", 5)]) (g := gName 5) (tt := tYes) rfl sc_law_k13.nd rfl rfl (sw_true rfl rfl rfl (by decide +kernel)) (pi_list (pv 2)) (blkOk_by (own := [("_law_hand", 5)]) (N := ["_law_script", "_law_size", "_law_hands", "_law_name", "_law_heard", "_law_hand", "_law_deeds", "_law_bag", "_law_k", "_law_due", "_law_deed_here"]) (sc := defScope s_law_k13) (by decide +kernel)) (fun _ _ _ _ _ => pg_name (i := 5) sc_law_k13.nd rfl (Or.inl rfl)) (fun _ _ _ _ _ => pts_nil) (fun _ _ _ _ _ => pe_dnewK)) (pss_cut (ps_set (i := 6) sc_law_k13.nd rfl (Or.inl rfl) (pe_lst pa_nil)) (pss_cut (ps_set (i := 7) sc_law_k13.nd rfl (Or.inl rfl) (pe_lst pa_nil)) (pss_cut (ps_for PassesOwn.never rfl (pi_range2 rfl T.n_range (pa_cons pe_int (pa_cons (pe_callB call_len_seq (by rfl) T.n_len PySem.boot_len (pa_cons (pv 0) pa_nil)) pa_nil))) (pg_name (i := 8) sc_law_k13.nd rfl (Or.inl rfl)) (pss_one (ps_if (pt_not (pt_val (pe_call (ok_l_deed13 T) (hr.mono (by decide)) rfl T.m_l_deed13 T.F_l_deed13.kp T.b_l_deed13 .nil pass0 (pa_cons (pv 2) (pa_cons (pv 4) (pa_cons (pv 6) (pa_cons (pv 7) (pa_cons (pe_ix ix_list (pv 0) (pv 8) (fun _ _ => rfl)) pa_nil)))))))) (pss_one (ps_ret pe_bl)) pss_nil))) (pss_cut (ps_for PassesOwn.never rfl (pi_list (pv 2)) (pg_name (i := 5) sc_law_k13.nd rfl (Or.inl rfl)) (pss_one (ps_expr (pe_meth (pe_ix ix_list (pv 2) pe_int (fun _ _ => rfl)) T.cl_Hand T.M_Hand_hear (ok_Hand_hear T) (hr.mono (by decide)) T.b_Hand_hear .nil passLN (pa_cons (pe_meth0 (pv 5) T.cl_Hand T.M_Hand_page (ok_Hand_page T) (hr.mono (by decide)) T.b_Hand_page .nil pass0) pa_nil))))) (pss_cut (ps_set (i := 9) sc_law_k13.nd rfl (Or.inl rfl) pe_int) (pss_cut (ps_for PassesOwn.never rfl (pi_list (pv 6)) (pg_name (i := 10) sc_law_k13.nd rfl (Or.inl rfl)) (pss_one (ps_set (i := 9) sc_law_k13.nd rfl (Or.inl rfl) (pe_op op_add (pv 9) (pe_ix ix_tup (pv 10) pe_int (fun _ _ => rfl)))))) (pss_cut (ps_for PassesOwn.never rfl (pi_list (pv 2)) (pg_name (i := 5) sc_law_k13.nd rfl (Or.inl rfl)) (pss_cons (ps_expr (pe_meth (pv 5) T.cl_Hand T.M_Hand_hear (ok_Hand_hear T) (hr.mono (by decide)) T.b_Hand_hear .nil passLN (pa_cons (pe_meth0 (pe_ix ix_list (pv 2) pe_int (fun _ _ => rfl)) T.cl_Hand T.M_Hand_page (ok_Hand_page T) (hr.mono (by decide)) T.b_Hand_page .nil pass0) pa_nil))) (pss_one (ps_if (PW.pt (pw_or (pt_cmpR op_ne (pe_meth0 (pv 5) T.cl_Hand T.M_Hand_told (ok_Hand_told T) (hr.mono (by decide)) T.b_Hand_told .nil pass0) (pv 9) (nomark _)) (pw_or1 (pt_cmpR (op_pgEqN (hu70 hr)) (pe_meth0 (pv 5) T.cl_Hand T.M_Hand_page (ok_Hand_page T) (hr.mono (by decide)) T.b_Hand_page .nil pass0) (pe_meth0 (pe_ix ix_list (pv 2) pe_int (fun _ _ => rfl)) T.cl_Hand T.M_Hand_page (ok_Hand_page T) (hr.mono (by decide)) T.b_Hand_page .nil pass0) (nomark _))))) (pss_one (ps_ret pe_bl)) pss_nil)))) (pss_one (ps_ret pe_bl))))))))))))), ?_⟩
    have m4 := mod_in (a := cellI ns 0) (b := 4) (by decide)
    refine Gc.op_go fun N9 R9 B9 E9 hN9 hR9 => ?_
    walk_at "gc"
    refine hN9 _ _ ?_
    clear hN9 hR9
    refine Gc.cut_go (fun σ' H' => Hold (∃ s : Int, σ' = [some (.ref a), some (.int s), none, none, none, none, none, none, none, none, none] ∧ H' = H ∧ 2 ≤ s ∧ s ≤ 12)) (fun R9 B9 E9 => ?_) (fun σ' H' hm => ?_)
    · walk_at "gc"
      refine Gc.eqI_2 (fun c1 => ?_) (fun c1 => ?_)
      · walk_at "gc"
        exact ⟨⟨_, rfl, rfl, by omega, by omega⟩⟩
      · exact ⟨⟨_, rfl, rfl, by omega, by omega⟩⟩
    obtain ⟨⟨s, rfl, rfl, s0, s1⟩⟩ := hm
    refine Gc.op_go fun N9 R9 B9 E9 hN9 hR9 => ?_
    walk_at "gc"
    rename_i L m0 n0 zs H1 hL0 e1 f1 hz hzl D hD
    have hnd := hz.nd (by omega)
    have hzl12 : zs.length ≤ 12 := by omega
    have f1D : ∀ H', Ex (upd H1 D (.lst [])) H' → H' L = some (.lst (zs.map V.str)) := fun H' e => e _ _ (by rw [upd_ne (fun c => by rw [c, hD] at f1; cases f1)]; exact f1)
    refine Gc.lc_go (walk_list (K := K) (xs := zs.map V.str)) (fun i acc H' => ∃ xs : List Addr, acc = xs.map V.ref ∧ xs.length = i ∧ ∀ j x z, xs[j]? = some x → zs[j]? = some z → x ≠ D ∧ ∃ dx d, H' x = some (insH T.k_Hand dx z d) ∧ H' d = some (.dK []) ∧ d ≠ D) (by rw [List.length_map]; omega) hD (fun H' e => .inl (.inl (e _ _ f1))) (fun i acc H' o hp => ?_) (fun _ _ => ⟨[], rfl, rfl, fun j x z q => by rw [List.getElem?_nil] at q; cases q⟩) (fun i v acc H2 Kk Nn hi hy e hD2 p hK hN => ?_) (fun acc H2 e hD2 p => ?_)
    · obtain ⟨xs, p1, p2, p3⟩ := hp
      exact ⟨xs, p1, p2, fun j x z q1 q2 => by
        obtain ⟨n1, dx, d, g1, g2, n2⟩ := p3 j x z q1 q2
        exact ⟨n1, dx, d, by rw [upd_ne n1]; exact g1, by rw [upd_ne n2]; exact g2, n2⟩⟩
    · obtain ⟨z, hzi, rfl⟩ : ∃ z, zs[i]? = some z ∧ v = .str z := by
        have hy' : (zs.map V.str)[i]? = some v := hy
        rw [List.getElem?_map] at hy'
        cases q : zs[i]? with
        | none => rw [q] at hy'; cases hy'
        | some z => rw [q] at hy'; cases hy'; exact ⟨z, rfl, rfl⟩
      obtain ⟨xs, p1, p2, p3⟩ := p
      have hzn := hz.nm z (List.mem_of_getElem? hzi)
      walk_at "gc"
      rename_i x dx hx hdx hne
      refine Or.inl ⟨z, rfl, name_len hzn, hzn, fun d0 H3 _ hd0 ex3 q3 r3 => ?_⟩
      have e3 := make_ex hx hdx ex3
      have hup := make_ex (C := T.k_Hand) hx hdx (Exs.refl _ _)
      walk_at "gc"
      refine hK _ _ e3 ⟨xs ++ [x], by rw [p1, List.map_append]; rfl, by rw [List.length_append, p2]; rfl, fun j x' z' q1 q2 => ?_⟩
      by_cases c : j < xs.length
      · rw [List.getElem?_append_left c] at q1
        obtain ⟨n1, dx', d', b1, b2, n2⟩ := p3 j x' z' q1 q2
        exact ⟨n1, dx', d', e3 _ _ b1, e3 _ _ b2, n2⟩
      · rw [List.getElem?_append_right (by omega)] at q1
        have hj : j = i := by
          cases c2 : j - xs.length with
          | zero => omega
          | succ n => rw [c2] at q1; simp at q1
        subst hj
        rw [p2, Nat.sub_self] at q1
        cases q1
        rw [hzi] at q2
        cases q2
        exact ⟨fun c => (by rw [c, hD2] at hx; cases hx), dx, d0, q3, r3, fun c => by rw [c, hup _ _ hD2] at hd0; cases hd0⟩
    obtain ⟨xs, rfl, p2, p3⟩ := p
    rw [List.length_map] at p2
    refine hN9 _ _ ?_
    clear hN9 hR9
    refine Gc.op_go fun N9 R9 B9 E9 hN9 hR9 => ?_
    walk_at "gc"
    rename_i D2 hE0
    refine Gc.lc_go (walk_list (K := K) (xs := xs.map V.ref)) (fun i acc H' => ∃ es : List Addr, acc = es.map V.ref ∧ es.length = i ∧ es.Nodup ∧ ∀ e ∈ es, e ≠ D2 ∧ H2 e = none ∧ H' e = some (.dK [])) (by rw [List.length_map]; omega) hE0 (fun H' e => .inl (.inl (e _ _ hD2))) (fun i acc H' o hp => ?_) (fun _ _ => ⟨[], rfl, rfl, List.nodup_nil, fun e q => by cases q⟩) (fun i v acc H3 Kk Nn hi hy e3 hE3 p hK hN => ?_) (fun acc H3 e3 hE3 p => ?_)
    · obtain ⟨es, p1, p2, pn, p3⟩ := hp
      exact ⟨es, p1, p2, pn, fun e q => by obtain ⟨n1, n2, g⟩ := p3 e q; exact ⟨n1, n2, by rw [upd_ne n1]; exact g⟩⟩
    · obtain ⟨es, p1, p2, pn, p3⟩ := p
      walk_at "gc"
      rename_i q hq0 H4 e4 f4
      have hqe : ¬ q ∈ es := fun c => by have := (p3 q c).2.2; rw [hq0] at this; cases this
      refine hK _ _ e4 ⟨es ++ [q], by rw [p1, List.map_append]; rfl, by rw [List.length_append, p2]; rfl, List.nodup_append.mpr ⟨pn, List.nodup_cons.mpr ⟨by simp, List.nodup_nil⟩, fun a ha b hb c => hqe (by rw [← List.mem_singleton.mp hb, ← c]; exact ha)⟩, fun e he => ?_⟩
      rcases List.mem_append.mp he with c | c
      · obtain ⟨n1, n2, g⟩ := p3 e c
        exact ⟨n1, n2, e4 _ _ g⟩
      · rw [List.mem_singleton.mp c]
        exact ⟨fun c => (by rw [c, hE3] at hq0; cases hq0), ex_of_none e3 hq0, f4⟩
    obtain ⟨es, rfl, q2, qn, q3⟩ := p
    rw [List.length_map] at q2
    refine hN9 _ _ ?_
    clear hN9 hR9
    refine Gc.op_go fun N9 R9 B9 E9 hN9 hR9 => ?_
    walk_at "gc"
    rename_i dL hdL H4 e4 f4
    refine hN9 _ _ ?_
    clear hN9 hR9
    refine Gc.op_go fun N9 R9 B9 E9 hN9 hR9 => ?_
    walk_at "gc"
    rename_i bL hbL H5 e5 f5
    refine hN9 _ _ ?_
    clear hN9 hR9
    have e35 := e4.trans e5
    have e05 := e1.trans (e.trans (e3.trans e35))
    have hD3 := e3 _ _ hD2
    have hD5 := e35 _ _ hD3
    have hE5 := e35 _ _ hE3
    have hDd : dL ≠ D := fun c => by rw [c, hD3] at hdL; cases hdL
    have hDe : dL ≠ D2 := fun c => by rw [c, hE3] at hdL; cases hdL
    have hbd : dL ≠ bL := fun c => by rw [← c, f4] at hbL; cases hbL
    have hbD : bL ≠ D := fun c => by rw [c, e4 _ _ hD3] at hbL; cases hbL
    have hbE : bL ≠ D2 := fun c => by rw [c, e4 _ _ hE3] at hbL; cases hbL
    have hdH : H' dL = none := ex_of_none (e1.trans (e.trans e3)) hdL
    have hbH : H' bL = none := ex_of_none (e1.trans (e.trans (e3.trans e4))) hbL
    have hW : HW K T.k_Hand H5 zs 0 D D2 dL bL xs es [] [] (List.replicate zs.length []) := HW.start hD5 hE5 f5 (e5 _ _ f4) ⟨hbd, hDd, hDe, hbD, hbE⟩ p2 (q2.trans p2) qn hnd hz.nm (fun j x z b1 b2 => by
      obtain ⟨_, dx, d, g1, g2, _⟩ := p3 j x z b1 b2
      exact ⟨dx, d, e35 _ _ (e3 _ _ g1), e35 _ _ (e3 _ _ g2), fun c => by have := (q3 d c).2.1; rw [g2] at this; cases this⟩) (fun q c => e35 _ _ (q3 q c).2.2)
    have hz00 : (1000000000 : Int) * ((0 : Nat) : Int) = 0 := by decide
    have hW' : HW K T.k_Hand H5 zs (1000000000 * ((0 : Nat) : Int)) D D2 dL bL xs es [] [] (List.replicate zs.length []) := by rw [hz00]; exact hW
    have hs5 := Er.sqL (Er.of e05) hs
    have hnl : (ns.map V.int).length = ns.length := List.length_map _
    clear e1 e3 e4 e5 e35 f4 f5 hdL hbL hD3 hD5 hE5 hE3 hD2 p3 q3 f1 f1D hE0 hD hL0 hW hDd hDe hbd hbD hbE e
    refine Gc.op_go fun N9 R9 B9 E9 hN9 hR9 => ?_
    walk_at "gc"
    refine Gc.for_go (walk_range (lo := 3) (n := (((ns.map V.int).length : Nat) - 3 : Int).toNat)) (fun i σ' H9 => Hold (∃ v8 bs ds hs, σ' = [some (.ref a), some (.int s), some (.ref D), none, some (.ref D2), none, some (.ref dL), some (.ref bL), v8, none, none] ∧ HW K T.k_Hand H9 zs (1000000000 * (i : Int)) D D2 dL bL xs es bs ds hs ∧ ds.length ≤ i ∧ bs.length ≤ i ∧ Kept dL bL H5 H9)) ⟨⟨_, [], [], _, rfl, hW', Nat.zero_le _, Nat.zero_le _, Kept.of (Ex.refl _)⟩⟩ (fun _ _ _ _ _ => trivial) (fun R9 B9 i x9 σ' H6 H7 hi hp' hy => ?_) (fun σ' H6 hp' => ?_)
    · obtain ⟨⟨v8, bs, ds, hs9, rfl, hw, hl1, hl2, hk⟩⟩ := hp'
      obtain ⟨rfl, rfl⟩ := hy
      have hs7 : SqL K H7 a (ns.map V.int) := kept_sqL e05 hk hdH hbH hs
      obtain ⟨c, hc⟩ : ∃ c, atI (ns.map V.int) (3 + (i : Int)) = some (.int c) := by
        have hj : 3 + i < ns.length := by omega
        rw [show (3 : Int) + (i : Int) = ((3 + i : Nat) : Int) by omega]
        exact ⟨ns[3 + i], atI_nat (by rw [List.getElem?_map, List.getElem?_eq_getElem hj]; rfl)⟩
      walk_at "gc"
      rename_i bs' ds' hs' H8 hw8 g1 g2 k8
      refine Gc.iteN_f rfl ?_
      exact ⟨⟨_, bs', ds', hs', rfl, by rw [show (1000000000 : Int) * ((i + 1 : Nat) : Int) = 1000000000 * (i : Int) + 1000000000 by omega]; exact hw8, by omega, by omega, hk.trans k8⟩⟩
    obtain ⟨⟨v8, bs, ds, hs9, rfl, hw, hl1, hl2, hk⟩⟩ := hp'
    refine hN9 _ _ ?_
    clear hN9 hR9
    have hfin := hw.end_
    have hown := hw.own
    have hdl := hw.dl
    have hok := hw.ok
    have hhsl := hw.hsl
    clear hw hW' hs5 hk hl1 hl2 hz00
    generalize (1000000000 : Int) * ((((((ns.map V.int).length : Nat) : Int) - 3).toNat : Nat) : Int) = B at hfin
    have hD6 := hfin.hl
    refine Gc.op_go fun N9 R9 B9 E9 hN9 hR9 => ?_
    walk_at "gc"
    refine Gc.for_go (walk_list (K := K) (xs := xs.map V.ref)) (fun i σ' H9 => Hold (∃ v5 fs, σ' = [some (.ref a), some (.int s), some (.ref D), none, some (.ref D2), v5, some (.ref dL), some (.ref bL), v8, none, none] ∧ HL K T.k_Hand H9 zs B D xs ds fs ∧ HM hs9 fs i ∧ DLs K H9 dL ds)) ⟨⟨_, hs9, rfl, hfin, HM.start _, hdl⟩⟩ (fun _ _ _ _ hp => by obtain ⟨⟨_, _, _, q, _⟩⟩ := hp; exact Evl.sq_of q.hl) (fun R9 B9 i x9 σ' H7 H8 hi hp' hy => ?_) (fun σ' H7 hp' => ?_)
    · obtain ⟨⟨v5, fs, rfl, hh, hm, hdl7⟩⟩ := hp'
      obtain ⟨rfl, hxi⟩ := hy
      have hiz : i < zs.length := by rw [List.length_map] at hi; omega
      obtain ⟨x, z, t, q1, q2, q3⟩ := hh.at_ hiz
      obtain ⟨x0, z0, t0, r1, r2, r3⟩ := hh.at_ (i := 0) (by omega)
      rw [List.getElem?_map, q1] at hxi
      cases hxi
      obtain ⟨dx, d, kvs, ks, hx, hg, hsrt⟩ := (hh.hand i x z t q1 q2 q3).it
      obtain ⟨dx0, d0, kvs0, ks0, hx0, hg0, hsrt0⟩ := (hh.hand 0 x0 z0 t0 r1 r2 r3).it
      obtain ⟨t1, t2, t3⟩ := hh.set_ i t q3
      have hD8 := hh.hl
      have a0 : atI (xs.map V.ref) 0 = some (.ref x0) := ref_at (w := 0) r1
      have hgd := hg.at_
      have hgd0 := hg0.at_
      have hgp0 := hg0.pg
      have hks0 : ks0.length ≤ 800 := by have := hg0.len; omega
      walk_at "gc"
      rename_i c H9 hc e9 f9
      have hq : PG K none H9 zs B c kvs ks (pageF zs ds (inP t)) := ⟨f9, hg.pg.et (Et.of e9), hg.nm, hg.nn, hg.sub, hg.bd, fun x hx => by cases hx⟩
      refine Or.inl ⟨c, kvs, ks, _, rfl, f9, hq.pg, hg.nn, hg.nm, by have := hg.len; omega, fun _ d' kv5 ys H5 hd5 ex5 r5 rr5 p5 s5 m5 => ?_, fun hb => absurd hb (by rw [hh.trust r2 r3 t3]; exact Bool.noConfusion)⟩
      walk_at "gc"
      exact ⟨⟨_, _, rfl, (hh.ex e9).hears r1 r2 r3 (hg0.ex e9) hq t2 t3 ex5 r5 rr5 p5 s5 m5, hm.step r3 q3, (hdl7.ex e9).ins ⟨_, _, _, e9 _ _ hx0⟩ ex5⟩⟩
    obtain ⟨⟨v5, fs, rfl, hh, hm, hdl7⟩⟩ := hp'
    rw [List.length_map, p2] at hm
    refine hN9 _ _ ?_
    clear hN9 hR9
    have hfull : ∀ u, fs[0]? = some u → Full ds u := fun u hu => hm.full hhsl hok hown hu
    clear hm hown hhsl hD6 hdl hfin
    obtain ⟨ts, l1, l2, l3⟩ := hdl7.it
    refine Gc.op_go fun N9 R9 B9 E9 hN9 hR9 => ?_
    walk_at "gc"
    refine hN9 _ _ ?_
    clear hN9 hR9
    refine Gc.op_go fun N9 R9 B9 E9 hN9 hR9 => ?_
    walk_at "gc"
    refine Gc.for_go (walk_list (K := K) (xs := ts.map V.ref)) (fun i σ' H9 => Hold (∃ v10, σ' = [some (.ref a), some (.int s), some (.ref D), none, some (.ref D2), v5, some (.ref dL), some (.ref bL), v8, some (.int ((ds.take i).map (·.2)).sum), v10] ∧ H9 = H7)) ⟨⟨_, rfl, rfl⟩⟩ (fun _ _ _ _ hp => by obtain ⟨⟨_, _, q⟩⟩ := hp; rw [q]; exact Evl.sq_of l1) (fun R9 B9 i x9 σ' H8 H9 hi hp' hy => ?_) (fun σ' H8 hp' => ?_)
    · obtain ⟨⟨v10, rfl, rfl⟩⟩ := hp'
      obtain ⟨rfl, hxi⟩ := hy
      have hit : i < ts.length := by rw [List.length_map] at hi; exact hi
      have hti := List.getElem?_eq_getElem hit
      have hdi := List.getElem?_eq_getElem (l := ds) (i := i) (by omega)
      generalize ts[i] = t at hti
      generalize ds[i] = d at hdi
      rw [List.getElem?_map, hti] at hxi
      cases hxi
      have hst := l3 i t d hti hdi
      walk_at "gc"
      exact ⟨⟨_, by rw [sum_take hdi]; rfl, rfl⟩⟩
    obtain ⟨⟨v10, rfl, rfl⟩⟩ := hp'
    rw [List.length_map, l2, List.take_length, ← hsum_all]
    refine hN9 _ _ ?_
    clear hN9 hR9
    generalize hS : hsum ds (fun _ => true) (·.2) = S
    have hD7 := hh.hl
    refine Gc.op_go fun N9 R9 B9 E9 hN9 hR9 => ?_
    walk_at "gc"
    refine Gc.for_go (walk_list (K := K) (xs := xs.map V.ref)) (fun i σ' H9 => Hold (∃ v5 fs, σ' = [some (.ref a), some (.int s), some (.ref D), none, some (.ref D2), v5, some (.ref dL), some (.ref bL), v8, some (.int S), v10] ∧ HL K T.k_Hand H9 zs B D xs ds fs ∧ ∀ u, fs[0]? = some u → Full ds u)) ⟨⟨_, fs, rfl, hh, hfull⟩⟩ (fun _ _ _ _ hp => by obtain ⟨⟨_, _, _, q, _⟩⟩ := hp; exact Evl.sq_of q.hl) (fun R9 B9 i x9 σ' H7 H8 hi hp' hy => ?_) (fun σ' H7 hp' => ?_)
    · clear hh hfull hD7 hdl7 l1 l2 l3
      obtain ⟨⟨v5, fs, rfl, hh, hf⟩⟩ := hp'
      obtain ⟨rfl, hxi⟩ := hy
      have hiz : i < zs.length := by rw [List.length_map] at hi; omega
      obtain ⟨x, z, t, q1, q2, q3⟩ := hh.at_ hiz
      obtain ⟨x0, z0, t0, r1, r2, r3⟩ := hh.at_ (i := 0) (by omega)
      rw [List.getElem?_map, q1] at hxi
      cases hxi
      obtain ⟨dx, d, kvs, ks, hx, hg, hsrt⟩ := (hh.hand i x z t q1 q2 q3).it
      obtain ⟨dx0, d0, kvs0, ks0, hx0, hg0, hsrt0⟩ := (hh.hand 0 x0 z0 t0 r1 r2 r3).it
      obtain ⟨_, t2, t3⟩ := hh.set_ 0 t0 r3
      have hD8 := hh.hl
      have a0 : atI (xs.map V.ref) 0 = some (.ref x0) := ref_at (w := 0) r1
      have hgd := hg.at_
      have hgd0 := hg0.at_
      have hgp := hg.pg
      have hks : ks.length ≤ 800 := by have := hg.len; omega
      walk_at "gc"
      rename_i c H9 hc e9 f9
      have hq : PG K none H9 zs B c kvs0 ks0 (pageF zs ds (inP t0)) := ⟨f9, hg0.pg.et (Et.of e9), hg0.nm, hg0.nn, hg0.sub, hg0.bd, fun x hx => by cases hx⟩
      refine Or.inl ⟨c, kvs0, ks0, _, rfl, f9, hq.pg, hg0.nn, hg0.nm, by have := hg0.len; omega, fun _ d' kv5 ys H5 hd5 ex5 r5 rr5 p5 s5 m5 => ?_, fun hb => absurd hb (by rw [hh.trust q2 q3 t3]; exact Bool.noConfusion)⟩
      have hh5 := (hh.ex e9).hears q1 q2 q3 (hg.ex e9) hq t2 t3 ex5 r5 rr5 p5 s5 m5
      have hu : Full ds (unionL t t0) := (hf t0 r3).union t
      have hfl := (List.getElem?_eq_some_iff.mp q3).1
      have hf5 : ∀ u, (fs.set i (unionL t t0))[0]? = some u → Full ds u := fun u q => by
        by_cases c : i = 0
        · subst c
          rw [List.getElem?_set_self hfl] at q
          cases q
          exact hu
        · rw [List.getElem?_set_ne c] at q
          exact hf u q
      have q5 := List.getElem?_set_self (a := unionL t t0) hfl
      clear hh hf hg hg0 hx hx0 hD8 hgd hgd0 hgp hks hq r5 rr5 p5 m5 ex5 f9 e9 r3 q3 hfl hd5 hsrt hsrt0 s5 t2 t3
      generalize fs.set i (unionL t t0) = fs5 at *
      generalize unionL t t0 = u at *
      obtain ⟨x', z', u0, b1, b2, r3⟩ := hh5.at_ (i := 0) (by omega)
      rw [r1] at b1
      rw [r2] at b2
      cases b1; cases b2
      obtain ⟨dx, d, kvs, ks, hx, hg, _⟩ := (hh5.hand i x z u q1 q2 q5).it
      obtain ⟨dx0, d0, kvs0, ks0, hx0, hg0, _⟩ := (hh5.hand 0 x0 z0 u0 r1 r2 r3).it
      rw [full_page hu] at hg
      rw [full_page (hf5 u0 r3)] at hg0
      have htot : totF ks (pageF zs ds (fun _ => true)) = S := by rw [hg.tot hnd, tot_page hok hnd]; exact hS
      have hD8 := hh5.hl
      have hgd := hg.at_
      have hgd0 := hg0.at_
      have hgp := hg.pg
      have hks : ks.length ≤ 1000 := by have := hg.len; omega
      walk_at "gc"
      rename_i H6 e6
      have hx6 := e6 _ _ hx
      have hx06 := e6 _ _ hx0
      have hgd6 := e6 _ _ hgd
      have hgd06 := e6 _ _ hgd0
      have hD6 := e6 _ _ hD8
      refine Gc.neI_f htot ?_
      walk_at "gc"
      rename_i pa Ha hpa ea fa pb Hb hpb eb fb
      have e6b := e6.trans (ea.trans eb)
      have hq := (hg.ex e6b).eqg (hg0.ex e6b)
      refine Gc.pgN_go (ks := kvs) (ls := kvs0) (eqE (pageF zs ds fun _ => true) (pageF zs ds fun _ => true)) (.inl (eb _ _ fa)) (.inl fb) hq.1 ?_
      rw [hq.2]
      refine ⟨_, rfl, ?_⟩
      refine Gc.iteN_f sameB_self ?_
      exact ⟨⟨_, fs5, rfl, hh5.ex e6b, hf5⟩⟩
    refine hN9 _ _ ?_
    clear hN9 hR9
    refine Gc.end_go fun N9 R9 B9 E9 hN9 hR9 => ?_
    walk_at "gc"
    exact hR9 _ _ (k _)
end
section
theorem all_mk {l : PySem.W.OpenLaw} {w : World} {K : PySem.W.Frag} {h : Heap} {mg : Str → Option Value} {fa : Addr} (X : K.In h) (G : h.Ns mainGlobals mg) (hfa : mg "law" = some (.ref fa))
    {f_is_name f_Hand_init f_greater f_share_of f_joined f_is_whole f_is_share f_is_page f_reaches f_Hand_trusts f_lacking f_Hand_hear f_l_cell_at f_l_name_by12 f_l_names12 f_net f_total f_Hand_told f_l_amount_by f_l_whole f_is_amount f_Hand_grown f_Hand_up f_Hand_down f_l_sum f_l_owners f_l_hears f_Hand_letter f_l_news f_Hand_page f_l_deed13 f_law_k13 k_Forged k_Hand k_NoAmount k_NoName k_NoPage : Addr}
    {t_LETTERS t_LIMIT t_LONGEST t_MOST t_MOST_NAMES : Tok}
    {od_is_name an_is_name od_Hand_init an_Hand_init od_greater an_greater od_share_of an_share_of od_joined an_joined od_is_whole an_is_whole od_is_share an_is_share od_is_page an_is_page od_reaches an_reaches od_Hand_trusts an_Hand_trusts od_lacking an_lacking od_Hand_hear an_Hand_hear od_l_cell_at an_l_cell_at od_l_name_by12 an_l_name_by12 od_l_names12 an_l_names12 od_net an_net od_total an_total od_Hand_told an_Hand_told od_l_amount_by an_l_amount_by od_l_whole an_l_whole od_is_amount an_is_amount od_Hand_grown an_Hand_grown od_Hand_up an_Hand_up od_Hand_down an_Hand_down od_l_sum an_l_sum od_l_owners an_l_owners od_l_hears an_l_hears od_Hand_letter an_Hand_letter od_l_news an_l_news od_Hand_page an_Hand_page od_l_deed13 an_l_deed13 od_law_k13 an_law_k13 : Option Addr} {sl_is_name sl_Hand_init sl_greater sl_share_of sl_joined sl_is_whole sl_is_share sl_is_page sl_reaches sl_Hand_trusts sl_lacking sl_Hand_hear sl_l_cell_at sl_l_name_by12 sl_l_names12 sl_net sl_total sl_Hand_told sl_l_amount_by sl_l_whole sl_is_amount sl_Hand_grown sl_Hand_up sl_Hand_down sl_l_sum sl_l_owners sl_l_hears sl_Hand_letter sl_l_news sl_Hand_page sl_l_deed13 sl_law_k13 : Array (Option Value)} {oc_is_name kV_is_name dc_is_name pm_is_name cd_is_name ct_is_name oc_Hand_init kV_Hand_init dc_Hand_init pm_Hand_init cd_Hand_init ct_Hand_init oc_greater kV_greater dc_greater pm_greater cd_greater ct_greater oc_share_of kV_share_of dc_share_of pm_share_of cd_share_of ct_share_of oc_joined kV_joined dc_joined pm_joined cd_joined ct_joined oc_is_whole kV_is_whole dc_is_whole pm_is_whole cd_is_whole ct_is_whole oc_is_share kV_is_share dc_is_share pm_is_share cd_is_share ct_is_share oc_is_page kV_is_page dc_is_page pm_is_page cd_is_page ct_is_page oc_reaches kV_reaches dc_reaches pm_reaches cd_reaches ct_reaches oc_Hand_trusts kV_Hand_trusts dc_Hand_trusts pm_Hand_trusts cd_Hand_trusts ct_Hand_trusts oc_lacking kV_lacking dc_lacking pm_lacking cd_lacking ct_lacking oc_Hand_hear kV_Hand_hear dc_Hand_hear pm_Hand_hear cd_Hand_hear ct_Hand_hear oc_l_cell_at kV_l_cell_at dc_l_cell_at pm_l_cell_at cd_l_cell_at ct_l_cell_at oc_l_name_by12 kV_l_name_by12 dc_l_name_by12 pm_l_name_by12 cd_l_name_by12 ct_l_name_by12 oc_l_names12 kV_l_names12 dc_l_names12 pm_l_names12 cd_l_names12 ct_l_names12 oc_net kV_net dc_net pm_net cd_net ct_net oc_total kV_total dc_total pm_total cd_total ct_total oc_Hand_told kV_Hand_told dc_Hand_told pm_Hand_told cd_Hand_told ct_Hand_told oc_l_amount_by kV_l_amount_by dc_l_amount_by pm_l_amount_by cd_l_amount_by ct_l_amount_by oc_l_whole kV_l_whole dc_l_whole pm_l_whole cd_l_whole ct_l_whole oc_is_amount kV_is_amount dc_is_amount pm_is_amount cd_is_amount ct_is_amount oc_Hand_grown kV_Hand_grown dc_Hand_grown pm_Hand_grown cd_Hand_grown ct_Hand_grown oc_Hand_up kV_Hand_up dc_Hand_up pm_Hand_up cd_Hand_up ct_Hand_up oc_Hand_down kV_Hand_down dc_Hand_down pm_Hand_down cd_Hand_down ct_Hand_down oc_l_sum kV_l_sum dc_l_sum pm_l_sum cd_l_sum ct_l_sum oc_l_owners kV_l_owners dc_l_owners pm_l_owners cd_l_owners ct_l_owners oc_l_hears kV_l_hears dc_l_hears pm_l_hears cd_l_hears ct_l_hears oc_Hand_letter kV_Hand_letter dc_Hand_letter pm_Hand_letter cd_Hand_letter ct_Hand_letter oc_l_news kV_l_news dc_l_news pm_l_news cd_l_news ct_l_news oc_Hand_page kV_Hand_page dc_Hand_page pm_Hand_page cd_Hand_page ct_Hand_page oc_l_deed13 kV_l_deed13 dc_l_deed13 pm_l_deed13 cd_l_deed13 ct_l_deed13 oc_law_k13 kV_law_k13 dc_law_k13 pm_law_k13 cd_law_k13 ct_law_k13 : Value}
    (aC_Forged : PySem.W.nsIn K mainGlobals "Forged" = some (some (.ref k_Forged)))
    (aC_Hand : PySem.W.nsIn K mainGlobals "Hand" = some (some (.ref k_Hand)))
    (aC_NoAmount : PySem.W.nsIn K mainGlobals "NoAmount" = some (some (.ref k_NoAmount)))
    (aC_NoName : PySem.W.nsIn K mainGlobals "NoName" = some (some (.ref k_NoName)))
    (aC_NoPage : PySem.W.nsIn K mainGlobals "NoPage" = some (some (.ref k_NoPage)))
    (a_is_name : PySem.W.nsIn K mainGlobals "is_name" = some (some (.ref f_is_name)))
    (l_is_name : K.lookup f_is_name = some ⟨oc_is_name, od_is_name, .func (PySem.W.fnOf "is_name" "is_name" (defArgs s_is_name) (defBody s_is_name) (defScope s_is_name) .none kV_is_name dc_is_name pm_is_name an_is_name cd_is_name ct_is_name), sl_is_name⟩)
    (cI_is_name : PySem.W.codeIn K cd_is_name "is_name" = true)
    (kk_is_name : PySem.W.keepIn K (.ref f_is_name) = true)
    (a_Hand_init : PySem.W.findIn K (.ref k_Hand) "__init__" = some (some (.ref f_Hand_init)))
    (i_Hand_init : PySem.W.isFn K (.ref f_Hand_init) = true)
    (l_Hand_init : K.lookup f_Hand_init = some ⟨oc_Hand_init, od_Hand_init, .func (PySem.W.fnOf "__init__" "Hand.__init__" (defArgs s_Hand_init) (defBody s_Hand_init) (defScope s_Hand_init) .none kV_Hand_init dc_Hand_init pm_Hand_init an_Hand_init cd_Hand_init ct_Hand_init), sl_Hand_init⟩)
    (cI_Hand_init : PySem.W.codeIn K cd_Hand_init "Hand.__init__" = true)
    (kk_Hand_init : PySem.W.keepIn K (.ref f_Hand_init) = true)
    (a_greater : PySem.W.nsIn K mainGlobals "greater" = some (some (.ref f_greater)))
    (l_greater : K.lookup f_greater = some ⟨oc_greater, od_greater, .func (PySem.W.fnOf "greater" "greater" (defArgs s_greater) (defBody s_greater) (defScope s_greater) .none kV_greater dc_greater pm_greater an_greater cd_greater ct_greater), sl_greater⟩)
    (cI_greater : PySem.W.codeIn K cd_greater "greater" = true)
    (kk_greater : PySem.W.keepIn K (.ref f_greater) = true)
    (a_share_of : PySem.W.nsIn K mainGlobals "share_of" = some (some (.ref f_share_of)))
    (l_share_of : K.lookup f_share_of = some ⟨oc_share_of, od_share_of, .func (PySem.W.fnOf "share_of" "share_of" (defArgs s_share_of) (defBody s_share_of) (defScope s_share_of) .none kV_share_of dc_share_of pm_share_of an_share_of cd_share_of ct_share_of), sl_share_of⟩)
    (cI_share_of : PySem.W.codeIn K cd_share_of "share_of" = true)
    (kk_share_of : PySem.W.keepIn K (.ref f_share_of) = true)
    (a_joined : PySem.W.nsIn K mainGlobals "joined" = some (some (.ref f_joined)))
    (l_joined : K.lookup f_joined = some ⟨oc_joined, od_joined, .func (PySem.W.fnOf "joined" "joined" (defArgs s_joined) (defBody s_joined) (defScope s_joined) .none kV_joined dc_joined pm_joined an_joined cd_joined ct_joined), sl_joined⟩)
    (cI_joined : PySem.W.codeIn K cd_joined "joined" = true)
    (kk_joined : PySem.W.keepIn K (.ref f_joined) = true)
    (a_is_whole : PySem.W.nsIn K mainGlobals "is_whole" = some (some (.ref f_is_whole)))
    (l_is_whole : K.lookup f_is_whole = some ⟨oc_is_whole, od_is_whole, .func (PySem.W.fnOf "is_whole" "is_whole" (defArgs s_is_whole) (defBody s_is_whole) (defScope s_is_whole) .none kV_is_whole dc_is_whole pm_is_whole an_is_whole cd_is_whole ct_is_whole), sl_is_whole⟩)
    (cI_is_whole : PySem.W.codeIn K cd_is_whole "is_whole" = true)
    (kk_is_whole : PySem.W.keepIn K (.ref f_is_whole) = true)
    (a_is_share : PySem.W.nsIn K mainGlobals "is_share" = some (some (.ref f_is_share)))
    (l_is_share : K.lookup f_is_share = some ⟨oc_is_share, od_is_share, .func (PySem.W.fnOf "is_share" "is_share" (defArgs s_is_share) (defBody s_is_share) (defScope s_is_share) .none kV_is_share dc_is_share pm_is_share an_is_share cd_is_share ct_is_share), sl_is_share⟩)
    (cI_is_share : PySem.W.codeIn K cd_is_share "is_share" = true)
    (kk_is_share : PySem.W.keepIn K (.ref f_is_share) = true)
    (a_is_page : PySem.W.nsIn K mainGlobals "is_page" = some (some (.ref f_is_page)))
    (l_is_page : K.lookup f_is_page = some ⟨oc_is_page, od_is_page, .func (PySem.W.fnOf "is_page" "is_page" (defArgs s_is_page) (defBody s_is_page) (defScope s_is_page) .none kV_is_page dc_is_page pm_is_page an_is_page cd_is_page ct_is_page), sl_is_page⟩)
    (cI_is_page : PySem.W.codeIn K cd_is_page "is_page" = true)
    (kk_is_page : PySem.W.keepIn K (.ref f_is_page) = true)
    (a_reaches : PySem.W.nsIn K mainGlobals "reaches" = some (some (.ref f_reaches)))
    (l_reaches : K.lookup f_reaches = some ⟨oc_reaches, od_reaches, .func (PySem.W.fnOf "reaches" "reaches" (defArgs s_reaches) (defBody s_reaches) (defScope s_reaches) .none kV_reaches dc_reaches pm_reaches an_reaches cd_reaches ct_reaches), sl_reaches⟩)
    (cI_reaches : PySem.W.codeIn K cd_reaches "reaches" = true)
    (kk_reaches : PySem.W.keepIn K (.ref f_reaches) = true)
    (a_Hand_trusts : PySem.W.findIn K (.ref k_Hand) "trusts" = some (some (.ref f_Hand_trusts)))
    (i_Hand_trusts : PySem.W.isFn K (.ref f_Hand_trusts) = true)
    (l_Hand_trusts : K.lookup f_Hand_trusts = some ⟨oc_Hand_trusts, od_Hand_trusts, .func (PySem.W.fnOf "trusts" "Hand.trusts" (defArgs s_Hand_trusts) (defBody s_Hand_trusts) (defScope s_Hand_trusts) .none kV_Hand_trusts dc_Hand_trusts pm_Hand_trusts an_Hand_trusts cd_Hand_trusts ct_Hand_trusts), sl_Hand_trusts⟩)
    (cI_Hand_trusts : PySem.W.codeIn K cd_Hand_trusts "Hand.trusts" = true)
    (kk_Hand_trusts : PySem.W.keepIn K (.ref f_Hand_trusts) = true)
    (a_lacking : PySem.W.nsIn K mainGlobals "lacking" = some (some (.ref f_lacking)))
    (l_lacking : K.lookup f_lacking = some ⟨oc_lacking, od_lacking, .func (PySem.W.fnOf "lacking" "lacking" (defArgs s_lacking) (defBody s_lacking) (defScope s_lacking) .none kV_lacking dc_lacking pm_lacking an_lacking cd_lacking ct_lacking), sl_lacking⟩)
    (cI_lacking : PySem.W.codeIn K cd_lacking "lacking" = true)
    (kk_lacking : PySem.W.keepIn K (.ref f_lacking) = true)
    (a_Hand_hear : PySem.W.findIn K (.ref k_Hand) "hear" = some (some (.ref f_Hand_hear)))
    (i_Hand_hear : PySem.W.isFn K (.ref f_Hand_hear) = true)
    (l_Hand_hear : K.lookup f_Hand_hear = some ⟨oc_Hand_hear, od_Hand_hear, .func (PySem.W.fnOf "hear" "Hand.hear" (defArgs s_Hand_hear) (defBody s_Hand_hear) (defScope s_Hand_hear) .none kV_Hand_hear dc_Hand_hear pm_Hand_hear an_Hand_hear cd_Hand_hear ct_Hand_hear), sl_Hand_hear⟩)
    (cI_Hand_hear : PySem.W.codeIn K cd_Hand_hear "Hand.hear" = true)
    (kk_Hand_hear : PySem.W.keepIn K (.ref f_Hand_hear) = true)
    (a_l_cell_at : PySem.W.nsIn K mainGlobals "_law_cell_at" = some (some (.ref f_l_cell_at)))
    (l_l_cell_at : K.lookup f_l_cell_at = some ⟨oc_l_cell_at, od_l_cell_at, .func (PySem.W.fnOf "_law_cell_at" "_law_cell_at" (defArgs s_l_cell_at) (defBody s_l_cell_at) (defScope s_l_cell_at) .none kV_l_cell_at dc_l_cell_at pm_l_cell_at an_l_cell_at cd_l_cell_at ct_l_cell_at), sl_l_cell_at⟩)
    (cI_l_cell_at : PySem.W.codeIn K cd_l_cell_at "_law_cell_at" = true)
    (kk_l_cell_at : PySem.W.keepIn K (.ref f_l_cell_at) = true)
    (a_l_name_by12 : PySem.W.nsIn K mainGlobals "_law_name_by" = some (some (.ref f_l_name_by12)))
    (l_l_name_by12 : K.lookup f_l_name_by12 = some ⟨oc_l_name_by12, od_l_name_by12, .func (PySem.W.fnOf "_law_name_by" "_law_name_by" (defArgs s_l_name_by12) (defBody s_l_name_by12) (defScope s_l_name_by12) .none kV_l_name_by12 dc_l_name_by12 pm_l_name_by12 an_l_name_by12 cd_l_name_by12 ct_l_name_by12), sl_l_name_by12⟩)
    (cI_l_name_by12 : PySem.W.codeIn K cd_l_name_by12 "_law_name_by" = true)
    (kk_l_name_by12 : PySem.W.keepIn K (.ref f_l_name_by12) = true)
    (a_l_names12 : PySem.W.nsIn K mainGlobals "_law_names" = some (some (.ref f_l_names12)))
    (l_l_names12 : K.lookup f_l_names12 = some ⟨oc_l_names12, od_l_names12, .func (PySem.W.fnOf "_law_names" "_law_names" (defArgs s_l_names12) (defBody s_l_names12) (defScope s_l_names12) .none kV_l_names12 dc_l_names12 pm_l_names12 an_l_names12 cd_l_names12 ct_l_names12), sl_l_names12⟩)
    (cI_l_names12 : PySem.W.codeIn K cd_l_names12 "_law_names" = true)
    (kk_l_names12 : PySem.W.keepIn K (.ref f_l_names12) = true)
    (a_net : PySem.W.nsIn K mainGlobals "net" = some (some (.ref f_net)))
    (l_net : K.lookup f_net = some ⟨oc_net, od_net, .func (PySem.W.fnOf "net" "net" (defArgs s_net) (defBody s_net) (defScope s_net) .none kV_net dc_net pm_net an_net cd_net ct_net), sl_net⟩)
    (cI_net : PySem.W.codeIn K cd_net "net" = true)
    (kk_net : PySem.W.keepIn K (.ref f_net) = true)
    (a_total : PySem.W.nsIn K mainGlobals "total" = some (some (.ref f_total)))
    (l_total : K.lookup f_total = some ⟨oc_total, od_total, .func (PySem.W.fnOf "total" "total" (defArgs s_total) (defBody s_total) (defScope s_total) .none kV_total dc_total pm_total an_total cd_total ct_total), sl_total⟩)
    (cI_total : PySem.W.codeIn K cd_total "total" = true)
    (kk_total : PySem.W.keepIn K (.ref f_total) = true)
    (a_Hand_told : PySem.W.findIn K (.ref k_Hand) "told" = some (some (.ref f_Hand_told)))
    (i_Hand_told : PySem.W.isFn K (.ref f_Hand_told) = true)
    (l_Hand_told : K.lookup f_Hand_told = some ⟨oc_Hand_told, od_Hand_told, .func (PySem.W.fnOf "told" "Hand.told" (defArgs s_Hand_told) (defBody s_Hand_told) (defScope s_Hand_told) .none kV_Hand_told dc_Hand_told pm_Hand_told an_Hand_told cd_Hand_told ct_Hand_told), sl_Hand_told⟩)
    (cI_Hand_told : PySem.W.codeIn K cd_Hand_told "Hand.told" = true)
    (kk_Hand_told : PySem.W.keepIn K (.ref f_Hand_told) = true)
    (a_l_amount_by : PySem.W.nsIn K mainGlobals "_law_amount_by" = some (some (.ref f_l_amount_by)))
    (l_l_amount_by : K.lookup f_l_amount_by = some ⟨oc_l_amount_by, od_l_amount_by, .func (PySem.W.fnOf "_law_amount_by" "_law_amount_by" (defArgs s_l_amount_by) (defBody s_l_amount_by) (defScope s_l_amount_by) .none kV_l_amount_by dc_l_amount_by pm_l_amount_by an_l_amount_by cd_l_amount_by ct_l_amount_by), sl_l_amount_by⟩)
    (cI_l_amount_by : PySem.W.codeIn K cd_l_amount_by "_law_amount_by" = true)
    (kk_l_amount_by : PySem.W.keepIn K (.ref f_l_amount_by) = true)
    (a_l_whole : PySem.W.nsIn K mainGlobals "_law_whole" = some (some (.ref f_l_whole)))
    (l_l_whole : K.lookup f_l_whole = some ⟨oc_l_whole, od_l_whole, .func (PySem.W.fnOf "_law_whole" "_law_whole" (defArgs s_l_whole) (defBody s_l_whole) (defScope s_l_whole) .none kV_l_whole dc_l_whole pm_l_whole an_l_whole cd_l_whole ct_l_whole), sl_l_whole⟩)
    (cI_l_whole : PySem.W.codeIn K cd_l_whole "_law_whole" = true)
    (kk_l_whole : PySem.W.keepIn K (.ref f_l_whole) = true)
    (a_is_amount : PySem.W.nsIn K mainGlobals "is_amount" = some (some (.ref f_is_amount)))
    (l_is_amount : K.lookup f_is_amount = some ⟨oc_is_amount, od_is_amount, .func (PySem.W.fnOf "is_amount" "is_amount" (defArgs s_is_amount) (defBody s_is_amount) (defScope s_is_amount) .none kV_is_amount dc_is_amount pm_is_amount an_is_amount cd_is_amount ct_is_amount), sl_is_amount⟩)
    (cI_is_amount : PySem.W.codeIn K cd_is_amount "is_amount" = true)
    (kk_is_amount : PySem.W.keepIn K (.ref f_is_amount) = true)
    (a_Hand_grown : PySem.W.findIn K (.ref k_Hand) "grown" = some (some (.ref f_Hand_grown)))
    (i_Hand_grown : PySem.W.isFn K (.ref f_Hand_grown) = true)
    (l_Hand_grown : K.lookup f_Hand_grown = some ⟨oc_Hand_grown, od_Hand_grown, .func (PySem.W.fnOf "grown" "Hand.grown" (defArgs s_Hand_grown) (defBody s_Hand_grown) (defScope s_Hand_grown) .none kV_Hand_grown dc_Hand_grown pm_Hand_grown an_Hand_grown cd_Hand_grown ct_Hand_grown), sl_Hand_grown⟩)
    (cI_Hand_grown : PySem.W.codeIn K cd_Hand_grown "Hand.grown" = true)
    (kk_Hand_grown : PySem.W.keepIn K (.ref f_Hand_grown) = true)
    (a_Hand_up : PySem.W.findIn K (.ref k_Hand) "up" = some (some (.ref f_Hand_up)))
    (i_Hand_up : PySem.W.isFn K (.ref f_Hand_up) = true)
    (l_Hand_up : K.lookup f_Hand_up = some ⟨oc_Hand_up, od_Hand_up, .func (PySem.W.fnOf "up" "Hand.up" (defArgs s_Hand_up) (defBody s_Hand_up) (defScope s_Hand_up) .none kV_Hand_up dc_Hand_up pm_Hand_up an_Hand_up cd_Hand_up ct_Hand_up), sl_Hand_up⟩)
    (cI_Hand_up : PySem.W.codeIn K cd_Hand_up "Hand.up" = true)
    (kk_Hand_up : PySem.W.keepIn K (.ref f_Hand_up) = true)
    (a_Hand_down : PySem.W.findIn K (.ref k_Hand) "down" = some (some (.ref f_Hand_down)))
    (i_Hand_down : PySem.W.isFn K (.ref f_Hand_down) = true)
    (l_Hand_down : K.lookup f_Hand_down = some ⟨oc_Hand_down, od_Hand_down, .func (PySem.W.fnOf "down" "Hand.down" (defArgs s_Hand_down) (defBody s_Hand_down) (defScope s_Hand_down) .none kV_Hand_down dc_Hand_down pm_Hand_down an_Hand_down cd_Hand_down ct_Hand_down), sl_Hand_down⟩)
    (cI_Hand_down : PySem.W.codeIn K cd_Hand_down "Hand.down" = true)
    (kk_Hand_down : PySem.W.keepIn K (.ref f_Hand_down) = true)
    (a_l_sum : PySem.W.nsIn K mainGlobals "_law_sum" = some (some (.ref f_l_sum)))
    (l_l_sum : K.lookup f_l_sum = some ⟨oc_l_sum, od_l_sum, .func (PySem.W.fnOf "_law_sum" "_law_sum" (defArgs s_l_sum) (defBody s_l_sum) (defScope s_l_sum) .none kV_l_sum dc_l_sum pm_l_sum an_l_sum cd_l_sum ct_l_sum), sl_l_sum⟩)
    (cI_l_sum : PySem.W.codeIn K cd_l_sum "_law_sum" = true)
    (kk_l_sum : PySem.W.keepIn K (.ref f_l_sum) = true)
    (a_l_owners : PySem.W.nsIn K mainGlobals "_law_owners" = some (some (.ref f_l_owners)))
    (l_l_owners : K.lookup f_l_owners = some ⟨oc_l_owners, od_l_owners, .func (PySem.W.fnOf "_law_owners" "_law_owners" (defArgs s_l_owners) (defBody s_l_owners) (defScope s_l_owners) .none kV_l_owners dc_l_owners pm_l_owners an_l_owners cd_l_owners ct_l_owners), sl_l_owners⟩)
    (cI_l_owners : PySem.W.codeIn K cd_l_owners "_law_owners" = true)
    (kk_l_owners : PySem.W.keepIn K (.ref f_l_owners) = true)
    (a_l_hears : PySem.W.nsIn K mainGlobals "_law_hears" = some (some (.ref f_l_hears)))
    (l_l_hears : K.lookup f_l_hears = some ⟨oc_l_hears, od_l_hears, .func (PySem.W.fnOf "_law_hears" "_law_hears" (defArgs s_l_hears) (defBody s_l_hears) (defScope s_l_hears) .none kV_l_hears dc_l_hears pm_l_hears an_l_hears cd_l_hears ct_l_hears), sl_l_hears⟩)
    (cI_l_hears : PySem.W.codeIn K cd_l_hears "_law_hears" = true)
    (kk_l_hears : PySem.W.keepIn K (.ref f_l_hears) = true)
    (a_Hand_letter : PySem.W.findIn K (.ref k_Hand) "letter" = some (some (.ref f_Hand_letter)))
    (i_Hand_letter : PySem.W.isFn K (.ref f_Hand_letter) = true)
    (l_Hand_letter : K.lookup f_Hand_letter = some ⟨oc_Hand_letter, od_Hand_letter, .func (PySem.W.fnOf "letter" "Hand.letter" (defArgs s_Hand_letter) (defBody s_Hand_letter) (defScope s_Hand_letter) .none kV_Hand_letter dc_Hand_letter pm_Hand_letter an_Hand_letter cd_Hand_letter ct_Hand_letter), sl_Hand_letter⟩)
    (cI_Hand_letter : PySem.W.codeIn K cd_Hand_letter "Hand.letter" = true)
    (kk_Hand_letter : PySem.W.keepIn K (.ref f_Hand_letter) = true)
    (a_l_news : PySem.W.nsIn K mainGlobals "_law_news" = some (some (.ref f_l_news)))
    (l_l_news : K.lookup f_l_news = some ⟨oc_l_news, od_l_news, .func (PySem.W.fnOf "_law_news" "_law_news" (defArgs s_l_news) (defBody s_l_news) (defScope s_l_news) .none kV_l_news dc_l_news pm_l_news an_l_news cd_l_news ct_l_news), sl_l_news⟩)
    (cI_l_news : PySem.W.codeIn K cd_l_news "_law_news" = true)
    (kk_l_news : PySem.W.keepIn K (.ref f_l_news) = true)
    (a_Hand_page : PySem.W.findIn K (.ref k_Hand) "page" = some (some (.ref f_Hand_page)))
    (i_Hand_page : PySem.W.isFn K (.ref f_Hand_page) = true)
    (l_Hand_page : K.lookup f_Hand_page = some ⟨oc_Hand_page, od_Hand_page, .func (PySem.W.fnOf "page" "Hand.page" (defArgs s_Hand_page) (defBody s_Hand_page) (defScope s_Hand_page) .none kV_Hand_page dc_Hand_page pm_Hand_page an_Hand_page cd_Hand_page ct_Hand_page), sl_Hand_page⟩)
    (cI_Hand_page : PySem.W.codeIn K cd_Hand_page "Hand.page" = true)
    (kk_Hand_page : PySem.W.keepIn K (.ref f_Hand_page) = true)
    (a_l_deed13 : PySem.W.nsIn K mainGlobals "_law_deed" = some (some (.ref f_l_deed13)))
    (l_l_deed13 : K.lookup f_l_deed13 = some ⟨oc_l_deed13, od_l_deed13, .func (PySem.W.fnOf "_law_deed" "_law_deed" (defArgs s_l_deed13) (defBody s_l_deed13) (defScope s_l_deed13) .none kV_l_deed13 dc_l_deed13 pm_l_deed13 an_l_deed13 cd_l_deed13 ct_l_deed13), sl_l_deed13⟩)
    (cI_l_deed13 : PySem.W.codeIn K cd_l_deed13 "_law_deed" = true)
    (kk_l_deed13 : PySem.W.keepIn K (.ref f_l_deed13) = true)
    (a_law_k13 : PySem.W.nsIn K mainGlobals "law" = some (some (.ref f_law_k13)))
    (l_law_k13 : K.lookup f_law_k13 = some ⟨oc_law_k13, od_law_k13, .func (PySem.W.fnOf "law" "law" (defArgs s_law_k13) (defBody s_law_k13) (defScope s_law_k13) .none kV_law_k13 dc_law_k13 pm_law_k13 an_law_k13 cd_law_k13 ct_law_k13), sl_law_k13⟩)
    (cI_law_k13 : PySem.W.codeIn K cd_law_k13 "law" = true)
    (kk_law_k13 : PySem.W.keepIn K (.ref f_law_k13) = true)
    (x_Forged : PySem.W.excIn K k_Forged [.type "ValueError", .type "Exception", .type "BaseException", .type "object"] "ValueError.__new__" = true)
    (kp_Forged : PySem.W.keepIn K (.ref k_Forged) = true)
    (be_Forged : PySem.W.subIn K (.ref k_Forged) (.type "BaseException") = some true)
    (ty_Forged : PySem.W.typeIn K (.ref k_Forged) = some (.type "type"))
    (hd_Forged : PySem.W.hasDictIn K k_Forged = true)
    (mk_Hand : PySem.W.makesIn K k_Hand = true)
    (kp_Hand : PySem.W.keepIn K (.ref k_Hand) = true)
    (pg_Hand : PySem.W.plainGet K k_Hand Str.empty = true)
    (hd_Hand : PySem.W.hasDictIn K k_Hand = true)
    (po_Hand : PySem.W.plainOver K k_Hand = true)
    (sa_Hand : PySem.W.findIn K (.ref k_Hand) "__setattr__" = some (some (.builtin "object.__setattr__")))
    (na_Hand_name : PySem.W.findIn K (.ref k_Hand) "name" = some none)
    (na_Hand_known : PySem.W.findIn K (.ref k_Hand) "known" = some none)
    (x_NoAmount : PySem.W.excIn K k_NoAmount [.type "ValueError", .type "Exception", .type "BaseException", .type "object"] "ValueError.__new__" = true)
    (kp_NoAmount : PySem.W.keepIn K (.ref k_NoAmount) = true)
    (be_NoAmount : PySem.W.subIn K (.ref k_NoAmount) (.type "BaseException") = some true)
    (ty_NoAmount : PySem.W.typeIn K (.ref k_NoAmount) = some (.type "type"))
    (hd_NoAmount : PySem.W.hasDictIn K k_NoAmount = true)
    (x_NoName : PySem.W.excIn K k_NoName [.type "ValueError", .type "Exception", .type "BaseException", .type "object"] "ValueError.__new__" = true)
    (kp_NoName : PySem.W.keepIn K (.ref k_NoName) = true)
    (be_NoName : PySem.W.subIn K (.ref k_NoName) (.type "BaseException") = some true)
    (ty_NoName : PySem.W.typeIn K (.ref k_NoName) = some (.type "type"))
    (hd_NoName : PySem.W.hasDictIn K k_NoName = true)
    (x_NoPage : PySem.W.excIn K k_NoPage [.type "ValueError", .type "Exception", .type "BaseException", .type "object"] "ValueError.__new__" = true)
    (kp_NoPage : PySem.W.keepIn K (.ref k_NoPage) = true)
    (be_NoPage : PySem.W.subIn K (.ref k_NoPage) (.type "BaseException") = some true)
    (ty_NoPage : PySem.W.typeIn K (.ref k_NoPage) = some (.type "type"))
    (hd_NoPage : PySem.W.hasDictIn K k_NoPage = true)
    (ac_LETTERS : PySem.W.nsIn K mainGlobals "LETTERS" = some (some (.str "abcdefghijklmnopqrstuvwxyz" t_LETTERS)))
    (ac_LIMIT : PySem.W.nsIn K mainGlobals "LIMIT" = some (some (.int 1000000000000000000000000000000000000000000000000000000000000 t_LIMIT)))
    (ac_LONGEST : PySem.W.nsIn K mainGlobals "LONGEST" = some (some (.int 8 t_LONGEST)))
    (ac_MOST : PySem.W.nsIn K mainGlobals "MOST" = some (some (.int 1000000000 t_MOST)))
    (ac_MOST_NAMES : PySem.W.nsIn K mainGlobals "MOST_NAMES" = some (some (.int 200 t_MOST_NAMES)))
    (z_all : PySem.W.nsIn K mainGlobals "all" = some none)
    (z_bool : PySem.W.nsIn K mainGlobals "bool" = some none)
    (z_dict : PySem.W.nsIn K mainGlobals "dict" = some none)
    (z_int : PySem.W.nsIn K mainGlobals "int" = some none)
    (z_isinstance : PySem.W.nsIn K mainGlobals "isinstance" = some none)
    (z_len : PySem.W.nsIn K mainGlobals "len" = some none)
    (z_list : PySem.W.nsIn K mainGlobals "list" = some none)
    (z_max : PySem.W.nsIn K mainGlobals "max" = some none)
    (z_range : PySem.W.nsIn K mainGlobals "range" = some none)
    (z_set : PySem.W.nsIn K mainGlobals "set" = some none)
    (z_sorted : PySem.W.nsIn K mainGlobals "sorted" = some none)
    (z_str : PySem.W.nsIn K mainGlobals "str" = some none)
    (z_sum : PySem.W.nsIn K mainGlobals "sum" = some none)
    (z_tuple : PySem.W.nsIn K mainGlobals "tuple" = some none)
    : ∃ fd : FuncData, (∀ (s : Shared) (v : Value), BindsTo s fd ⟨[v], []⟩ [("_law_script", v)]) ∧ ∀ base : Heap, K.In base → base.Ns mainGlobals mg → FnOk l.prog w K mg base CX0 7 fa fd ["_law_script"] (sp_law K) := by
  have e := hfa.symm.trans (PySem.W.mg_of X G a_law_k13)
  cases e
  have F_is_name := fun_mk (st := s_is_name) l_is_name cI_is_name kk_is_name
  have b_is_name := F_is_name.binds (ps := ["thing"]) fun _ _ _ _ _ _ us hl => match us, hl with | [_], _ => rfl
  have F_Hand_init := fun_mk (st := s_Hand_init) l_Hand_init cI_Hand_init kk_Hand_init
  have b_Hand_init := F_Hand_init.binds (ps := ["self", "name"]) fun _ _ _ _ _ _ us hl => match us, hl with | [_, _], _ => rfl
  have F_greater := fun_mk (st := s_greater) l_greater cI_greater kk_greater
  have b_greater := F_greater.binds (ps := ["one", "other"]) fun _ _ _ _ _ _ us hl => match us, hl with | [_, _], _ => rfl
  have F_share_of := fun_mk (st := s_share_of) l_share_of cI_share_of kk_share_of
  have b_share_of := F_share_of.binds (ps := ["page", "name"]) fun _ _ _ _ _ _ us hl => match us, hl with | [_, _], _ => rfl
  have F_joined := fun_mk (st := s_joined) l_joined cI_joined kk_joined
  have b_joined := F_joined.binds (ps := ["one", "other"]) fun _ _ _ _ _ _ us hl => match us, hl with | [_, _], _ => rfl
  have F_is_whole := fun_mk (st := s_is_whole) l_is_whole cI_is_whole kk_is_whole
  have b_is_whole := F_is_whole.binds (ps := ["thing"]) fun _ _ _ _ _ _ us hl => match us, hl with | [_], _ => rfl
  have F_is_share := fun_mk (st := s_is_share) l_is_share cI_is_share kk_is_share
  have b_is_share := F_is_share.binds (ps := ["thing"]) fun _ _ _ _ _ _ us hl => match us, hl with | [_], _ => rfl
  have F_is_page := fun_mk (st := s_is_page) l_is_page cI_is_page kk_is_page
  have b_is_page := F_is_page.binds (ps := ["thing"]) fun _ _ _ _ _ _ us hl => match us, hl with | [_], _ => rfl
  have F_reaches := fun_mk (st := s_reaches) l_reaches cI_reaches kk_reaches
  have b_reaches := F_reaches.binds (ps := ["one", "other"]) fun _ _ _ _ _ _ us hl => match us, hl with | [_, _], _ => rfl
  have F_Hand_trusts := fun_mk (st := s_Hand_trusts) l_Hand_trusts cI_Hand_trusts kk_Hand_trusts
  have b_Hand_trusts := F_Hand_trusts.binds (ps := ["self", "page"]) fun _ _ _ _ _ _ us hl => match us, hl with | [_, _], _ => rfl
  have F_lacking := fun_mk (st := s_lacking) l_lacking cI_lacking kk_lacking
  have b_lacking := F_lacking.binds (ps := ["one", "other"]) fun _ _ _ _ _ _ us hl => match us, hl with | [_, _], _ => rfl
  have F_Hand_hear := fun_mk (st := s_Hand_hear) l_Hand_hear cI_Hand_hear kk_Hand_hear
  have b_Hand_hear := F_Hand_hear.binds (ps := ["self", "page"]) fun _ _ _ _ _ _ us hl => match us, hl with | [_, _], _ => rfl
  have F_l_cell_at := fun_mk (st := s_l_cell_at) l_l_cell_at cI_l_cell_at kk_l_cell_at
  have b_l_cell_at := F_l_cell_at.binds (ps := ["_law_script", "_law_k"]) fun _ _ _ _ _ _ us hl => match us, hl with | [_, _], _ => rfl
  have F_l_name_by12 := fun_mk (st := s_l_name_by12) l_l_name_by12 cI_l_name_by12 kk_l_name_by12
  have b_l_name_by12 := F_l_name_by12.binds (ps := ["_law_cell"]) fun _ _ _ _ _ _ us hl => match us, hl with | [_], _ => rfl
  have F_l_names12 := fun_mk (st := s_l_names12) l_l_names12 cI_l_names12 kk_l_names12
  have b_l_names12 := F_l_names12.binds (ps := ["_law_script", "_law_size"]) fun _ _ _ _ _ _ us hl => match us, hl with | [_, _], _ => rfl
  have F_net := fun_mk (st := s_net) l_net cI_net kk_net
  have b_net := F_net.binds (ps := ["share"]) fun _ _ _ _ _ _ us hl => match us, hl with | [_], _ => rfl
  have F_total := fun_mk (st := s_total) l_total cI_total kk_total
  have b_total := F_total.binds (ps := ["page"]) fun _ _ _ _ _ _ us hl => match us, hl with | [_], _ => rfl
  have F_Hand_told := fun_mk (st := s_Hand_told) l_Hand_told cI_Hand_told kk_Hand_told
  have b_Hand_told := F_Hand_told.binds (ps := ["self"]) fun _ _ _ _ _ _ us hl => match us, hl with | [_], _ => rfl
  have F_l_amount_by := fun_mk (st := s_l_amount_by) l_l_amount_by cI_l_amount_by kk_l_amount_by
  have b_l_amount_by := F_l_amount_by.binds (ps := ["_law_cell"]) fun _ _ _ _ _ _ us hl => match us, hl with | [_], _ => rfl
  have F_l_whole := fun_mk (st := s_l_whole) l_l_whole cI_l_whole kk_l_whole
  have b_l_whole := F_l_whole.binds (ps := ["_law_found"]) fun _ _ _ _ _ _ us hl => match us, hl with | [_], _ => rfl
  have F_is_amount := fun_mk (st := s_is_amount) l_is_amount cI_is_amount kk_is_amount
  have b_is_amount := F_is_amount.binds (ps := ["thing"]) fun _ _ _ _ _ _ us hl => match us, hl with | [_], _ => rfl
  have F_Hand_grown := fun_mk (st := s_Hand_grown) l_Hand_grown cI_Hand_grown kk_Hand_grown
  have b_Hand_grown := F_Hand_grown.binds (ps := ["self", "many", "place"]) fun _ _ _ _ _ _ us hl => match us, hl with | [_, _, _], _ => rfl
  have F_Hand_up := fun_mk (st := s_Hand_up) l_Hand_up cI_Hand_up kk_Hand_up
  have b_Hand_up := F_Hand_up.binds (ps := ["self", "many"]) fun _ _ _ _ _ _ us hl => match us, hl with | [_, _], _ => rfl
  have F_Hand_down := fun_mk (st := s_Hand_down) l_Hand_down cI_Hand_down kk_Hand_down
  have b_Hand_down := F_Hand_down.binds (ps := ["self", "many"]) fun _ _ _ _ _ _ us hl => match us, hl with | [_, _], _ => rfl
  have F_l_sum := fun_mk (st := s_l_sum) l_l_sum cI_l_sum kk_l_sum
  have b_l_sum := F_l_sum.binds (ps := ["_law_deeds", "_law_heard"]) fun _ _ _ _ _ _ us hl => match us, hl with | [_, _], _ => rfl
  have F_l_owners := fun_mk (st := s_l_owners) l_l_owners cI_l_owners kk_l_owners
  have b_l_owners := F_l_owners.binds (ps := ["_law_deeds", "_law_heard", "_law_other"]) fun _ _ _ _ _ _ us hl => match us, hl with | [_, _, _], _ => rfl
  have F_l_hears := fun_mk (st := s_l_hears) l_l_hears cI_l_hears kk_l_hears
  have b_l_hears := F_l_hears.binds (ps := ["_law_hand", "_law_page", "_law_deeds", "_law_heard", "_law_news_here"]) fun _ _ _ _ _ _ us hl => match us, hl with | [_, _, _, _, _], _ => rfl
  have F_Hand_letter := fun_mk (st := s_Hand_letter) l_Hand_letter cI_Hand_letter kk_Hand_letter
  have b_Hand_letter := F_Hand_letter.binds (ps := ["self", "page"]) fun _ _ _ _ _ _ us hl => match us, hl with | [_, _], _ => rfl
  have F_l_news := fun_mk (st := s_l_news) l_l_news cI_l_news kk_l_news
  have b_l_news := F_l_news.binds (ps := ["_law_deeds", "_law_heard", "_law_other"]) fun _ _ _ _ _ _ us hl => match us, hl with | [_, _, _], _ => rfl
  have F_Hand_page := fun_mk (st := s_Hand_page) l_Hand_page cI_Hand_page kk_Hand_page
  have b_Hand_page := F_Hand_page.binds (ps := ["self"]) fun _ _ _ _ _ _ us hl => match us, hl with | [_], _ => rfl
  have F_l_deed13 := fun_mk (st := s_l_deed13) l_l_deed13 cI_l_deed13 kk_l_deed13
  have b_l_deed13 := F_l_deed13.binds (ps := ["_law_hands", "_law_heard", "_law_deeds", "_law_bag", "_law_cell"]) fun _ _ _ _ _ _ us hl => match us, hl with | [_, _, _, _, _], _ => rfl
  have F_law_k13 := fun_mk (st := s_law_k13) l_law_k13 cI_law_k13 kk_law_k13
  have b_law_k13 := F_law_k13.binds (ps := ["_law_script"]) fun _ _ _ _ _ _ us hl => match us, hl with | [_], _ => rfl
  let T : Tx K mg := { f_is_name := f_is_name, fd_is_name := _, F_is_name := F_is_name, b_is_name := b_is_name, m_is_name := PySem.W.mg_of X G a_is_name, f_Hand_init := f_Hand_init, fd_Hand_init := _, F_Hand_init := F_Hand_init, b_Hand_init := b_Hand_init, M_Hand := ⟨mk_Hand, a_Hand_init, i_Hand_init, kp_Hand⟩, f_greater := f_greater, fd_greater := _, F_greater := F_greater, b_greater := b_greater, m_greater := PySem.W.mg_of X G a_greater, f_share_of := f_share_of, fd_share_of := _, F_share_of := F_share_of, b_share_of := b_share_of, m_share_of := PySem.W.mg_of X G a_share_of, f_joined := f_joined, fd_joined := _, F_joined := F_joined, b_joined := b_joined, m_joined := PySem.W.mg_of X G a_joined, f_is_whole := f_is_whole, fd_is_whole := _, F_is_whole := F_is_whole, b_is_whole := b_is_whole, m_is_whole := PySem.W.mg_of X G a_is_whole, f_is_share := f_is_share, fd_is_share := _, F_is_share := F_is_share, b_is_share := b_is_share, m_is_share := PySem.W.mg_of X G a_is_share, f_is_page := f_is_page, fd_is_page := _, F_is_page := F_is_page, b_is_page := b_is_page, m_is_page := PySem.W.mg_of X G a_is_page, f_reaches := f_reaches, fd_reaches := _, F_reaches := F_reaches, b_reaches := b_reaches, m_reaches := PySem.W.mg_of X G a_reaches, f_Hand_trusts := f_Hand_trusts, fd_Hand_trusts := _, F_Hand_trusts := F_Hand_trusts, b_Hand_trusts := b_Hand_trusts, M_Hand_trusts := ⟨a_Hand_trusts, i_Hand_trusts, kk_Hand_trusts⟩, f_lacking := f_lacking, fd_lacking := _, F_lacking := F_lacking, b_lacking := b_lacking, m_lacking := PySem.W.mg_of X G a_lacking, f_Hand_hear := f_Hand_hear, fd_Hand_hear := _, F_Hand_hear := F_Hand_hear, b_Hand_hear := b_Hand_hear, M_Hand_hear := ⟨a_Hand_hear, i_Hand_hear, kk_Hand_hear⟩, f_l_cell_at := f_l_cell_at, fd_l_cell_at := _, F_l_cell_at := F_l_cell_at, b_l_cell_at := b_l_cell_at, m_l_cell_at := PySem.W.mg_of X G a_l_cell_at, f_l_name_by12 := f_l_name_by12, fd_l_name_by12 := _, F_l_name_by12 := F_l_name_by12, b_l_name_by12 := b_l_name_by12, m_l_name_by12 := PySem.W.mg_of X G a_l_name_by12, f_l_names12 := f_l_names12, fd_l_names12 := _, F_l_names12 := F_l_names12, b_l_names12 := b_l_names12, m_l_names12 := PySem.W.mg_of X G a_l_names12, f_net := f_net, fd_net := _, F_net := F_net, b_net := b_net, m_net := PySem.W.mg_of X G a_net, f_total := f_total, fd_total := _, F_total := F_total, b_total := b_total, m_total := PySem.W.mg_of X G a_total, f_Hand_told := f_Hand_told, fd_Hand_told := _, F_Hand_told := F_Hand_told, b_Hand_told := b_Hand_told, M_Hand_told := ⟨a_Hand_told, i_Hand_told, kk_Hand_told⟩, f_l_amount_by := f_l_amount_by, fd_l_amount_by := _, F_l_amount_by := F_l_amount_by, b_l_amount_by := b_l_amount_by, m_l_amount_by := PySem.W.mg_of X G a_l_amount_by, f_l_whole := f_l_whole, fd_l_whole := _, F_l_whole := F_l_whole, b_l_whole := b_l_whole, m_l_whole := PySem.W.mg_of X G a_l_whole, f_is_amount := f_is_amount, fd_is_amount := _, F_is_amount := F_is_amount, b_is_amount := b_is_amount, m_is_amount := PySem.W.mg_of X G a_is_amount, f_Hand_grown := f_Hand_grown, fd_Hand_grown := _, F_Hand_grown := F_Hand_grown, b_Hand_grown := b_Hand_grown, M_Hand_grown := ⟨a_Hand_grown, i_Hand_grown, kk_Hand_grown⟩, f_Hand_up := f_Hand_up, fd_Hand_up := _, F_Hand_up := F_Hand_up, b_Hand_up := b_Hand_up, M_Hand_up := ⟨a_Hand_up, i_Hand_up, kk_Hand_up⟩, f_Hand_down := f_Hand_down, fd_Hand_down := _, F_Hand_down := F_Hand_down, b_Hand_down := b_Hand_down, M_Hand_down := ⟨a_Hand_down, i_Hand_down, kk_Hand_down⟩, f_l_sum := f_l_sum, fd_l_sum := _, F_l_sum := F_l_sum, b_l_sum := b_l_sum, m_l_sum := PySem.W.mg_of X G a_l_sum, f_l_owners := f_l_owners, fd_l_owners := _, F_l_owners := F_l_owners, b_l_owners := b_l_owners, m_l_owners := PySem.W.mg_of X G a_l_owners, f_l_hears := f_l_hears, fd_l_hears := _, F_l_hears := F_l_hears, b_l_hears := b_l_hears, m_l_hears := PySem.W.mg_of X G a_l_hears, f_Hand_letter := f_Hand_letter, fd_Hand_letter := _, F_Hand_letter := F_Hand_letter, b_Hand_letter := b_Hand_letter, M_Hand_letter := ⟨a_Hand_letter, i_Hand_letter, kk_Hand_letter⟩, f_l_news := f_l_news, fd_l_news := _, F_l_news := F_l_news, b_l_news := b_l_news, m_l_news := PySem.W.mg_of X G a_l_news, f_Hand_page := f_Hand_page, fd_Hand_page := _, F_Hand_page := F_Hand_page, b_Hand_page := b_Hand_page, M_Hand_page := ⟨a_Hand_page, i_Hand_page, kk_Hand_page⟩, f_l_deed13 := f_l_deed13, fd_l_deed13 := _, F_l_deed13 := F_l_deed13, b_l_deed13 := b_l_deed13, m_l_deed13 := PySem.W.mg_of X G a_l_deed13, f_law_k13 := fa, fd_law_k13 := _, F_law_k13 := F_law_k13, b_law_k13 := b_law_k13, m_law_k13 := PySem.W.mg_of X G a_law_k13, k_Forged := k_Forged, g_Forged := PySem.W.mg_of X G aC_Forged, x_Forged := x_Forged, kp_Forged := kp_Forged, be_Forged := be_Forged, ty_Forged := ty_Forged, hd_Forged := hd_Forged, k_Hand := k_Hand, g_Hand := PySem.W.mg_of X G aC_Hand, cl_Hand := ⟨pg_Hand, hd_Hand, po_Hand, sa_Hand⟩, na_Hand_name := na_Hand_name, na_Hand_known := na_Hand_known, k_NoAmount := k_NoAmount, g_NoAmount := PySem.W.mg_of X G aC_NoAmount, x_NoAmount := x_NoAmount, kp_NoAmount := kp_NoAmount, be_NoAmount := be_NoAmount, ty_NoAmount := ty_NoAmount, hd_NoAmount := hd_NoAmount, k_NoName := k_NoName, g_NoName := PySem.W.mg_of X G aC_NoName, x_NoName := x_NoName, kp_NoName := kp_NoName, be_NoName := be_NoName, ty_NoName := ty_NoName, hd_NoName := hd_NoName, k_NoPage := k_NoPage, g_NoPage := PySem.W.mg_of X G aC_NoPage, x_NoPage := x_NoPage, kp_NoPage := kp_NoPage, be_NoPage := be_NoPage, ty_NoPage := ty_NoPage, hd_NoPage := hd_NoPage, t_LETTERS := t_LETTERS, c_LETTERS := PySem.W.mg_of X G ac_LETTERS, t_LIMIT := t_LIMIT, c_LIMIT := PySem.W.mg_of X G ac_LIMIT, t_LONGEST := t_LONGEST, c_LONGEST := PySem.W.mg_of X G ac_LONGEST, t_MOST := t_MOST, c_MOST := PySem.W.mg_of X G ac_MOST, t_MOST_NAMES := t_MOST_NAMES, c_MOST_NAMES := PySem.W.mg_of X G ac_MOST_NAMES, n_all := PySem.W.mg_none_of X G z_all, n_bool := PySem.W.mg_none_of X G z_bool, n_dict := PySem.W.mg_none_of X G z_dict, n_int := PySem.W.mg_none_of X G z_int, n_isinstance := PySem.W.mg_none_of X G z_isinstance, n_len := PySem.W.mg_none_of X G z_len, n_list := PySem.W.mg_none_of X G z_list, n_max := PySem.W.mg_none_of X G z_max, n_range := PySem.W.mg_none_of X G z_range, n_set := PySem.W.mg_none_of X G z_set, n_sorted := PySem.W.mg_none_of X G z_sorted, n_str := PySem.W.mg_none_of X G z_str, n_sum := PySem.W.mg_none_of X G z_sum, n_tuple := PySem.W.mg_none_of X G z_tuple }
  exact ⟨T.fd_law_k13, fun s v => .of_eq rfl, fun base _ _ => ok_law_k13 T⟩
end
theorem walk {l : PySem.W.OpenLaw} {q : Program} {loose : List Str} {XP : (Str → Option Value) → Heap → Prop} {YP : World → Heap → Prop} {d : DefRec} {K : Params → PySem.W.Frag} (hn : l.most = some 63) (hdf : d.params.defaults = [])
    (hY : ∀ (w : World) (h : Heap), YP w h → (K w.params).In h)
    (F : ∀ (w : World) (mg : Str → Option Value) (fa : Addr) (h : Heap), (K w.params).In h → h.Ns mainGlobals mg → mg d.name = some (.ref fa) →
      ∃ fd : FuncData, (∀ (s : Shared) (u : Value), BindsTo s fd ⟨[u], []⟩ [("_law_script", u)]) ∧ ∀ base : Heap, (K w.params).In base → base.Ns mainGlobals mg → FnOk l.prog w (K w.params) mg base CX0 7 fa fd ["_law_script"] (sp_law (K w.params))) :
    PySem.W.WalkO q loose XP YP l.row.toRowW d [] (fun f vs => PySem.call f vs) :=
  L2.walk_of (n := 63) (k := 7) (x := "_law_script") (CX := fun _ => CX0) (sp := fun w => sp_law (K w.params)) hn (by decide) hdf ⟨rfl, by decide, by decide⟩ hY F (fun _ _ a ns hl _ hS => ⟨a, ns, rfl, hS, hl, fun _ => rfl⟩) fun _ _ _ _ _ z => z
end Gc

open PySem PySem.W PyProof.Rows in
set_option maxRecDepth 100000 in
set_option maxHeartbeats 0 in
theorem PySem.Challenge.cw_gossipcount_k13_whole_heard_of_holds : PySem.Challenge.rw_gossipcount_k13_whole_heard_of.Holds := by
  w_on; o_law; k_head; (case hw => w_witness2)
  k_fill
  refine Gc.walk (l := PySem.Challenge.rw_gossipcount_k13_whole_heard_of) rfl rfl (fun w h Y => PySem.W.kIn_of Y) ?F
  case F =>
    intro w mg fa h KX G hmg
    refine' Gc.all_mk KX G hmg ?aC_Forged ?aC_Hand ?aC_NoAmount ?aC_NoName ?aC_NoPage ?a_is_name ?l_is_name ?cI_is_name ?kk_is_name ?a_Hand_init ?i_Hand_init ?l_Hand_init ?cI_Hand_init ?kk_Hand_init ?a_greater ?l_greater ?cI_greater ?kk_greater ?a_share_of ?l_share_of ?cI_share_of ?kk_share_of ?a_joined ?l_joined ?cI_joined ?kk_joined ?a_is_whole ?l_is_whole ?cI_is_whole ?kk_is_whole ?a_is_share ?l_is_share ?cI_is_share ?kk_is_share ?a_is_page ?l_is_page ?cI_is_page ?kk_is_page ?a_reaches ?l_reaches ?cI_reaches ?kk_reaches ?a_Hand_trusts ?i_Hand_trusts ?l_Hand_trusts ?cI_Hand_trusts ?kk_Hand_trusts ?a_lacking ?l_lacking ?cI_lacking ?kk_lacking ?a_Hand_hear ?i_Hand_hear ?l_Hand_hear ?cI_Hand_hear ?kk_Hand_hear ?a_l_cell_at ?l_l_cell_at ?cI_l_cell_at ?kk_l_cell_at ?a_l_name_by12 ?l_l_name_by12 ?cI_l_name_by12 ?kk_l_name_by12 ?a_l_names12 ?l_l_names12 ?cI_l_names12 ?kk_l_names12 ?a_net ?l_net ?cI_net ?kk_net ?a_total ?l_total ?cI_total ?kk_total ?a_Hand_told ?i_Hand_told ?l_Hand_told ?cI_Hand_told ?kk_Hand_told ?a_l_amount_by ?l_l_amount_by ?cI_l_amount_by ?kk_l_amount_by ?a_l_whole ?l_l_whole ?cI_l_whole ?kk_l_whole ?a_is_amount ?l_is_amount ?cI_is_amount ?kk_is_amount ?a_Hand_grown ?i_Hand_grown ?l_Hand_grown ?cI_Hand_grown ?kk_Hand_grown ?a_Hand_up ?i_Hand_up ?l_Hand_up ?cI_Hand_up ?kk_Hand_up ?a_Hand_down ?i_Hand_down ?l_Hand_down ?cI_Hand_down ?kk_Hand_down ?a_l_sum ?l_l_sum ?cI_l_sum ?kk_l_sum ?a_l_owners ?l_l_owners ?cI_l_owners ?kk_l_owners ?a_l_hears ?l_l_hears ?cI_l_hears ?kk_l_hears ?a_Hand_letter ?i_Hand_letter ?l_Hand_letter ?cI_Hand_letter ?kk_Hand_letter ?a_l_news ?l_l_news ?cI_l_news ?kk_l_news ?a_Hand_page ?i_Hand_page ?l_Hand_page ?cI_Hand_page ?kk_Hand_page ?a_l_deed13 ?l_l_deed13 ?cI_l_deed13 ?kk_l_deed13 ?a_law_k13 ?l_law_k13 ?cI_law_k13 ?kk_law_k13 ?x_Forged ?kp_Forged ?be_Forged ?ty_Forged ?hd_Forged ?mk_Hand ?kp_Hand ?pg_Hand ?hd_Hand ?po_Hand ?sa_Hand ?na_Hand_name ?na_Hand_known ?x_NoAmount ?kp_NoAmount ?be_NoAmount ?ty_NoAmount ?hd_NoAmount ?x_NoName ?kp_NoName ?be_NoName ?ty_NoName ?hd_NoName ?x_NoPage ?kp_NoPage ?be_NoPage ?ty_NoPage ?hd_NoPage ?ac_LETTERS ?ac_LIMIT ?ac_LONGEST ?ac_MOST ?ac_MOST_NAMES ?z_all ?z_bool ?z_dict ?z_int ?z_isinstance ?z_len ?z_list ?z_max ?z_range ?z_set ?z_sorted ?z_str ?z_sum ?z_tuple
    (case aC_Forged => first | k_is | rfl | decide)
    (case aC_Hand => first | k_is | rfl | decide)
    (case aC_NoAmount => first | k_is | rfl | decide)
    (case aC_NoName => first | k_is | rfl | decide)
    (case aC_NoPage => first | k_is | rfl | decide)
    (case a_is_name => first | k_is | rfl | decide)
    (case l_is_name => first | k_is | rfl | decide)
    (case cI_is_name => first | k_is | rfl | decide)
    (case kk_is_name => first | k_is | rfl | decide)
    (case a_Hand_init => first | k_is | rfl | decide)
    (case i_Hand_init => first | k_is | rfl | decide)
    (case l_Hand_init => first | k_is | rfl | decide)
    (case cI_Hand_init => first | k_is | rfl | decide)
    (case kk_Hand_init => first | k_is | rfl | decide)
    (case a_greater => first | k_is | rfl | decide)
    (case l_greater => first | k_is | rfl | decide)
    (case cI_greater => first | k_is | rfl | decide)
    (case kk_greater => first | k_is | rfl | decide)
    (case a_share_of => first | k_is | rfl | decide)
    (case l_share_of => first | k_is | rfl | decide)
    (case cI_share_of => first | k_is | rfl | decide)
    (case kk_share_of => first | k_is | rfl | decide)
    (case a_joined => first | k_is | rfl | decide)
    (case l_joined => first | k_is | rfl | decide)
    (case cI_joined => first | k_is | rfl | decide)
    (case kk_joined => first | k_is | rfl | decide)
    (case a_is_whole => first | k_is | rfl | decide)
    (case l_is_whole => first | k_is | rfl | decide)
    (case cI_is_whole => first | k_is | rfl | decide)
    (case kk_is_whole => first | k_is | rfl | decide)
    (case a_is_share => first | k_is | rfl | decide)
    (case l_is_share => first | k_is | rfl | decide)
    (case cI_is_share => first | k_is | rfl | decide)
    (case kk_is_share => first | k_is | rfl | decide)
    (case a_is_page => first | k_is | rfl | decide)
    (case l_is_page => first | k_is | rfl | decide)
    (case cI_is_page => first | k_is | rfl | decide)
    (case kk_is_page => first | k_is | rfl | decide)
    (case a_reaches => first | k_is | rfl | decide)
    (case l_reaches => first | k_is | rfl | decide)
    (case cI_reaches => first | k_is | rfl | decide)
    (case kk_reaches => first | k_is | rfl | decide)
    (case a_Hand_trusts => first | k_is | rfl | decide)
    (case i_Hand_trusts => first | k_is | rfl | decide)
    (case l_Hand_trusts => first | k_is | rfl | decide)
    (case cI_Hand_trusts => first | k_is | rfl | decide)
    (case kk_Hand_trusts => first | k_is | rfl | decide)
    (case a_lacking => first | k_is | rfl | decide)
    (case l_lacking => first | k_is | rfl | decide)
    (case cI_lacking => first | k_is | rfl | decide)
    (case kk_lacking => first | k_is | rfl | decide)
    (case a_Hand_hear => first | k_is | rfl | decide)
    (case i_Hand_hear => first | k_is | rfl | decide)
    (case l_Hand_hear => first | k_is | rfl | decide)
    (case cI_Hand_hear => first | k_is | rfl | decide)
    (case kk_Hand_hear => first | k_is | rfl | decide)
    (case a_l_cell_at => first | k_is | rfl | decide)
    (case l_l_cell_at => first | k_is | rfl | decide)
    (case cI_l_cell_at => first | k_is | rfl | decide)
    (case kk_l_cell_at => first | k_is | rfl | decide)
    (case a_l_name_by12 => first | k_is | rfl | decide)
    (case l_l_name_by12 => first | k_is | rfl | decide)
    (case cI_l_name_by12 => first | k_is | rfl | decide)
    (case kk_l_name_by12 => first | k_is | rfl | decide)
    (case a_l_names12 => first | k_is | rfl | decide)
    (case l_l_names12 => first | k_is | rfl | decide)
    (case cI_l_names12 => first | k_is | rfl | decide)
    (case kk_l_names12 => first | k_is | rfl | decide)
    (case a_net => first | k_is | rfl | decide)
    (case l_net => first | k_is | rfl | decide)
    (case cI_net => first | k_is | rfl | decide)
    (case kk_net => first | k_is | rfl | decide)
    (case a_total => first | k_is | rfl | decide)
    (case l_total => first | k_is | rfl | decide)
    (case cI_total => first | k_is | rfl | decide)
    (case kk_total => first | k_is | rfl | decide)
    (case a_Hand_told => first | k_is | rfl | decide)
    (case i_Hand_told => first | k_is | rfl | decide)
    (case l_Hand_told => first | k_is | rfl | decide)
    (case cI_Hand_told => first | k_is | rfl | decide)
    (case kk_Hand_told => first | k_is | rfl | decide)
    (case a_l_amount_by => first | k_is | rfl | decide)
    (case l_l_amount_by => first | k_is | rfl | decide)
    (case cI_l_amount_by => first | k_is | rfl | decide)
    (case kk_l_amount_by => first | k_is | rfl | decide)
    (case a_l_whole => first | k_is | rfl | decide)
    (case l_l_whole => first | k_is | rfl | decide)
    (case cI_l_whole => first | k_is | rfl | decide)
    (case kk_l_whole => first | k_is | rfl | decide)
    (case a_is_amount => first | k_is | rfl | decide)
    (case l_is_amount => first | k_is | rfl | decide)
    (case cI_is_amount => first | k_is | rfl | decide)
    (case kk_is_amount => first | k_is | rfl | decide)
    (case a_Hand_grown => first | k_is | rfl | decide)
    (case i_Hand_grown => first | k_is | rfl | decide)
    (case l_Hand_grown => first | k_is | rfl | decide)
    (case cI_Hand_grown => first | k_is | rfl | decide)
    (case kk_Hand_grown => first | k_is | rfl | decide)
    (case a_Hand_up => first | k_is | rfl | decide)
    (case i_Hand_up => first | k_is | rfl | decide)
    (case l_Hand_up => first | k_is | rfl | decide)
    (case cI_Hand_up => first | k_is | rfl | decide)
    (case kk_Hand_up => first | k_is | rfl | decide)
    (case a_Hand_down => first | k_is | rfl | decide)
    (case i_Hand_down => first | k_is | rfl | decide)
    (case l_Hand_down => first | k_is | rfl | decide)
    (case cI_Hand_down => first | k_is | rfl | decide)
    (case kk_Hand_down => first | k_is | rfl | decide)
    (case a_l_sum => first | k_is | rfl | decide)
    (case l_l_sum => first | k_is | rfl | decide)
    (case cI_l_sum => first | k_is | rfl | decide)
    (case kk_l_sum => first | k_is | rfl | decide)
    (case a_l_owners => first | k_is | rfl | decide)
    (case l_l_owners => first | k_is | rfl | decide)
    (case cI_l_owners => first | k_is | rfl | decide)
    (case kk_l_owners => first | k_is | rfl | decide)
    (case a_l_hears => first | k_is | rfl | decide)
    (case l_l_hears => first | k_is | rfl | decide)
    (case cI_l_hears => first | k_is | rfl | decide)
    (case kk_l_hears => first | k_is | rfl | decide)
    (case a_Hand_letter => first | k_is | rfl | decide)
    (case i_Hand_letter => first | k_is | rfl | decide)
    (case l_Hand_letter => first | k_is | rfl | decide)
    (case cI_Hand_letter => first | k_is | rfl | decide)
    (case kk_Hand_letter => first | k_is | rfl | decide)
    (case a_l_news => first | k_is | rfl | decide)
    (case l_l_news => first | k_is | rfl | decide)
    (case cI_l_news => first | k_is | rfl | decide)
    (case kk_l_news => first | k_is | rfl | decide)
    (case a_Hand_page => first | k_is | rfl | decide)
    (case i_Hand_page => first | k_is | rfl | decide)
    (case l_Hand_page => first | k_is | rfl | decide)
    (case cI_Hand_page => first | k_is | rfl | decide)
    (case kk_Hand_page => first | k_is | rfl | decide)
    (case a_l_deed13 => first | k_is | rfl | decide)
    (case l_l_deed13 => first | k_is | rfl | decide)
    (case cI_l_deed13 => first | k_is | rfl | decide)
    (case kk_l_deed13 => first | k_is | rfl | decide)
    (case a_law_k13 => first | k_is | rfl | decide)
    (case l_law_k13 => first | k_is | rfl | decide)
    (case cI_law_k13 => first | k_is | rfl | decide)
    (case kk_law_k13 => first | k_is | rfl | decide)
    (case x_Forged => k_exc)
    (case kp_Forged => first | k_is | rfl | decide)
    (case be_Forged => first | k_is | rfl | decide)
    (case ty_Forged => first | k_is | rfl | decide)
    (case hd_Forged => first | k_is | rfl | decide)
    (case mk_Hand => first | k_is | rfl | decide)
    (case kp_Hand => first | k_is | rfl | decide)
    (case pg_Hand => first | k_is | rfl | decide)
    (case hd_Hand => first | k_is | rfl | decide)
    (case po_Hand => first | k_is | rfl | decide)
    (case sa_Hand => first | k_is | rfl | decide)
    (case na_Hand_name => first | k_is | rfl | decide)
    (case na_Hand_known => first | k_is | rfl | decide)
    (case x_NoAmount => k_exc)
    (case kp_NoAmount => first | k_is | rfl | decide)
    (case be_NoAmount => first | k_is | rfl | decide)
    (case ty_NoAmount => first | k_is | rfl | decide)
    (case hd_NoAmount => first | k_is | rfl | decide)
    (case x_NoName => k_exc)
    (case kp_NoName => first | k_is | rfl | decide)
    (case be_NoName => first | k_is | rfl | decide)
    (case ty_NoName => first | k_is | rfl | decide)
    (case hd_NoName => first | k_is | rfl | decide)
    (case x_NoPage => k_exc)
    (case kp_NoPage => first | k_is | rfl | decide)
    (case be_NoPage => first | k_is | rfl | decide)
    (case ty_NoPage => first | k_is | rfl | decide)
    (case hd_NoPage => first | k_is | rfl | decide)
    (case ac_LETTERS => first | k_is | rfl | decide)
    (case ac_LIMIT => first | k_is | rfl | decide)
    (case ac_LONGEST => first | k_is | rfl | decide)
    (case ac_MOST => first | k_is | rfl | decide)
    (case ac_MOST_NAMES => first | k_is | rfl | decide)
    (case z_all => first | k_is | rfl | decide)
    (case z_bool => first | k_is | rfl | decide)
    (case z_dict => first | k_is | rfl | decide)
    (case z_int => first | k_is | rfl | decide)
    (case z_isinstance => first | k_is | rfl | decide)
    (case z_len => first | k_is | rfl | decide)
    (case z_list => first | k_is | rfl | decide)
    (case z_max => first | k_is | rfl | decide)
    (case z_range => first | k_is | rfl | decide)
    (case z_set => first | k_is | rfl | decide)
    (case z_sorted => first | k_is | rfl | decide)
    (case z_str => first | k_is | rfl | decide)
    (case z_sum => first | k_is | rfl | decide)
    (case z_tuple => first | k_is | rfl | decide)
#print axioms PySem.Challenge.cw_gossipcount_k13_whole_heard_of_holds
