/- A fact laid aside. -/
import Derived.Below
namespace Go.Proofs.YtfiibpgoplcgkaaGreatDoor
def Hd (p:Prop):Prop:=p
theorem Hd.o {p:Prop} (h:Hd p):p:=h
theorem Hd.out {p:Prop} (h:Hd p):p:=h
theorem η {p:Prop} (h:p):Hd p:=h
theorem γ:type_of% @List.getElem?_eq_getElem:=@List.getElem?_eq_getElem
theorem δ:type_of% @List.getD_eq_getElem?_getD:=@List.getD_eq_getElem?_getD
theorem ε:type_of% @decide_eq_false:=@decide_eq_false
theorem ζ:type_of% @decide_eq_true:=@decide_eq_true
theorem θ:type_of% @List.length_append:=@List.length_append
theorem ι:type_of% @Nat.le_refl:=@Nat.le_refl
theorem κ:type_of% @if_neg:=@if_neg
theorem ν:type_of% @IntKind.wrap_i64:=@IntKind.wrap_i64
theorem ξ:type_of% @if_pos:=@if_pos
theorem π:type_of% @List.setIfInBounds_toArray:=@List.setIfInBounds_toArray
theorem ρ:type_of% @World.size_alloc:=@World.size_alloc
theorem υ:type_of% @Nat.zero_le:=@Nat.zero_le
theorem χ:type_of% @List.length_cons:=@List.length_cons
theorem ψ:type_of% @List.set_cons_zero:=@List.set_cons_zero
theorem ω:type_of% @List.set_cons_succ:=@List.set_cons_succ
theorem Γ:type_of% @List.mem_singleton:=@List.mem_singleton
theorem Δ:type_of% @List.take_of_length_le:=@List.take_of_length_le
theorem Θ:type_of% @List.length_take:=@List.length_take
theorem Ξ:type_of% @Bool.and_eq_true:=@Bool.and_eq_true
theorem Φ:type_of% @decide_eq_true_eq:=@decide_eq_true_eq
theorem Ψ:type_of% @Nat.lt_of_lt_of_le:=@Nat.lt_of_lt_of_le
theorem Ω:type_of% @Nat.le_trans:=@Nat.le_trans
end Go.Proofs.YtfiibpgoplcgkaaGreatDoor
