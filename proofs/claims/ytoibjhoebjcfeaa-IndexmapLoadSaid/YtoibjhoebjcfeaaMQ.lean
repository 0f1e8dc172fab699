/- Plain laws: the document's parse of a manifest's bytes, and that both parses say the same of any bytes. -/
import Derived.Test.YtoibjhoebjcfeaaMP
namespace Go.Proofs.Ytoibjhoebjcfeaa

theorem numV_at (a : List UInt8) (k x : Nat) (r : List UInt8) (h : x < 256 ^ k) : numV (a ++ (be k x ++ r)) a.length k = x := by
  unfold numV
  rw [if_neg (by simp [be_length])]
  have e : ((a ++ (be k x ++ r)).take (a.length + k)).drop a.length = be k x := by
    rw [List.take_length_add_append, List.drop_left, List.take_left' (be_length k x)]
  rw [e, unbe_be, Nat.mod_eq_of_lt h]

theorem numV_of {s a : List UInt8} {k x at_ : Nat} {r : List UInt8} (hs : s = a ++ (be k x ++ r)) (ha : a.length = at_) (h : x < 256 ^ k) : numV s at_ k = x := by
  subst hs ha; exact numV_at a k x r h

theorem rlevG_put : ∀ (l : List Int) (s a r : List UInt8) (at_ : Nat) (acc : List Int), s = a ++ ((l.map b4).flatten ++ r) → a.length = at_ → (∀ x ∈ l, okInt x) →
    rlevG l.length s at_ acc = (acc ++ l, at_ + 4 * l.length)
  | [], s, a, r, at_, acc, _, _, _ => by simp [rlevG]
  | x :: l, s, a, r, at_, acc, hs, ha, h => by
    obtain ⟨h1, h2⟩ := h x (by simp)
    have e : s = a ++ (be 4 x.toNat ++ ((l.map b4).flatten ++ r)) := by rw [hs]; simp [b4]
    have e2 : s = (a ++ be 4 x.toNat) ++ ((l.map b4).flatten ++ r) := by rw [e, List.append_assoc]
    rw [List.length_cons, rlevG, if_pos (by rw [e]; simp [be_length, ha]), numV_of e ha (by omega),
      rlevG_put l s _ r (at_ + 4) _ e2 (by simp [be_length, ha]) fun y hy => h y (by simp [hy]), List.append_assoc, Int.toNat_of_nonneg h1]
    simp; omega

theorem levBytes_b4 (l : List Int) : levBytes l = be 1 l.length ++ (l.map b4).flatten := rfl

theorem rlevsG_put : ∀ (T : List (List Int)) (s a r : List UInt8) (at_ : Nat) (acc : List (List Int)), s = a ++ ((T.map levBytes).flatten ++ r) → a.length = at_ → (∀ l ∈ T, okRow l) →
    rlevsG T.length s at_ acc = acc ++ T
  | [], s, a, r, at_, acc, _, _, _ => by simp [rlevsG]
  | l :: T, s, a, r, at_, acc, hs, ha, h => by
    have hl := h l (by simp)
    have e : s = a ++ (be 1 l.length ++ ((l.map b4).flatten ++ ((T.map levBytes).flatten ++ r))) := by rw [hs]; simp [levBytes_b4]
    have e2 : s = (a ++ be 1 l.length) ++ ((l.map b4).flatten ++ ((T.map levBytes).flatten ++ r)) := by rw [e, List.append_assoc]
    have e3 : s = (a ++ (be 1 l.length ++ (l.map b4).flatten)) ++ ((T.map levBytes).flatten ++ r) := by rw [e]; simp only [List.append_assoc]
    have hb4 : (l.map b4).flatten.length = 4 * l.length := flat4_length l
    rw [List.length_cons, rlevsG, if_pos (by rw [e]; simp [be_length, ha]; omega), numV_of e ha (by have := hl.1; omega),
      rlevG_put l s _ _ (at_ + 1) [] e2 (by simp [be_length, ha]) hl.2]
    simp only [List.nil_append]
    rw [rlevsG_put T s _ r _ _ e3 (by simp only [List.length_append, be_length, hb4, ha]; omega) fun y hy => h y (by simp [hy]), List.append_assoc]
    rfl

theorem rparse_put {nx ck sd : Int} {L : List (List Int)} (h : mvalid nx ck L = true) (h0 : 0 ≤ sd) (h1 : sd < 18446744073709551616) :
    rparseG (sealS (manBody nx ck sd L)) = ⟨nx, ck, sd, trimL L⟩ := by
  have hp := mvalid_parts h
  have hr := rows_ok h
  have e := body_parts nx ck sd L (lowS (crcSum (manBody nx ck sd L)))
  change sealS (manBody nx ck sd L) = _ at e
  generalize lowS (crcSum (manBody nx ck sd L)) = low at e
  have e1 : sealS (manBody nx ck sd L) = [105, 109, 97, 112] ++ (be 4 nx.toNat ++ (be 4 ck.toNat ++ (be 8 sd.toNat ++ (be 1 (trimL L).length ++ (((trimL L).map levBytes).flatten ++ low))))) := e
  have e2 : sealS (manBody nx ck sd L) = ([105, 109, 97, 112] ++ be 4 nx.toNat) ++ (be 4 ck.toNat ++ (be 8 sd.toNat ++ (be 1 (trimL L).length ++ (((trimL L).map levBytes).flatten ++ low)))) := by rw [e]; simp only [List.append_assoc]
  have e3 : sealS (manBody nx ck sd L) = ([105, 109, 97, 112] ++ be 4 nx.toNat ++ be 4 ck.toNat) ++ (be 8 sd.toNat ++ (be 1 (trimL L).length ++ (((trimL L).map levBytes).flatten ++ low))) := by rw [e]; simp only [List.append_assoc]
  have e4 : sealS (manBody nx ck sd L) = ([105, 109, 97, 112] ++ be 4 nx.toNat ++ be 4 ck.toNat ++ be 8 sd.toNat) ++ (be 1 (trimL L).length ++ (((trimL L).map levBytes).flatten ++ low)) := by rw [e]; simp only [List.append_assoc]
  have e5 : sealS (manBody nx ck sd L) = ([105, 109, 97, 112] ++ be 4 nx.toNat ++ be 4 ck.toNat ++ be 8 sd.toNat ++ be 1 (trimL L).length) ++ (((trimL L).map levBytes).flatten ++ low) := by rw [e]; simp only [List.append_assoc]
  unfold rparseG
  rw [numV_of (at_ := 4) e1 rfl (by omega), numV_of (at_ := 8) e2 (by simp [be_length]) (by omega), numV_of (at_ := 12) e3 (by simp [be_length]) (by omega), numV_of (at_ := 20) e4 (by simp [be_length]) (by omega),
    rlevsG_put (trimL L) _ _ _ 21 [] e5 (by simp [be_length]) hr.2, List.nil_append, Int.toNat_of_nonneg hp.1.1, Int.toNat_of_nonneg hp.1.2.2.1, Int.toNat_of_nonneg h0]

theorem rget_put {nx ck sd : Int} {L : List (List Int)} (h : mvalid nx ck L = true) (h0 : 0 ≤ sd) (h1 : sd < 18446744073709551616) :
    rgetS (sealS (manBody nx ck sd L)) = ⟨nx, ck, sd, trimL L, 0⟩ := by
  unfold rgetS
  rw [rparse_put h h0 h1]
  rw [if_pos (by rw [mput_trim h, mput_bytes h])]

/-- both say the same of any bytes -/
theorem mget_rget (s : List UInt8) : mgetS s = rgetS s := by
  by_cases hz : (mgetS s).en = 0
  · obtain ⟨hv, hs, a0, a1⟩ := mget_ok hz
    rw [← hs, mget_put hv a0 a1, rget_put hv a0 a1]
  · rw [mget_bad hz]
    unfold rgetS
    split
    · rename_i he
      exfalso
      have hv : mvalid (rparseG s).nx (rparseG s).ck (rparseG s).L = true := by
        unfold mputS at he
        split at he
        · assumption
        · cases he
      rw [mput_bytes hv] at he
      have hs := congrArg Prod.fst he
      have a1 : (rparseG s).sd < 18446744073709551616 := by
        have := numV_lt s 12 8
        show ((numV s 12 8 : Nat) : Int) < _
        omega
      have a0 : 0 ≤ (rparseG s).sd := by show (0 : Int) ≤ ((numV s 12 8 : Nat) : Int); omega
      have := mget_put hv a0 a1
      change sealS (manBody (rparseG s).nx (rparseG s).ck (rparseG s).sd (rparseG s).L) = s at hs
      rw [hs] at this
      rw [this] at hz
      exact hz rfl
    · rfl

end Go.Proofs.Ytoibjhoebjcfeaa
