/- Plain laws: the bytes of a state, read, give it back; both parses say the same. -/
import Derived.Test.YtkkafjknogfdnaaFK
namespace Go.Proofs.Ytkkafjknogfdnaa

theorem nu_be (k x : Nat) (r : List UInt8) (h : x < 256 ^ k) (h2 : x ≤ 4611686018427387904) : nuV k (be k x ++ r) = x ∧ nuR k (be k x ++ r) = r ∧ ∀ ok, nuO k (be k x ++ r) ok = ok := by
  have hl : ¬ (be k x ++ r).length < k := by simp [be_length]
  refine ⟨?_, ?_, fun ok => ?_⟩
  · unfold nuV
    rw [if_neg hl, List.take_left' (be_length k x), unbe_be, Nat.mod_eq_of_lt h, Int.min_eq_left (by omega)]
  · unfold nuR
    rw [if_neg hl, List.drop_left' (be_length k x)]
  · unfold nuO
    rw [if_neg hl]

theorem rd_text (t r : List UInt8) (h : t.length ≤ 65535) : rdOk (textS t ++ r) = true ∧ rdT (textS t ++ r) = t ∧ rdR (textS t ++ r) = r := by
  have e : textS t ++ r = be 2 t.length ++ (t ++ r) := by rw [textS_yes h, List.append_assoc]
  have hu : unbe ((be 2 t.length ++ (t ++ r)).take 2) = t.length := by
    rw [List.take_left' (be_length 2 _), unbe_be, Nat.mod_eq_of_lt (by omega)]
  have hok : rdOk (textS t ++ r) = true := by
    unfold rdOk
    rw [e, hu, decide_eq_true (by simp [be_length]), decide_eq_true (by simp [be_length]; omega)]; rfl
  refine ⟨hok, ?_, ?_⟩
  · unfold rdT
    rw [if_pos hok, e, hu, ← List.append_assoc, List.take_left' (by simp [be_length]), List.drop_left' (be_length 2 _)]
  · unfold rdR
    rw [if_pos hok, e, hu, ← List.append_assoc, List.drop_left' (by simp [be_length])]

/-- a kind whose numbers stand in their bytes -/
def kdFit (k : Kd) : Prop := k.t.length ≤ 65535 ∧ 0 ≤ k.m ∧ k.m ≤ 1073741824 ∧ 0 ≤ k.b ∧ k.b ≤ 214748364800

theorem fit_of {nx : Int} {K : List Kd} (h : okState nx K) : ∀ k ∈ K, kdFit k := fun k hk => by
  obtain ⟨i, hi, rfl⟩ := List.mem_iff_getElem.1 hk
  have e : K.getD i kd0 = K[i] := by rw [List.getD_eq_getElem?_getD, List.getElem?_eq_getElem hi]; rfl
  obtain ⟨a1, a2, a3, a4, a5, a6⟩ := okState_kd h i hi
  rw [e] at a1 a2 a3 a4 a5 a6
  exact ⟨by omega, by omega, a4, a5, a6⟩

theorem kdB_app (k : Kd) (r : List UInt8) : kdB k ++ r = textS k.t ++ (be 4 k.m.toNat ++ (be 8 k.b.toNat ++ r)) := by unfold kdB; simp only [List.append_assoc]

theorem kdG_put : ∀ (K : List Kd) (r : List UInt8) (acc : List Kd), (∀ k ∈ K, kdFit k) → kdG K.length ((K.map kdB).flatten ++ r) true acc = (acc ++ K, r, true)
  | [], r, acc, _ => by simp [kdG]
  | k :: K, r, acc, h => by
    obtain ⟨f1, f2, f3, f4, f5⟩ := h k (by simp)
    have e : ((k :: K).map kdB).flatten ++ r = textS k.t ++ (be 4 k.m.toNat ++ (be 8 k.b.toNat ++ ((K.map kdB).flatten ++ r))) := by
      rw [List.map_cons, List.flatten_cons, List.append_assoc, kdB_app]
    have t1 := rd_text k.t (be 4 k.m.toNat ++ (be 8 k.b.toNat ++ ((K.map kdB).flatten ++ r))) f1
    have t2 := nu_be 4 k.m.toNat (be 8 k.b.toNat ++ ((K.map kdB).flatten ++ r)) (by omega) (by omega)
    have t3 := nu_be 8 k.b.toNat ((K.map kdB).flatten ++ r) (by omega) (by omega)
    rw [List.length_cons, kdG, if_pos rfl, e, t1.1, t1.2.1, t1.2.2, t2.1, t2.2.1, t2.2.2, t3.1, t3.2.1, t3.2.2, Int.toNat_of_nonneg f2, Int.toNat_of_nonneg f4]
    rw [Bool.and_self, kdG_put K r _ fun x hx => h x (by simp [hx]), List.append_assoc]
    rfl

theorem fparse_body {nx : Int} {K : List Kd} (h : okState nx K) (r : List UInt8) : fparse (stBody nx K ++ r) true = (nx, K, r, true) := by
  have hf := fit_of h
  obtain ⟨h1, h2, h3, _⟩ := h
  have e : stBody nx K ++ r = be 4 nx.toNat ++ (be 2 K.length ++ ((K.map kdB).flatten ++ r)) := by unfold stBody stHead; simp only [List.append_assoc]
  have t1 := nu_be 4 nx.toNat (be 2 K.length ++ ((K.map kdB).flatten ++ r)) (by omega) (by omega)
  have t2 := nu_be 2 K.length ((K.map kdB).flatten ++ r) (by omega) (by omega)
  unfold fparse
  rw [e, t1.1, t1.2.1, t1.2.2, t2.1, t2.2.1, t2.2.2, Int.toNat_natCast, kdG_put K r [] hf, Int.toNat_of_nonneg h1]
  rfl

theorem open_sealF (l : List UInt8) : openB (sealS l) = true ∧ openT (sealS l) = l := by
  have hl := sealS_length l
  have ht : (sealS l).take ((sealS l).length - 4) = l := by
    rw [hl, Nat.add_sub_cancel]; unfold sealS; exact List.take_left
  have hb : openB (sealS l) = true := by
    unfold openB
    rw [ht, decide_eq_true (show 4 ≤ (sealS l).length by omega), decide_eq_true rfl]; rfl
  exact ⟨hb, by unfold openT; rw [if_pos hb, ht]⟩

theorem fget_put {nx : Int} {K : List Kd} (h : okState nx K) : fgetS (sealS (stBody nx K)) = ⟨nx, K, 0⟩ := by
  obtain ⟨o1, o2⟩ := open_sealF (stBody nx K)
  have hp := fparse_body h []
  rw [List.append_nil] at hp
  unfold fgetS
  rw [o1, o2, hp, if_pos ⟨rfl, rfl, h⟩]

theorem nu_inv {k : Nat} {s : List UInt8} {ok : Bool} (h : nuO k s ok = true) (h2 : nuV k s < 4611686018427387904) : ok = true ∧ s = be k (nuV k s).toNat ++ nuR k s := by
  have hl : ¬ s.length < k := fun hh => by unfold nuO at h; rw [if_pos hh] at h; cases h
  unfold nuO at h
  rw [if_neg hl] at h
  unfold nuV at h2 ⊢
  unfold nuR
  rw [if_neg hl] at h2 ⊢
  rw [if_neg hl]
  have e : min (unbe (s.take k) : Int) 4611686018427387904 = unbe (s.take k) := Int.min_eq_left (by omega)
  rw [e, Int.toNat_natCast]
  have e2 := be_unbe (s.take k)
  rw [List.length_take, Nat.min_eq_left (by omega)] at e2
  exact ⟨h, by rw [e2, List.take_append_drop]⟩

theorem rd_inv {s : List UInt8} (h : rdOk s = true) : s = textS (rdT s) ++ rdR s := by
  have h0 := h
  unfold rdOk at h0
  rw [Bool.and_eq_true] at h0
  have h1 := of_decide_eq_true h0.1
  have h2 := of_decide_eq_true h0.2
  unfold rdT rdR
  rw [if_pos h, if_pos h]
  have hu := unbe_lt (s.take 2)
  rw [List.length_take, Nat.min_eq_left h1] at hu
  have hl : ((s.take (2 + unbe (s.take 2))).drop 2).length = unbe (s.take 2) := by rw [List.length_drop, List.length_take]; omega
  rw [textS_yes (by rw [hl]; omega), hl]
  have e2 := be_unbe (s.take 2)
  rw [List.length_take, Nat.min_eq_left h1] at e2
  rw [e2]
  have e4 : s.take (2 + unbe (s.take 2)) = s.take 2 ++ (s.take (2 + unbe (s.take 2))).drop 2 := by
    have e3 : s.take 2 = (s.take (2 + unbe (s.take 2))).take 2 := by rw [List.take_take, Nat.min_eq_left (by omega)]
    conv => rhs; lhs; rw [e3]
    rw [List.take_append_drop]
  rw [← e4, List.take_append_drop]

theorem kdG_inv : ∀ (n : Nat) (s : List UInt8) (ok : Bool) (acc L : List Kd) (r : List UInt8), kdG n s ok acc = (L, r, true) → ok = true ∧ ∃ K, L = acc ++ K ∧ K.length = n ∧ ((∀ k ∈ K, kdFit k) → s = (K.map kdB).flatten ++ r)
  | 0, s, ok, acc, L, r, h => by
    simp only [kdG, Prod.mk.injEq] at h
    exact ⟨h.2.2, [], by simp [h.1], rfl, fun _ => by simp [h.2.1]⟩
  | n + 1, s, ok, acc, L, r, h => by
    cases ok with
    | false => rw [kdG_no] at h; simp at h
    | true =>
      rw [kdG, if_pos rfl] at h
      obtain ⟨ho, K, hL, hn, hK⟩ := kdG_inv n _ _ _ _ _ h
      refine ⟨rfl, ⟨rdT s, nuV 4 (rdR s), nuV 8 (nuR 4 (rdR s))⟩ :: K, by rw [hL]; simp, by simp [hn], fun hf => ?_⟩
      obtain ⟨f1, f2, f3, f4, f5⟩ := hf _ (by simp : (⟨rdT s, nuV 4 (rdR s), nuV 8 (nuR 4 (rdR s))⟩ : Kd) ∈ _)
      simp only at f1 f2 f3 f4 f5
      obtain ⟨o2, e3⟩ := nu_inv ho (by omega)
      obtain ⟨o1, e2⟩ := nu_inv o2 (by omega)
      have e1 := rd_inv (s := s) (by simpa using o1)
      rw [List.map_cons, List.flatten_cons, List.append_assoc, kdB_app, ← hK fun k hk => hf k (by simp [hk]), ← e3, ← e2]
      exact e1

theorem fparse_inv {t r : List UInt8} {o : Bool} {nx : Int} {K : List Kd} (h : fparse t o = (nx, K, r, true)) (hok : okState nx K) : o = true ∧ t = stBody nx K ++ r := by
  have hf := fit_of hok
  unfold fparse at h
  simp only [Prod.mk.injEq] at h
  obtain ⟨h1, h2⟩ := h
  have h3 : kdG (nuV 2 (nuR 4 t)).toNat (nuR 2 (nuR 4 t)) (nuO 2 (nuR 4 t) (nuO 4 t o)) [] = (K, r, true) := h2
  obtain ⟨ho, M, hM, hn, hs⟩ := kdG_inv _ _ _ _ _ _ h3
  rw [List.nil_append] at hM
  subst hM
  have e3 := hs hf
  obtain ⟨o1, e2⟩ := nu_inv ho (by have := nuV_2 (nuR 4 t); omega)
  have hnx := hok.2.1
  obtain ⟨o0, e1⟩ := nu_inv o1 (by rw [h1]; omega)
  refine ⟨o0, ?_⟩
  rw [← hn] at e2
  have hnn : ((nuV 2 (nuR 4 t)).toNat : Nat) = K.length := hn.symm
  unfold stBody stHead
  rw [List.append_assoc, List.append_assoc, ← e3, hn, ← hn]
  rw [h1] at e1
  rw [← e2]
  exact e1

theorem fget_bad {s : List UInt8} (h : (fgetS s).en ≠ 0) : fgetS s = badS := by
  unfold fgetS at h ⊢
  split at h
  · simp at h
  · rename_i hk; rw [if_neg hk]

/-- what is got has these bytes -/
theorem fget_ok {s : List UInt8} (h : (fgetS s).en = 0) : okState (fgetS s).nx (fgetS s).K ∧ sealS (stBody (fgetS s).nx (fgetS s).K) = s := by
  unfold fgetS at h ⊢
  split at h
  · rename_i hk
    rw [if_pos hk]
    obtain ⟨k1, k2, k3⟩ := hk
    have hp : fparse (openT s) (openB s) = ((fparse (openT s) (openB s)).1, (fparse (openT s) (openB s)).2.1, [], true) := by
      rw [← k1, ← k2]
    obtain ⟨ho, ht⟩ := fparse_inv hp k3
    refine ⟨k3, ?_⟩
    rw [List.append_nil] at ht
    rw [← ht]
    have hb := ho
    unfold openB at hb
    rw [Bool.and_eq_true] at hb
    unfold openT
    rw [if_pos ho]
    exact of_decide_eq_true hb.2
  · simp [badS] at h

theorem fget_closed {s : List UInt8} (h : openB s = false) : fgetS s = badS := by
  by_cases hz : (fgetS s).en = 0
  · obtain ⟨_, hs⟩ := fget_ok hz
    rw [← hs, (open_sealF _).1] at h
    cases h
  · exact fget_bad hz

theorem fget_cut {nx : Int} {K : List Kd} (h : okState nx K) (k : Nat) (hk : k < (sealS (stBody nx K)).length) : fgetS ((sealS (stBody nx K)).take k) = badS := by
  by_cases hz : (fgetS ((sealS (stBody nx K)).take k)).en = 0
  · obtain ⟨nx', K', hv, hs⟩ : ∃ nx' K', okState nx' K' ∧ sealS (stBody nx' K') = (sealS (stBody nx K)).take k := ⟨_, _, fget_ok hz⟩
    have e := (List.take_append_drop k (sealS (stBody nx K))).symm
    rw [← hs] at e
    have p1 := fparse_body h (lowS (crcSum (stBody nx K)))
    have p2 := fparse_body hv (lowS (crcSum (stBody nx' K')) ++ (sealS (stBody nx K)).drop k)
    rw [← List.append_assoc] at p2
    have q1 : fparse (sealS (stBody nx K)) true = _ := p1
    clear p1
    have q2 : fparse (sealS (stBody nx' K') ++ (sealS (stBody nx K)).drop k) true = _ := p2
    clear p2
    rw [← e, q1] at q2
    have := congrArg List.length (congrArg (fun x => x.2.2.1) q2)
    simp only [List.length_append, lowS_length, List.length_drop] at this
    omega
  · exact fget_bad hz

/-- the document's parse of such bytes -/
theorem rkdG_put : ∀ (K : List Kd) (acc : List Kd), (∀ k ∈ K, kdFit k) → rkdG K.length ((K.map kdB).flatten) acc = some (acc ++ K)
  | [], acc, _ => by simp [rkdG]
  | k :: K, acc, h => by
    obtain ⟨f1, f2, f3, f4, f5⟩ := h k (by simp)
    have e : ((k :: K).map kdB).flatten = textS k.t ++ (be 4 k.m.toNat ++ (be 8 k.b.toNat ++ (K.map kdB).flatten)) := by
      rw [List.map_cons, List.flatten_cons, kdB_app]
    obtain ⟨t1, t2, t3⟩ := rd_text k.t (be 4 k.m.toNat ++ (be 8 k.b.toNat ++ (K.map kdB).flatten)) f1
    have h4 : (be 4 k.m.toNat ++ (be 8 k.b.toNat ++ (K.map kdB).flatten)).take 4 = be 4 k.m.toNat := List.take_left' (be_length 4 _)
    have e12 : be 4 k.m.toNat ++ (be 8 k.b.toNat ++ (K.map kdB).flatten) = (be 4 k.m.toNat ++ be 8 k.b.toNat) ++ (K.map kdB).flatten := by rw [List.append_assoc]
    have h12 : (be 4 k.m.toNat ++ (be 8 k.b.toNat ++ (K.map kdB).flatten)).take 12 = be 4 k.m.toNat ++ be 8 k.b.toNat := by rw [e12]; exact List.take_left' (by simp [be_length])
    have hd : (be 4 k.m.toNat ++ (be 8 k.b.toNat ++ (K.map kdB).flatten)).drop 12 = (K.map kdB).flatten := by rw [e12]; exact List.drop_left' (by simp [be_length])
    have hl : 12 ≤ (be 4 k.m.toNat ++ (be 8 k.b.toNat ++ (K.map kdB).flatten)).length := by simp only [List.length_append, be_length]; omega
    have hb : (k.b.toNat : Int) % 4611686018427387904 = k.b := by rw [Int.toNat_of_nonneg f4]; omega
    rw [List.length_cons, rkdG, e, t1, t2, t3, if_pos ⟨rfl, hl⟩, h4, h12, hd, List.drop_left' (be_length 4 _), unbe_be, unbe_be, Nat.mod_eq_of_lt (show k.m.toNat < 256 ^ 4 by omega), Nat.mod_eq_of_lt (show k.b.toNat < 256 ^ 8 by omega), hb, Int.toNat_of_nonneg f2, rkdG_put K _ fun x hx => h x (by simp [hx]), List.append_assoc]
    rfl

theorem rfparse_body {nx : Int} {K : List Kd} (h : okState nx K) : rfparse (stBody nx K) = some (nx, K) := by
  have hf := fit_of h
  obtain ⟨h1, h2, h3, _⟩ := h
  have e : stBody nx K = be 4 nx.toNat ++ (be 2 K.length ++ (K.map kdB).flatten) := by unfold stBody stHead; simp only [List.append_assoc]
  have e6 : be 4 nx.toNat ++ (be 2 K.length ++ (K.map kdB).flatten) = (be 4 nx.toNat ++ be 2 K.length) ++ (K.map kdB).flatten := by rw [List.append_assoc]
  have h4 : (be 4 nx.toNat ++ (be 2 K.length ++ (K.map kdB).flatten)).take 4 = be 4 nx.toNat := List.take_left' (be_length 4 _)
  have h6 : (be 4 nx.toNat ++ (be 2 K.length ++ (K.map kdB).flatten)).take 6 = be 4 nx.toNat ++ be 2 K.length := by rw [e6]; exact List.take_left' (by simp [be_length])
  have hd : (be 4 nx.toNat ++ (be 2 K.length ++ (K.map kdB).flatten)).drop 6 = (K.map kdB).flatten := by rw [e6]; exact List.drop_left' (by simp [be_length])
  have hl : 6 ≤ (be 4 nx.toNat ++ (be 2 K.length ++ (K.map kdB).flatten)).length := by simp only [List.length_append, be_length]; omega
  unfold rfparse
  rw [e, if_pos hl, h4, h6, hd, List.drop_left' (be_length 4 _), unbe_be, unbe_be, Nat.mod_eq_of_lt (show nx.toNat < 256 ^ 4 by omega), Nat.mod_eq_of_lt (show K.length < 256 ^ 2 by omega), rkdG_put K [] hf, Int.toNat_of_nonneg h1]
  rfl

/-- both say the same of any bytes -/
theorem fget_rfget (s : List UInt8) : fgetS s = rfgetS s := by
  by_cases hz : (fgetS s).en = 0
  · obtain ⟨nx, K, hv, hs⟩ : ∃ nx K, okState nx K ∧ sealS (stBody nx K) = s := ⟨_, _, fget_ok hz⟩
    rw [← hs, fget_put hv, rfget_yes (by rw [(open_sealF _).2]; exact rfparse_body hv) (fputS_yes (checkN_yes hv))]
  · rw [fget_bad hz]
    cases hp : rfparse (openT s) with
    | none => rw [rfget_none hp]
    | some x =>
      obtain ⟨nx, K⟩ := x
      by_cases h2 : fputS nx K = (s, 0)
      · exfalso
        rcases check_cases nx K with hc | hc
        · have hv := check_ok hc
          rw [fputS_yes hc] at h2
          have hs : sealS (stBody nx K) = s := congrArg Prod.fst h2
          rw [← hs, fget_put hv] at hz
          exact hz rfl
        · rw [fputS_no hc] at h2
          have := congrArg Prod.snd h2
          simp at this
      · rw [rfget_no hp h2]

end Go.Proofs.Ytkkafjknogfdnaa
