/- Laws of regions that draw their order. -/
import Derived.Deep.RegionHeld3
import Derived.StillTail
set_option linter.unusedVariables false
set_option linter.unusedSimpArgs false
set_option maxRecDepth 100000
set_option maxHeartbeats 200000
namespace Go.Proofs.YthdekbmdkpcooaaGreatDoor
section
variable {P :Program} {ops:Array Oper} {Q:Exit→Act→World→Prop} {md:Region.Mode} {S:World→Prop} {n:Nat}
def NotBegun (ops:Array Oper) (n:Nat) (listed:Array Bool):Prop:= ∀t,n≤t→t<ops.size→listed.getD t false=false
def q3Z (P:Program) (md:Region.Mode) (ops:Array Oper) (Q:Exit→Act→World→Prop) (S:World→Prop) (n:Nat):Nat→Array Bool→Act→World→Prop
 |0,listed,a,w=>Region.ready md ops listed=[]∧Q .normal a w
 | fuel+1,listed,a,w=>
  (Region.ready md ops listed=[]→Q .normal a w)∧
  ∀i∈Region.ready md ops listed,wpOp P ops Q i (fun a' w'=>(NotBegun ops n (listed.setIfInBounds i true)→S w')∧q3Z P md ops Q S n fuel (listed.setIfInBounds i true) a' w') a w
theorem q8J : ∀(fuel:Nat) (listed:Array Bool) (a:Act) (w:World),q3Z P md ops Q S n fuel listed a w→wpAny P md ops Q fuel listed a w
 |0,_,_,_,h=>h
 |fuel+1,_,_,_,h=>⟨h.1,fun i hi=>wpOp_mono (fun a' w' h'=>q8J fuel _ a' w' h'.2) (h.2 i hi)⟩
theorem NotBegun.back {i:Nat} {listed:Array Bool} (h:NotBegun ops n (listed.setIfInBounds i true)):NotBegun ops n listed:=fun t ht hl=>by
 cases hq:listed.getD t false with
 |false=>rfl
 |true=>have:=h t ht hl;rw[getD_set_true hq] at this;cases this
def q9Z (md:Region.Mode) (ops:Array Oper) (i:Nat):Nat→Nat→Bool
 |0,_=>false
 | f+1,t=>match ops[t]? with
  |some o=>(o.after.any fun e=>Region.binds md e&&e.on==i)||(o.after.any fun e=>Region.binds md e&&q9Z md ops i f e.on)
  |none=>false
def Closed (md:Region.Mode) (ops:Array Oper) (listed:Array Bool):Prop:= ∀j oj,ops[j]? =some oj→listed.getD j false=true→ ∀e∈oj.after,Region.binds md e=true→listed.getD e.on false=true
theorem Closed.set {i:Nat} {listed:Array Bool} (inv:Closed md ops listed) (hi:i∈Region.ready md ops listed):Closed md ops (listed.setIfInBounds i true):=by
 obtain ⟨_,oi,hoi,hall⟩:=mem_ready.1 hi;intro j oj hj hl e he hb;by_cases hij:i=j
 ·subst hij
  have:oj=oi:=Option.some.inj (hj.symm.trans hoi);subst this;exact getD_set_true (hall e he hb)
 ·rw[getD_set_ne false hij] at hl
  exact getD_set_true (inv j oj hj hl e he hb)
theorem q7l {i:Nat} {listed:Array Bool} (inv:Closed md ops listed) (hun:listed.getD i false=false): ∀(f t:Nat),q9Z md ops i f t=true→listed.getD t false=false∧t∉Region.ready md ops listed
 |0,t,h=>by cases h
 | f + 1, t,h=>by
  unfold q9Z at h
  split at h
  ·rename_i o ho
   have key: ∃e∈o.after,Region.binds md e=true∧listed.getD e.on false=false:=by
    rw[Bool.or_eq_true] at h;rcases h with h|h
    ·obtain ⟨e,he,hb⟩:=Array.any_eq_true'.1 h
     simp only[Bool.and_eq_true,beq_iff_eq] at hb;exact ⟨e,he,hb.1,by rw[hb.2];exact hun⟩
    ·obtain ⟨e,he,hb⟩:=Array.any_eq_true'.1 h
     simp only[Bool.and_eq_true] at hb;exact ⟨e,he,hb.1,(q7l inv hun f e.on hb.2).1⟩
   obtain ⟨e,he,hb,hu⟩:=key;refine ⟨?_,fun hr=>?_⟩
   ·cases hl:listed.getD t false with
    |false=>rfl
    |true=>rw[inv t o ho hl e he hb] at hu;cases hu
   ·obtain ⟨_,o',ho',hall⟩:=mem_ready.1 hr
    have:o'=o:=Option.some.inj (ho'.symm.trans ho);subst this;rw[hall e he hb] at hu;cases hu
  ·cases h
theorem q5u {i:Nat} {oi:Oper} {v:Value} {S':World→Prop} (hi:ops[i]? =some oi) (hsel: ∀(j:Nat) (o:Oper) cs b,ops[j]? =some o→o.op≠ .select cs b)
  (hlt:i<n) (hin:(∀w,S' w)∨((∀w,S w→S' w)∧ ∃f,∀t,n≤t→t<ops.size→q9Z md ops i f t=true))
  (hQ: ∀c a w,Q (.panic c) (a.put oi.dst v) w→Q (.panic c) a w):
  ∀ (fuel:Nat) (listed:Array Bool) (a:Act) (w:World),Closed md ops listed→
   (∀j oj,ops[j]? =some oj→j≠i→listed.getD j true=false→(∀e∈oj.after,Region.binds md e=true→e.on≠i)→oi.apart ops oj=true)→
   i∈Region.ready md ops listed→YieldsIf P ops S' oi v a→S' w→(NotBegun ops n listed→S w)→
   q3Z P md ops Q S n fuel (listed.setIfInBounds i true) (a.put oi.dst v) w→q3Z P md ops Q S n (fuel+1) listed a w:=by
 intro fuel
 induction fuel with
 | zero=>
  intro listed a w _ _ hr hy hS hS2 H;refine ⟨fun h=>(by rw[h] at hr;cases hr),fun j hj=>?_⟩;by_cases hji:j=i
  ·subst hji;exact hy.wpOp hi hS ⟨fun h=>hS2 h.back,H⟩
  ·have:=ready_mono hj hji
   rw[H.1] at this
   cases this
 | succ fuel ih=>
  intro listed a w inv hfree hr hy hS hS2 H;have hun:=(mem_ready.1 hr).1;refine ⟨fun h=>(by rw[h] at hr;cases hr),fun j hj=>?_⟩;by_cases hji:j=i
  ·subst hji;exact hy.wpOp hi hS ⟨fun h=>hS2 h.back,H⟩
  ·have h1:=H.2 j (ready_mono hj hji)
   obtain ⟨hjun,oj,hoj,hall⟩:=mem_ready.1 hj;have hnot: ∀e∈oj.after,Region.binds md e=true→e.on≠i:=fun e he hb heq=>by
    have h1:=hall e he hb;rw[heq,getD_both hun] at h1
    cases h1
   have h2:=wpOp_putIf hoj (hfree j oj hoj hji hjun hnot) (fun cs b=>hsel i oi cs b hi) (fun cs b=>hsel j oj cs b hoj) hQ hy h1;have hfree': ∀k ok,ops[k]? =some ok→k≠i→(listed.setIfInBounds j true).getD k true=false→
     (∀e∈ok.after,Region.binds md e=true→e.on≠i)→oi.apart ops ok=true:=fun k ok hk hki hun hno=>by
    refine hfree k ok hk hki ?_ hno;by_cases hjk:j=k
    ·subst hjk;exact hjun
    ·rw[getD_set_ne true hjk] at hun;exact hun
   have hset: ∀w',(NotBegun ops n ((listed.setIfInBounds i true).setIfInBounds j true)→S w')→NotBegun ops n (listed.setIfInBounds j true)→i<n→S w':=fun w' h hb hin=>h fun t ht hl=>by
    rw[Array.setIfInBounds_comm _ _ (Ne.symm hji),getD_set_ne false (by omega)];exact hb t ht hl
   rcases hin with hin|⟨hin,f,hin3⟩
   ·refine wpOp_mono (fun a' w' h3=>?_) h2
    have hS3:(i<n)→NotBegun ops n (listed.setIfInBounds j true)→S w':=fun hlt hb=>hset w' h3.2.1 hb hlt
    refine ⟨hS3 hlt,ih (listed.setIfInBounds j true) a' w' (inv.set hj) hfree' (ready_mono hr (Ne.symm hji)) h3.1 (hin w') (hS3 hlt) ?_⟩;rw[Array.setIfInBounds_comm _ _ hji];exact h3.2.2
   ·have hun2: ∀t,n≤t→t<ops.size→listed.getD t false=false∧t∉Region.ready md ops listed:=fun t ht hl=>q7l inv (getD_both hun) f t (hin3 t ht hl)
    have hnb:NotBegun ops n (listed.setIfInBounds j true):=fun t ht hl=>by
     have:=hun2 t ht hl;rw[getD_set_ne false (fun e:j=t=>this.2 (by rw[←e];exact hj))];exact this.1
    refine wpOp_mono (fun a' w' h3=>⟨fun hb=>hset w' h3.2.1 hb hlt,ih (listed.setIfInBounds j true) a' w' (inv.set hj) hfree' (ready_mono hr (Ne.symm hji)) h3.1 (hin w' (hset w' h3.2.1 hnb hlt)) (fun hb=>hset w' h3.2.1 hb hlt) ?_⟩) h2;rw[Array.setIfInBounds_comm _ _ hji];exact h3.2.2
def q8U (md:Region.Mode) (ops:Array Oper) (listed:Array Bool):Bool:=
 (List.range ops.size).all fun j=>!listed.getD j false||(match ops[j]? with|some oj=>oj.after.all fun e=>!Region.binds md e||listed.getD e.on false|none=>true)
theorem q7N {listed:Array Bool} (h:q8U md ops listed=true):Closed md ops listed:=by
 simp only[q8U,List.all_eq_true,List.mem_range,Bool.or_eq_true,Bool.not_eq_true'] at h;intro j oj hj hl e he hb;rcases h j (Array.getElem?_eq_some_iff.1 hj).1 with h|h
 ·rw[h] at hl;cases hl
 ·simp only[hj] at h
  have h4:=Array.all_eq_true_iff_forall_mem.1 h e he;simp only[Bool.or_eq_true,Bool.not_eq_true'] at h4;rcases h4 with h4|h4
  ·rw[h4] at hb;cases hb
  ·exact h4
theorem q0j {l:List Oper} {i:Nat} {oi:Oper} {v:Value} {fuel:Nat} {listed:Array Bool} {a:Act} {w:World} (hi:l[i]? =some oi)
  (hB:(Region.noSelect l.toArray&&decide (i<n)&&q8U md l.toArray listed&&Region.free md l.toArray listed i&&(Region.ready md l.toArray listed).contains i&&(List.range l.length).all fun t=>decide (t<n)||q9Z md l.toArray i 4 t)=true)
  (hQ: ∀c a w,Q (.panic c) (a.put oi.dst v) w→Q (.panic c) a w) (hy:YieldsIf P l.toArray S oi v a) (hS:S w)
  (h:S w→q3Z P md l.toArray Q S n fuel (listed.setIfInBounds i true) (a.put oi.dst v) w):q3Z P md l.toArray Q S n (fuel+1) listed a w:=by
 simp only[Bool.and_eq_true,decide_eq_true_eq,List.all_eq_true,List.mem_range,Bool.or_eq_true] at hB;obtain ⟨⟨⟨⟨⟨h1,h2⟩,h3⟩,h4⟩,h5⟩,h6⟩:=hB;have hi':l.toArray[i]? =some oi:=by simpa using hi
 exact q5u hi' (Region.noSelect_spec h1) h2 (.inr ⟨fun _ h=>h,4,fun t ht hl=>(h6 t (by simpa using hl)).resolve_left (by omega)⟩) hQ fuel listed a w (q7N h3) (Region.free_spec hi' h4) (by simpa using h5) hy hS (fun _=>hS) (h hS)
theorem q0C {l:List Oper} {i:Nat} {oi:Oper} {v:Value} {fuel:Nat} {listed:Array Bool} {a:Act} {w:World} (hi:l[i]? =some oi)
  (hB:(Region.noSelect l.toArray&&decide (i<n)&&q8U md l.toArray listed&&Region.free md l.toArray listed i&&(Region.ready md l.toArray listed).contains i)=true)
  (hQ: ∀c a w,Q (.panic c) (a.put oi.dst v) w→Q (.panic c) a w) (hy:YieldsIf P l.toArray (fun _=>True) oi v a) (hS:S w)
  (h:S w→q3Z P md l.toArray Q S n fuel (listed.setIfInBounds i true) (a.put oi.dst v) w):q3Z P md l.toArray Q S n (fuel+1) listed a w:=by
 simp only[Bool.and_eq_true,decide_eq_true_eq] at hB;obtain ⟨⟨⟨⟨h1,h2⟩,h3⟩,h4⟩,h5⟩:=hB;have hi':l.toArray[i]? =some oi:=by simpa using hi
 exact q5u hi' (Region.noSelect_spec h1) h2 (.inl fun _=>trivial) hQ fuel listed a w (q7N h3) (Region.free_spec hi' h4) (by simpa using h5) hy trivial (fun _=>hS) (h hS)
theorem q0x {l:List Oper} {i:Nat} {o:Oper} {fuel:Nat} {listed:Array Bool} {a:Act} {w:World} (hr:Region.ready md l.toArray listed=[i]) (ho:l[i]? =some o)
  (h : ∀K':Act→World→Prop,Shut (∀a w,S w→(S w→q3Z P md l.toArray Q S n fuel (listed.setIfInBounds i true) a w)→K' a w)→
   if Region.wanted o (yielded l.toArray a.tmps)=true then Oper.wp P o a w K' Q else K' (a.put o.dst undef) w):q3Z P md l.toArray Q S n (fuel+1) listed a w:=by
 refine ⟨fun h0=>(by rw[h0] at hr;cases hr),fun j hj=>?_⟩;rw[hr] at hj;obtain rfl:=List.mem_singleton.1 hj;have ho':l.toArray[j]? =some o:=by simpa using ho
 exact wpOp_step ho' (fun K' hK=>h K' (fun a w hS hW=>hK a w ⟨fun _=>hS,hW hS⟩))
theorem q6x : ∀(l:List Oper) (k:Nat) (listed:Array Bool) (a:Act) (w:World),n≤k→(∀j,l[j]? =ops[k+j]?)→
  Region.seqB md ops l.length k listed=true→wpList P ops Q l a w→q3Z P md ops Q S n l.length listed a w
 |[],_,_,_,_,_,_,hB,h=>⟨by simpa [Region.seqB] using hB,h⟩
 | o ::l,k,listed,a,w,hk,hl,hB,h=>by
  have h0:ops[k]? =some o:=by simpa using (hl 0).symm
  simp only[List.length_cons,Region.seqB,Bool.and_eq_true,decide_eq_true_eq] at hB;refine ⟨fun h1=>(by rw[hB.1] at h1;cases h1),fun i hi=>?_⟩;have hi0:=hi;rw[hB.1] at hi;have hik:i=k:=by simpa using hi
  subst hik;have hw:wpOp P ops Q i (wpList P ops Q l) a w:=by unfold wpOp;simp only[h0];exact h
  have hlt:i<ops.size:=(Array.getElem?_eq_some_iff.1 h0).1;have hls:i<listed.size:=by
   have hu:=(mem_ready.1 hi0).1;rcases Nat.lt_or_ge i listed.size with h|h
   ·exact h
   ·simp[Array.getElem?_eq_none h] at hu
  exact wpOp_mono (fun a' w' h'=>⟨fun hb=>(by have:=hb i hk hlt;simp[hls] at this),q6x l (i+1) _ a' w' (by omega) (fun j=>by have:=hl (j+1);simpa [Nat.add_assoc,Nat.add_comm 1 j] using this) hB.2 h'⟩) hw
theorem q1t {l:List Oper} {fuel:Nat} {listed:Array Bool} {a:Act} {w:World} (hB:(Region.seqB md l.toArray (l.drop n).length n listed&&decide (fuel=(l.drop n).length))=true)
  (h:wpList P l.toArray Q (l.drop n) a w):q3Z P md l.toArray Q S n fuel listed a w:=by
 simp only[Bool.and_eq_true,decide_eq_true_eq] at hB;obtain ⟨h1,rfl⟩:=hB;exact q6x (l.drop n) n listed a w (Nat.le_refl _) (fun j=>by simp[List.getElem?_drop]) h1 h
theorem q1f {id:Nat} {a:Act} {w:World} (S:World→Prop) (n:Nat) (hm:P.follows .mixedOrders=true) (hS:S w.drew)
  (h:S w.drew→q3Z P .any ops Q S n ops.size (Array.replicate ops.size false) a w.drew):(Code.region id ops true).wp P Q a w:=
 wp_region_any hm (q8J _ _ _ _ (h hS))
end
end Go.Proofs.YthdekbmdkpcooaaGreatDoor
