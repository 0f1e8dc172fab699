/- Laws of regions that draw their order: loads under a condition S, and an end that may change S's cells. Walks: an event, read off bytes. Walks: what is wrong with a batch. Walks: a batch's head. Walks: a batch's bytes. -/
import Derived.Deep.RegionHeld3
import Derived.StillTail
import Derived.Test.YtmajfklnagdlpaaGreatDoorG20Bs
import Derived.Test.YtmajfklnagdlpaaGreatDoorG30Bs
import Derived.Test.YtmajfklnagdlpaaGreatDoorG4Bs
import Derived.Test.YtmajfklnagdlpaaGreatDoorG10Bs
set_option linter.unusedVariables false
set_option linter.unusedSimpArgs false
namespace Go.Proofs.YtmajfklnagdlpaaGreatDoor
section
variable {P :Program} {ops:Array Oper} {Q:Exit→Act→World→Prop} {md:Region.Mode} {S:World→Prop} {n:Nat}
def NotBegun (ops:Array Oper) (n:Nat) (listed:Array Bool):Prop:= ∀t,n≤t→t<ops.size→listed.getD t false=false
def q3j (P:Program) (md:Region.Mode) (ops:Array Oper) (Q:Exit→Act→World→Prop) (S:World→Prop) (n:Nat):Nat→Array Bool→Act→World→Prop
  |0,listed,a,w=>Region.ready md ops listed=[]∧Q .normal a w
  | fuel+1,listed,a,w=>
    (Region.ready md ops listed=[]→Q .normal a w)∧
    ∀i∈Region.ready md ops listed,wpOp P ops Q i (fun a' w'=>(NotBegun ops n (listed.setIfInBounds i true)→S w')∧q3j P md ops Q S n fuel (listed.setIfInBounds i true) a' w') a w
theorem q7R : ∀(fuel:Nat) (listed:Array Bool) (a:Act) (w:World),q3j P md ops Q S n fuel listed a w→wpAny P md ops Q fuel listed a w
  |0,_,_,_,h=>h
  |fuel+1,_,_,_,h=>⟨h.1,fun i hi=>wpOp_mono (fun a' w' h'=>q7R fuel _ a' w' h'.2) (h.2 i hi)⟩
theorem NotBegun.back {i:Nat} {listed:Array Bool} (h:NotBegun ops n (listed.setIfInBounds i true)):NotBegun ops n listed:=fun t ht hl=>by
  cases hq:listed.getD t false with
  |false=>rfl
  |true=>have:=h t ht hl;rw[getD_set_true hq] at this;cases this
def q9n (md:Region.Mode) (ops:Array Oper) (i:Nat):Nat→Nat→Bool
  |0,_=>false
  | f+1,t=>match ops[t]? with
    |some o=>(o.after.any fun e=>Region.binds md e&&e.on==i)||(o.after.any fun e=>Region.binds md e&&q9n md ops i f e.on)
    |none=>false
def Closed (md:Region.Mode) (ops:Array Oper) (listed:Array Bool):Prop:= ∀j oj,ops[j]?=some oj→listed.getD j false=true→ ∀e∈oj.after,Region.binds md e=true→listed.getD e.on false=true
theorem Closed.set {i:Nat} {listed:Array Bool} (inv:Closed md ops listed) (hi:i∈Region.ready md ops listed):Closed md ops (listed.setIfInBounds i true):=by
  obtain ⟨_,oi,hoi,hall⟩:=mem_ready.1 hi
  intro j oj hj hl e he hb
  by_cases hij:i=j
  · subst hij
    have:oj=oi:=Option.some.inj (hj.symm.trans hoi)
    subst this
    exact getD_set_true (hall e he hb)
  · rw[getD_set_ne false hij] at hl
    exact getD_set_true (inv j oj hj hl e he hb)
theorem q7W {i:Nat} {listed:Array Bool} (inv:Closed md ops listed) (hun:listed.getD i false=false): ∀(f t:Nat),q9n md ops i f t=true→listed.getD t false=false∧t∉Region.ready md ops listed
  |0,t,h=>by cases h
  | f + 1, t,h=>by
    unfold q9n at h
    split at h
    · rename_i o ho
      have key: ∃e∈o.after,Region.binds md e=true∧listed.getD e.on false=false:=by
        rw[Bool.or_eq_true] at h
        rcases h with h|h
        · obtain ⟨e,he,hb⟩:=Array.any_eq_true'.1 h
          simp only[Bool.and_eq_true,beq_iff_eq] at hb
          exact ⟨e,he,hb.1,by rw[hb.2];exact hun⟩
        · obtain ⟨e,he,hb⟩:=Array.any_eq_true'.1 h
          simp only[Bool.and_eq_true] at hb
          exact ⟨e,he,hb.1,(q7W inv hun f e.on hb.2).1⟩
      obtain ⟨e,he,hb,hu⟩:=key
      refine ⟨?_,fun hr=>?_⟩
      · cases hl:listed.getD t false with
        |false=>rfl
        |true=>rw[inv t o ho hl e he hb] at hu;cases hu
      · obtain ⟨_,o',ho',hall⟩:=mem_ready.1 hr
        have:o'=o:=Option.some.inj (ho'.symm.trans ho)
        subst this
        rw[hall e he hb] at hu;cases hu
    · cases h
theorem q5Y {i:Nat} {oi:Oper} {v:Value} {S':World→Prop} (hi:ops[i]?=some oi) (hsel: ∀(j:Nat) (o:Oper) cs b,ops[j]?=some o→o.op≠ .select cs b)
    (hlt:i<n) (hin:(∀w,S' w)∨((∀w,S w→S' w)∧ ∃f,∀t,n≤t→t<ops.size→q9n md ops i f t=true))
    (hQ: ∀c a w,Q (.panic c) (a.put oi.dst v) w→Q (.panic c) a w):
    ∀ (fuel:Nat) (listed:Array Bool) (a:Act) (w:World),Closed md ops listed→
      (∀j oj,ops[j]?=some oj→j≠i→listed.getD j true=false→(∀e∈oj.after,Region.binds md e=true→e.on≠i)→oi.apart ops oj=true)→
      i∈Region.ready md ops listed→YieldsIf P ops S' oi v a→S' w→(NotBegun ops n listed→S w)→
      q3j P md ops Q S n fuel (listed.setIfInBounds i true) (a.put oi.dst v) w→q3j P md ops Q S n (fuel+1) listed a w:=by
  intro fuel
  induction fuel with
  | zero=>
    intro listed a w _ _ hr hy hS hS2 H
    refine ⟨fun h=>(by rw[h] at hr;cases hr),fun j hj=>?_⟩
    by_cases hji:j=i
    · subst hji;exact hy.wpOp hi hS ⟨fun h=>hS2 h.back,H⟩
    · have:=ready_mono hj hji
      rw[H.1] at this
      cases this
  | succ fuel ih=>
    intro listed a w inv hfree hr hy hS hS2 H
    have hun:=(mem_ready.1 hr).1
    refine ⟨fun h=>(by rw[h] at hr;cases hr),fun j hj=>?_⟩
    by_cases hji:j=i
    · subst hji;exact hy.wpOp hi hS ⟨fun h=>hS2 h.back,H⟩
    · have h1:=H.2 j (ready_mono hj hji)
      obtain ⟨hjun,oj,hoj,hall⟩:=mem_ready.1 hj
      have hnot: ∀e∈oj.after,Region.binds md e=true→e.on≠i:=fun e he hb heq=>by
        have h1:=hall e he hb
        rw[heq,getD_both hun] at h1
        cases h1
      have h2:=wpOp_putIf hoj (hfree j oj hoj hji hjun hnot) (fun cs b=>hsel i oi cs b hi) (fun cs b=>hsel j oj cs b hoj) hQ hy h1
      have hfree': ∀k ok,ops[k]?=some ok→k≠i→(listed.setIfInBounds j true).getD k true=false→
          (∀e∈ok.after,Region.binds md e=true→e.on≠i)→oi.apart ops ok=true:=fun k ok hk hki hun hno=>by
        refine hfree k ok hk hki ?_ hno
        by_cases hjk:j=k
        · subst hjk;exact hjun
        · rw[getD_set_ne true hjk] at hun;exact hun
      have hset: ∀w',(NotBegun ops n ((listed.setIfInBounds i true).setIfInBounds j true)→S w')→NotBegun ops n (listed.setIfInBounds j true)→i<n→S w':=fun w' h hb hin=>h fun t ht hl=>by
        rw[Array.setIfInBounds_comm _ _ (Ne.symm hji),getD_set_ne false (by omega)]
        exact hb t ht hl
      rcases hin with hin|⟨hin,f,hin3⟩
      · refine wpOp_mono (fun a' w' h3=>?_) h2
        have hS3:(i<n)→NotBegun ops n (listed.setIfInBounds j true)→S w':=fun hlt hb=>hset w' h3.2.1 hb hlt
        refine ⟨hS3 hlt,ih (listed.setIfInBounds j true) a' w' (inv.set hj) hfree' (ready_mono hr (Ne.symm hji)) h3.1 (hin w') (hS3 hlt) ?_⟩
        rw[Array.setIfInBounds_comm _ _ hji]
        exact h3.2.2
      · have hun2: ∀t,n≤t→t<ops.size→listed.getD t false=false∧t∉Region.ready md ops listed:=fun t ht hl=>q7W inv (getD_both hun) f t (hin3 t ht hl)
        have hnb:NotBegun ops n (listed.setIfInBounds j true):=fun t ht hl=>by
          have:=hun2 t ht hl
          rw[getD_set_ne false (fun e:j=t=>this.2 (by rw[←e];exact hj))]
          exact this.1
        refine wpOp_mono (fun a' w' h3=>⟨fun hb=>hset w' h3.2.1 hb hlt,ih (listed.setIfInBounds j true) a' w' (inv.set hj) hfree' (ready_mono hr (Ne.symm hji)) h3.1 (hin w' (hset w' h3.2.1 hnb hlt)) (fun hb=>hset w' h3.2.1 hb hlt) ?_⟩) h2
        rw[Array.setIfInBounds_comm _ _ hji]
        exact h3.2.2
def q8B (md:Region.Mode) (ops:Array Oper) (listed:Array Bool):Bool:=
  (List.range ops.size).all fun j=>!listed.getD j false||(match ops[j]? with|some oj=>oj.after.all fun e=>!Region.binds md e||listed.getD e.on false|none=>true)
theorem q6T {listed:Array Bool} (h:q8B md ops listed=true):Closed md ops listed:=by
  simp only[q8B,List.all_eq_true,List.mem_range,Bool.or_eq_true,Bool.not_eq_true'] at h
  intro j oj hj hl e he hb
  rcases h j (Array.getElem?_eq_some_iff.1 hj).1 with h|h
  · rw[h] at hl;cases hl
  · simp only[hj] at h
    have h4:=Array.all_eq_true_iff_forall_mem.1 h e he
    simp only[Bool.or_eq_true,Bool.not_eq_true'] at h4
    rcases h4 with h4|h4
    · rw[h4] at hb;cases hb
    · exact h4
theorem z0A {l:List Oper} {i:Nat} {oi:Oper} {v:Value} {fuel:Nat} {listed:Array Bool} {a:Act} {w:World} (hi:l[i]?=some oi)
    (hB:(Region.noSelect l.toArray&&decide (i<n)&&q8B md l.toArray listed&&Region.free md l.toArray listed i&&(Region.ready md l.toArray listed).contains i&&(List.range l.length).all fun t=>decide (t<n)||q9n md l.toArray i 4 t)=true)
    (hQ: ∀c a w,Q (.panic c) (a.put oi.dst v) w→Q (.panic c) a w) (hy:YieldsIf P l.toArray S oi v a) (hS:S w)
    (h:S w→q3j P md l.toArray Q S n fuel (listed.setIfInBounds i true) (a.put oi.dst v) w):q3j P md l.toArray Q S n (fuel+1) listed a w:=by
  simp only[Bool.and_eq_true,decide_eq_true_eq,List.all_eq_true,List.mem_range,Bool.or_eq_true] at hB
  obtain ⟨⟨⟨⟨⟨h1,h2⟩,h3⟩,h4⟩,h5⟩,h6⟩:=hB
  have hi':l.toArray[i]?=some oi:=by simpa using hi
  exact q5Y hi' (Region.noSelect_spec h1) h2 (.inr ⟨fun _ h=>h,4,fun t ht hl=>(h6 t (by simpa using hl)).resolve_left (by omega)⟩) hQ fuel listed a w (q6T h3) (Region.free_spec hi' h4) (by simpa using h5) hy hS (fun _=>hS) (h hS)
theorem q0k {l:List Oper} {i:Nat} {oi:Oper} {v:Value} {fuel:Nat} {listed:Array Bool} {a:Act} {w:World} (hi:l[i]?=some oi)
    (hB:(Region.noSelect l.toArray&&decide (i<n)&&q8B md l.toArray listed&&Region.free md l.toArray listed i&&(Region.ready md l.toArray listed).contains i)=true)
    (hQ: ∀c a w,Q (.panic c) (a.put oi.dst v) w→Q (.panic c) a w) (hy:YieldsIf P l.toArray (fun _=>True) oi v a) (hS:S w)
    (h:S w→q3j P md l.toArray Q S n fuel (listed.setIfInBounds i true) (a.put oi.dst v) w):q3j P md l.toArray Q S n (fuel+1) listed a w:=by
  simp only[Bool.and_eq_true,decide_eq_true_eq] at hB
  obtain ⟨⟨⟨⟨h1,h2⟩,h3⟩,h4⟩,h5⟩:=hB
  have hi':l.toArray[i]?=some oi:=by simpa using hi
  exact q5Y hi' (Region.noSelect_spec h1) h2 (.inl fun _=>trivial) hQ fuel listed a w (q6T h3) (Region.free_spec hi' h4) (by simpa using h5) hy trivial (fun _=>hS) (h hS)
theorem q6k : ∀(l:List Oper) (k:Nat) (listed:Array Bool) (a:Act) (w:World),n≤k→(∀j,l[j]?=ops[k+j]?)→
    Region.seqB md ops l.length k listed=true→wpList P ops Q l a w→q3j P md ops Q S n l.length listed a w
  |[],_,_,_,_,_,_,hB,h=>⟨by simpa [Region.seqB] using hB,h⟩
  | o ::l,k,listed,a,w,hk,hl,hB,h=>by
    have h0:ops[k]?=some o:=by simpa using (hl 0).symm
    simp only[List.length_cons,Region.seqB,Bool.and_eq_true,decide_eq_true_eq] at hB
    refine ⟨fun h1=>(by rw[hB.1] at h1;cases h1),fun i hi=>?_⟩
    have hi0:=hi
    rw[hB.1] at hi
    have hik:i=k:=by simpa using hi
    subst hik
    have hw:wpOp P ops Q i (wpList P ops Q l) a w:=by unfold wpOp;simp only[h0];exact h
    have hlt:i<ops.size:=(Array.getElem?_eq_some_iff.1 h0).1
    have hls:i<listed.size:=by
      have hu:=(mem_ready.1 hi0).1
      rcases Nat.lt_or_ge i listed.size with h|h
      · exact h
      · simp[Array.getElem?_eq_none h] at hu
    exact wpOp_mono (fun a' w' h'=>⟨fun hb=>(by have:=hb i hk hlt;simp[hls] at this),q6k l (i+1) _ a' w' (by omega) (fun j=>by have:=hl (j+1);simpa [Nat.add_assoc,Nat.add_comm 1 j] using this) hB.2 h'⟩) hw
theorem q7L {l:List Oper} {fuel:Nat} {listed:Array Bool} {a:Act} {w:World} (hB:(Region.seqB md l.toArray (l.drop n).length n listed&&decide (fuel=(l.drop n).length))=true)
    (h:wpList P l.toArray Q (l.drop n) a w):q3j P md l.toArray Q S n fuel listed a w:=by
  simp only[Bool.and_eq_true,decide_eq_true_eq] at hB
  obtain ⟨h1,rfl⟩:=hB
  exact q6k (l.drop n) n listed a w (Nat.le_refl _) (fun j=>by simp[List.getElem?_drop]) h1 h
theorem q6Z {id:Nat} {a:Act} {w:World} (S:World→Prop) (n:Nat) (hm:P.follows .mixedOrders=true) (hS:S w.drew)
    (h:S w.drew→q3j P .any ops Q S n ops.size (Array.replicate ops.size false) a w.drew):(Code.region id ops true).wp P Q a w:=
  wp_region_any hm (q7R _ _ _ _ (h hS))
end
end Go.Proofs.YtmajfklnagdlpaaGreatDoor
namespace Go.Proofs.YtmajfklnagdlpaaGreatDoor
open Go.RowKit
set_option maxRecDepth 100000
set_option linter.unusedVariables false
set_option maxHeartbeats 3200000
def z9f (r:Option (Ev×List UInt8)):Value:=match r with
  |some (e,r)=> .tuple #[evV e,.string ⟨r.toArray⟩,.bool true]
  |none=> .tuple #[evV ev0,.string ⟨#[]⟩,.bool false]
theorem q5w (W:World) (a:Addr) (b:Nat) (m:Go.Mode):(store a (.float .f64 b) m).run Tryz.prog W=stored Tryz.prog W a (.float .f64 b) m:=run_store _ _ _ _ _ rfl
theorem q1p {w w1:World} (h:Ext w w1) (a b c:Value):Ext w (((w1.setCell ⟨w.heap.size,0,none⟩ a).setCell ⟨w.heap.size,1,none⟩ b).setCell ⟨w.heap.size,2,none⟩ c):=
  ((h.setCell (p:=⟨w.heap.size,0,none⟩) (Nat.le_refl _) a).setCell (p:=⟨w.heap.size,1,none⟩) (Nat.le_refl _) b).setCell (p:=⟨w.heap.size,2,none⟩) (Nat.le_refl _) c
theorem z7D (s:List UInt8) (w:World) (hl:s.length≤4611686018427387903):
    Calls Tryz.prog 169 #[.string ⟨s.toArray⟩] w fun e w'=>e= .returned (z9f (rdE s))∧Ext w w':=by
  have HR1:=Lib.hid (fun W=>z0Q s W hl)
  have HR2:=Lib.hid (fun W=>z0Q (rdR s) W (by have:=q6s s;omega))
  have hl1:=z1s s;have hl2:=z1s (rdR s);have hl3:=q6s s;have hl4:=q6s (rdR s)
  have HCk:=Lib.hid (fun b W=>q8h (rdT s) (rdT (rdR s)) .f64 b W (by omega) (by omega))
  have HX:=Lib.hid (q0C w (.cells #[.string ⟨#[]⟩,.string ⟨#[]⟩,.float .f64 0] 60))
  have HB0:=Lib.hid (Blk.new w 60 #[.string ⟨#[]⟩,.string ⟨#[]⟩,.float .f64 0])
  have HS0:Hid (∀(W:World) (a b c:Value),Blk W w.heap.size 60 #[a,b,c]→ ∀a' b',W.cell? ⟨w.heap.size,0,none⟩=some a∧W.cell? ⟨w.heap.size,1,none⟩=some b∧W.cell? ⟨w.heap.size,2,none⟩=some c∧
      W.frozen? ⟨w.heap.size,0,none⟩=false∧W.frozen? ⟨w.heap.size,1,none⟩=false∧W.frozen? ⟨w.heap.size,2,none⟩=false∧((W.setCell ⟨w.heap.size,0,none⟩ a').setCell ⟨w.heap.size,1,none⟩ b').frozen? ⟨w.heap.size,2,none⟩=false∧
      ((W.setCell ⟨w.heap.size,0,none⟩ a').setCell ⟨w.heap.size,1,none⟩ b').cell? ⟨w.heap.size,2,none⟩=some c):=Lib.hid fun W a b c h a' b'=>by
    have h2:=(h.set 0 a').set 1 b'
    exact ⟨h.cell 0,h.cell 1,h.cell 2,h.free 0,h.free 1,h.free 2,h2.free 2,h2.cell 2⟩
  have hsf:=q5w
  by_cases h1:q7D s=true
  case neg=>
    rw[Bool.not_eq_true] at h1
    have HE:Hid (rdE s=none):=Lib.hid (by unfold rdE;rw[h1];simp)
    rw[h1] at HR1
    go_enter Tryz.func169,Tryz.ntmps169
    go_wp2_with fail
    refine (HR1.out _).mono ?_
    rintro e w1 ⟨rfl,hx⟩
    have HB1:=Lib.hid (HB0.out.ext hx)
    have HX1:=Lib.hid (HX.out.trans hx)
    clear hx
    obtain ⟨c0,c1,c2,f0,f1,f2,g2,d2⟩:=HS0.out w1 _ _ _ HB1.out (.string ⟨#[]⟩) (.string ⟨#[]⟩)
    go_wp2_with fail
    ((try simp only[Exit.inBlock,Exit.then]);refine bodyPost_ret (v:= .tuple #[.agg #[.string ⟨#[]⟩,.string ⟨#[]⟩,.float .f64 0],.string ⟨#[]⟩,.bool false]) (by rw[q1C rfl];go_simp) rfl ?_)
    exact ⟨by rw[HE.out];rfl,q1p HX1.out _ _ _⟩
  rw[h1] at HR1
  by_cases h2:q7D (rdR s)=true
  case neg=>
    rw[Bool.not_eq_true] at h2
    have HE:Hid (rdE s=none):=Lib.hid (by unfold rdE;rw[h2];simp)
    rw[h2] at HR2
    go_enter Tryz.func169,Tryz.ntmps169
    go_wp2_with fail
    refine (HR1.out _).mono ?_
    rintro e w1 ⟨rfl,hx⟩
    have HB1:=Lib.hid (HB0.out.ext hx)
    have HX1:=Lib.hid (HX.out.trans hx)
    clear hx
    go_wp2_with fail
    refine (HR2.out _).mono ?_
    rintro e w2 ⟨rfl,hx⟩
    have HB2:=Lib.hid (HB1.out.ext hx)
    have HX2:=Lib.hid (HX1.out.trans hx)
    clear hx
    obtain ⟨c0,c1,c2,f0,f1,f2,g2,d2⟩:=HS0.out w2 _ _ _ HB2.out (.string ⟨#[]⟩) (.string ⟨#[]⟩)
    go_wp2_with fail
    ((try simp only[Exit.inBlock,Exit.then]);refine bodyPost_ret (v:= .tuple #[.agg #[.string ⟨#[]⟩,.string ⟨#[]⟩,.float .f64 0],.string ⟨#[]⟩,.bool false]) (by rw[q1C rfl];go_simp) rfl ?_)
    exact ⟨by rw[HE.out];rfl,q1p HX2.out _ _ _⟩
  rw[h2] at HR2
  obtain ⟨R,hR⟩: ∃R,rdR (rdR s)=R:=⟨_,rfl⟩
  rw[hR] at HR2 hl4
  obtain ⟨T1,hT1⟩: ∃T,rdT s=T:=⟨_,rfl⟩
  obtain ⟨T2,hT2⟩: ∃T,rdT (rdR s)=T:=⟨_,rfl⟩
  by_cases h3:R.length<8
  · have HE:Hid (rdE s=none):=Lib.hid (by unfold rdE;rw[if_neg (by rw[hR];omega)])
    have hd:decide ((R.length:Int)<8)=true:=decide_eq_true (by omega)
    go_enter Tryz.func169,Tryz.ntmps169
    go_wp2_with fail
    refine (HR1.out _).mono ?_
    rintro e w1 ⟨rfl,hx⟩
    have HB1:=Lib.hid (HB0.out.ext hx)
    have HX1:=Lib.hid (HX.out.trans hx)
    clear hx
    go_wp2_with fail
    refine (HR2.out _).mono ?_
    rintro e w2 ⟨rfl,hx⟩
    have HB2:=Lib.hid (HB1.out.ext hx)
    have HX2:=Lib.hid (HX1.out.trans hx)
    clear hx
    obtain ⟨c0,c1,c2,f0,f1,f2,g2,d2⟩:=HS0.out w2 _ _ _ HB2.out (.string ⟨#[]⟩) (.string ⟨#[]⟩)
    go_wp2_with fail
    ((try simp only[Exit.inBlock,Exit.then]);refine bodyPost_ret (v:= .tuple #[.agg #[.string ⟨#[]⟩,.string ⟨#[]⟩,.float .f64 0],.string ⟨#[]⟩,.bool false]) (by rw[q1C rfl];go_simp) rfl ?_)
    exact ⟨by rw[HE.out];rfl,q1p HX2.out _ _ _⟩
  have hd:decide ((R.length:Int)<8)=false:=decide_eq_false (by omega)
  have s1:=q3v R 8 8 rfl (by omega)
  have s2:=q2b R 8 8 rfl (by omega)
  have l8:(R.take 8).length=8:=by rw[List.length_take];omega
  have HG:=Lib.hid (fun W=>q8x (R.take 8) W (by omega))
  rw[show (R.take 8).take 8=R.take 8 from List.take_of_length_le (by omega)] at HG
  have hub:=q1q (R.take 8)
  rw[l8] at hub
  obtain ⟨b,hb⟩: ∃b,q0x (R.take 8)=b:=⟨_,rfl⟩
  rw[hb] at HG
  have hfb:=q9Y b
  rw[hT1,hT2] at HCk
  rw[hT1] at HR1
  rw[hT2] at HR2
  by_cases h4:q0l T1 T2=0
  case neg=>
    have HE:Hid (rdE s=none):=Lib.hid (by unfold rdE;rw[if_neg (by rw[hT1,hT2];exact fun h=>h4 h.2.2.2)])
    have hcn:(q0l T1 T2 !=0)=true:=by simpa using h4
    obtain ⟨E,hE⟩: ∃E,q0l T1 T2=E:=⟨_,rfl⟩
    rw[hE] at HCk hcn
    clear hE hb hub hT1 hT2 hR h1 h2 h3 h4
    go_enter Tryz.func169,Tryz.ntmps169
    go_wp2_with fail
    refine (HR1.out _).mono ?_
    rintro e w1 ⟨rfl,hx⟩
    have HB1:=Lib.hid (HB0.out.ext hx)
    have HX1:=Lib.hid (HX.out.trans hx)
    clear hx
    go_wp2_with fail
    refine (HR2.out _).mono ?_
    rintro e w2 ⟨rfl,hx⟩
    have HB2:=Lib.hid (HB1.out.ext hx)
    have HX2:=Lib.hid (HX1.out.trans hx)
    clear hx
    go_wp2_with fail
    refine (HG.out _).mono ?_
    rintro e w3 ⟨rfl,hx⟩
    have HB3:=Lib.hid (HB2.out.ext hx)
    have HX3:=Lib.hid (HX2.out.trans hx)
    clear hx
    obtain ⟨c0,c1,c2,f0,f1,f2,g2,d2⟩:=HS0.out w3 _ _ _ HB3.out (.string ⟨T1.toArray⟩) (.string ⟨T2.toArray⟩)
    go_wp2_with fail
    refine (HCk.out b _).mono ?_
    rintro e w4 ⟨rfl,hx⟩
    have HB4:=Lib.hid ((((HB3.out.set 0 (.string ⟨T1.toArray⟩)).set 1 (.string ⟨T2.toArray⟩)).set 2 (.float .f64 b)).ext hx)
    have HX4:=Lib.hid ((q1p HX3.out (.string ⟨T1.toArray⟩) (.string ⟨T2.toArray⟩) (.float .f64 b)).trans hx)
    clear hx c0 c1 c2 f0 f1 f2 g2 d2
    obtain ⟨c0,c1,c2,f0,f1,f2,g2,d2⟩:=HS0.out w4 _ _ _ HB4.out (.string ⟨#[]⟩) (.string ⟨#[]⟩)
    go_wp2_with fail
    ((try simp only[Exit.inBlock,Exit.then]);refine bodyPost_ret (v:= .tuple #[.agg #[.string ⟨#[]⟩,.string ⟨#[]⟩,.float .f64 0],.string ⟨#[]⟩,.bool false]) (by rw[q1C rfl];go_simp) rfl ?_)
    exact ⟨by rw[HE.out];rfl,q1p HX4.out _ _ _⟩
  have HE:Hid (rdE s=some (⟨T1,T2,b⟩,R.drop 8)):=Lib.hid (by unfold rdE;rw[hT1,hT2,hR,if_pos ⟨h1,h2,by omega,h4⟩,hb])
  rw[h4] at HCk
  clear hb hub hT1 hT2 hR h1 h2 h3 h4
  go_enter Tryz.func169,Tryz.ntmps169
  go_wp2_with fail
  refine (HR1.out _).mono ?_
  rintro e w1 ⟨rfl,hx⟩
  have HB1:=Lib.hid (HB0.out.ext hx)
  have HX1:=Lib.hid (HX.out.trans hx)
  clear hx
  go_wp2_with fail
  refine (HR2.out _).mono ?_
  rintro e w2 ⟨rfl,hx⟩
  have HB2:=Lib.hid (HB1.out.ext hx)
  have HX2:=Lib.hid (HX1.out.trans hx)
  clear hx
  go_wp2_with fail
  refine (HG.out _).mono ?_
  rintro e w3 ⟨rfl,hx⟩
  have HB3:=Lib.hid (HB2.out.ext hx)
  have HX3:=Lib.hid (HX2.out.trans hx)
  clear hx
  obtain ⟨c0,c1,c2,f0,f1,f2,g2,d2⟩:=HS0.out w3 _ _ _ HB3.out (.string ⟨T1.toArray⟩) (.string ⟨T2.toArray⟩)
  go_wp2_with fail
  refine (HCk.out b _).mono ?_
  rintro e w4 ⟨rfl,hx⟩
  have HB4':=Lib.hid ((((HB3.out.set 0 (.string ⟨T1.toArray⟩)).set 1 (.string ⟨T2.toArray⟩)).set 2 (.float .f64 b)).ext hx)
  have HB4:=Lib.hid (HB4'.out.ext (Ext.refl w4).drew)
  have HX4:=Lib.hid (((q1p HX3.out (.string ⟨T1.toArray⟩) (.string ⟨T2.toArray⟩) (.float .f64 b)).trans hx).drew)
  clear hx c0 c1 c2 f0 f1 f2 g2 d2
  obtain ⟨c0,c1,c2,f0,f1,f2,g2,d2⟩:=HS0.out w4.drew _ _ _ HB4.out (.string ⟨T1.toArray⟩) (.string ⟨T2.toArray⟩)
  obtain ⟨c0',c1',c2',f0',f1',f2',g2',d2'⟩:=HS0.out w4 _ _ _ HB4'.out (.string ⟨T1.toArray⟩) (.string ⟨T2.toArray⟩)
  go_wp2_with fail
  refine q6Z (fun W=>W.cell? ⟨w.heap.size,0,none⟩=some (.string ⟨T1.toArray⟩)∧W.cell? ⟨w.heap.size,1,none⟩=some (.string ⟨T2.toArray⟩)∧W.cell? ⟨w.heap.size,2,none⟩=some (.float .f64 b)) 3 (by kernel_rfl) ⟨c0,c1,c2⟩ (fun hHeld=>?_)
  refine z0A (i:=0) (v:=?_) rfl (by kernel_rfl) (fun _ _ _ h=>h) (Or.inl ⟨by rfl,?_⟩) hHeld (fun hHeld=>?_)
  rotate_left
  · (intro w hSw;(try dsimp only at hSw);go_simp;try with_reducible rfl)
  try simp only[Act.put,List.setIfInBounds_toArray,List.set_cons_zero,List.set_cons_succ]
  refine q0k (i:=1) (v:=?_) rfl (by kernel_rfl) (fun _ _ _ h=>h) (Or.inl ⟨by rfl,?_⟩) hHeld (fun hHeld=>?_)
  rotate_left
  · (intro w hSw;(try dsimp only at hSw);go_simp;try with_reducible rfl)
  try simp only[Act.put,List.setIfInBounds_toArray,List.set_cons_zero,List.set_cons_succ]
  refine q0k (i:=2) (v:=?_) rfl (by kernel_rfl) (fun _ _ _ h=>h) (Or.inl ⟨by rfl,?_⟩) hHeld (fun hHeld=>?_)
  rotate_left
  · (intro w hSw;(try dsimp only at hSw);go_simp;try with_reducible rfl)
  try simp only[Act.put,List.setIfInBounds_toArray,List.set_cons_zero,List.set_cons_succ]
  refine q7L (by kernel_rfl) ?_
  try simp only[List.drop_succ_cons,List.drop_zero]
  clear hHeld
  go_wp2_with fail
  ((try simp only[Exit.inBlock,Exit.then]);refine bodyPost_ret (v:= .tuple #[.agg #[.string ⟨T1.toArray⟩,.string ⟨T2.toArray⟩,.float .f64 b],.string ⟨(R.drop 8).toArray⟩,.bool true]) (by rw[q1C rfl];go_simp) rfl ?_)
  exact ⟨by rw[HE.out];rfl,q1p HX4.out _ _ _⟩
end Go.Proofs.YtmajfklnagdlpaaGreatDoor
namespace Go.Proofs.YtmajfklnagdlpaaGreatDoor
open Go.RowKit
set_option maxRecDepth 100000
set_option linter.unusedVariables false
set_option maxHeartbeats 3200000
theorem q9E (e:Ev) (L:List Ev):q9P (e::L)=evc e++q9P L:=rfl
theorem q8S : ∀(L:List Ev) (i j:Nat),i<L.length→j<3→(q9P L)[i*3+j]?=(evc (L.getD i ev0))[j]?
  |[],i,j,h,_=>by simp at h
  | k::L,0,j,_,hj=>by
    rw[q9E,List.getElem?_append_left (by simp[evc];omega)]
    simp
  | k::L,i+1,j,h,hj=>by
    rw[q9E,List.getElem?_append_right (by simp[evc];omega),show (i+1)*3+j-(evc k).length=i*3+j from by simp[evc];omega,q8S L i j (by simpa using h) hj]
    simp
structure Evs (w:World) (ao:Option Addr) (n cap:Nat) (L:List Ev):Prop where
  len:L.length=n
  fits:n≤cap
  bound:cap≤9223372036854775807
  nil:ao=none→cap=0
  rd:Rd w ao (q9P L)
theorem Evs.ext {w w':World} {ao:Option Addr} {n cap:Nat} {L:List Ev} (h:Evs w ao n cap L) (k:Ext w w'):Evs w' ao n cap L:=⟨h.len,h.fits,h.bound,h.nil,h.rd.ext k⟩
theorem Evs.at {w:World} {ao:Option Addr} {n cap:Nat} {L:List Ev} (h:Evs w ao n cap L) {i:Nat} (hi:i<n):
    ∃b off,ao=some ⟨b,off,none⟩∧w.cell? ⟨b,off+i*3,none⟩=some (.string ⟨(L.getD i ev0).ty.toArray⟩)∧w.cell? ⟨b,off+i*3+1,none⟩=some (.string ⟨(L.getD i ev0).da.toArray⟩)∧w.cell? ⟨b,off+i*3+2,none⟩=some (.float .f64 (L.getD i ev0).we):=by
  have hl:=h.len
  have k0:=q8S L i 0 (by omega) (by decide)
  have k1:=q8S L i 1 (by omega) (by decide)
  have k2:=q8S L i 2 (by omega) (by decide)
  obtain ⟨b,off,rfl,h0⟩:=h.rd _ _ k0
  obtain ⟨_,_,e1,h1⟩:=h.rd _ _ k1
  cases e1
  obtain ⟨_,_,e2,h2⟩:=h.rd _ _ k2
  cases e2
  exact ⟨b,off,rfl,h0,h1,h2⟩
theorem Evs.of_own {w:World} {B:Nat} {e:TypeId} {v:Value} {L:List Ev} (h:Own w B e 3 v L.length (q9P L)): ∃ao cap,v= .slice ao L.length cap∧Evs w ao L.length cap L:=by
  obtain ⟨ao,cap,rfl,h1,h2,h3,h4⟩:=h.rd
  exact ⟨ao,cap,rfl,rfl,h1,h2,h3,h4⟩
theorem q9l : ∀(L:List Ev) (k:Nat),k<L.length→q7B (L.take k)=0→q7B L=if q0l (L.getD k ev0).ty (L.getD k ev0).da=0 then q7B (L.drop (k+1)) else q0l (L.getD k ev0).ty (L.getD k ev0).da
  |[],k,h,_=>by simp at h
  |e::L,0,_,_=>by simp[q7B]
  | e ::L,k+1,h,h0=>by
    rw[List.take_succ_cons,q7B] at h0
    split at h0
    · rename_i h1
      rw[q7B,if_pos h1,q9l L k (by simpa using h) h0]
      simp
    · rename_i h1;exact absurd h0 h1
theorem q9Z : ∀(L:List Ev) (e:Ev),q7B L=0→q7B (L++[e])=q0l e.ty e.da
  | [],e,_=>by
    rw[List.nil_append,q7B,q7B]
    split
    · rename_i h;exact h.symm
    · rfl
  | x::L,e,h=>by
    rw[q7B] at h
    split at h
    · rename_i h1;rw[List.cons_append,q7B,if_pos h1,q9Z L e h]
    · rename_i h1;exact absurd h h1
def q8H (L:List Ev):Prop:= ∀e∈L,e.ty.length≤4611686018427387903∧e.da.length≤4611686018427387903
theorem z1P {ao:Option Addr} {n cap:Nat} {L:List Ev} (st:List UInt8) (fi:Int) (w:World) (hx:Evs w ao n cap L) (hst:st.length≤4611686018427387903) (hL:q8H L):
    Calls Tryz.prog 80 #[.agg #[.string ⟨st.toArray⟩,.int .i64 fi,.slice ao n cap]] w fun e w'=>e= .returned (.int .i64 (q0t st fi L))∧Ext w w':=by
  have b1:=hx.fits;have b2:=hx.bound
  have hlen:=hx.len
  have HX:=Lib.hid (q0C w (.cells #[.string ⟨st.toArray⟩,.int .i64 fi,.slice ao n cap] 58))
  have hbk:=Blk.new w 58 #[.string ⟨st.toArray⟩,.int .i64 fi,.slice ao n cap]
  have HE:=Lib.hid hx;have HL:=Lib.hid hL
  clear hx hL
  by_cases h1:st=[]
  · subst h1
    have HN:Hid (q0t [] fi L=2):=Lib.hid (by unfold q0t;rw[if_pos (.inl rfl)])
    clear hbk
    go_enter Tryz.func80,Tryz.ntmps80
    go_wp2_with fail
    go_step3
    go_wp2_with fail
    rw[Exit.noGoto_ret]
    go_ret
    exact ⟨by rw[HN.out];rfl,HX.out⟩
  have h1b:(st==[])=false:=beq_eq_false_iff_ne.2 h1
  by_cases h2:n=0
  · subst h2
    have HN:Hid (q0t st fi L=2):=Lib.hid (by unfold q0t;rw[if_pos (.inr (List.eq_nil_of_length_eq_zero hlen))])
    clear hbk h1 hlen
    go_enter Tryz.func80,Tryz.ntmps80
    go_wp2_with fail
    go_step3
    go_wp2_with fail
    rw[Exit.noGoto_ret]
    go_ret
    exact ⟨by rw[HN.out];rfl,HX.out⟩
  have h2b:((n:Int)==0)=false:=by simpa using h2
  have hLn:L≠[]:=fun e=>h2 (by rw[←hlen,e];rfl)
  have hno:¬(st=[]∨L=[]):=fun h=>h.elim h1 hLn
  by_cases h3:32<st.length
  · have HN:Hid (q0t st fi L=3):=Lib.hid (by unfold q0t;rw[if_neg hno,if_pos (.inl h3)])
    have hd:decide ((32:Int)<(st.length:Int))=true:=decide_eq_true (by omega)
    clear hbk h1 h2 hLn hno hlen
    go_enter Tryz.func80,Tryz.ntmps80
    go_wp2_with fail
    go_step3
    go_wp2_with fail
    rw[Exit.noGoto_ret]
    go_ret
    exact ⟨by rw[HN.out];rfl,HX.out⟩
  by_cases h4:8<n
  · have HN:Hid (q0t st fi L=3):=Lib.hid (by unfold q0t;rw[if_neg hno,if_pos (.inr (by omega))])
    have hd:decide ((8:Int)<(n:Int))=true:=decide_eq_true (by omega)
    clear hbk h1 h2 hLn hno hlen
    go_enter Tryz.func80,Tryz.ntmps80
    go_wp2_with fail
    go_step3
    go_wp2_with fail
    rw[Exit.noGoto_ret]
    go_ret
    exact ⟨by rw[HN.out];rfl,HX.out⟩
  have hno2:¬(32<st.length∨8<L.length):=by omega
  have hd4:decide ((8:Int)<(n:Int))=false:=decide_eq_false (by omega)
  have q0:IntKind.i64.wrap (1073741824-(n:Int))=1073741824-(n:Int):=by rw[IntKind.wrap_i64];omega
  by_cases h5:fi<0∨1073741824-(n:Int)<fi
  · have HN:Hid (q0t st fi L=2):=Lib.hid (by unfold q0t;rw[if_neg hno,if_neg hno2,if_pos (by rw[hlen];exact h5)])
    have hd5:decide (fi<0)=true∨(decide (fi<0)=false∧decide (1073741824-(n:Int)<fi)=true):=by
      by_cases h:fi<0
      · exact .inl (decide_eq_true h)
      · exact .inr ⟨decide_eq_false h,decide_eq_true (by omega)⟩
    clear hbk h1 h2 hLn hno hno2 hlen h5
    rcases hd5 with hd5|⟨hd5,hd6⟩
    all_goals
      go_enter Tryz.func80,Tryz.ntmps80
      go_wp2_with fail
      go_step3
      go_wp2_with fail
      rw[Exit.noGoto_ret]
      go_ret
      exact ⟨by rw[HN.out];rfl,HX.out⟩
  have hd5:decide (fi<0)=false:=decide_eq_false (by omega)
  have hd6:decide (1073741824-(n:Int)<fi)=false:=decide_eq_false (by omega)
  have HN:Hid (q0t st fi L=q7B L):=Lib.hid (by unfold q0t;rw[if_neg hno,if_neg hno2,if_neg (by rw[hlen];exact h5)])
  have HLe:=Lib.hid hlen
  clear hbk h1 h2 hLn hno hno2 hlen h5
  go_enter Tryz.func80,Tryz.ntmps80
  go_wp2_with fail
  go_step3
  go_wp2_with fail
  go_step3
  go_wp2_with fail
  go_loopw [2,36] (fun e i W=> ∃k:Nat,k≤n∧i= .int .i64 (k:Int)∧e= .int .i64 0∧q7B (L.take k)=0∧Ext w W) (fun _ i _=>n-(intOf i).toNat)
  case atStart=>exact ⟨0,Nat.zero_le _,rfl,rfl,rfl,HX.out⟩
  case round=>
    obtain ⟨k,hk,rfl,rfl,h0,hb⟩:=hrel
    have HBk:=Lib.hid hb
    by_cases hlt:k<n
    · have hd7:decide ((k:Int)<(n:Int))=true:=decide_eq_true (by omega)
      obtain ⟨b,off,rfl,c0,c1,c2⟩:=(HE.out.ext hb).at hlt
      have hkL:k<L.length:=by rw[HLe.out];exact hlt
      have hT:L.take (k+1)=L.take k++[L.getD k ev0]:=by
        rw[List.take_succ_eq_append_getElem hkL]
        simp[List.getD,List.getElem?_eq_getElem hkL]
      have hS:=q9Z (L.take k) (L.getD k ev0) h0
      rw[←hT] at hS
      have HS:=Lib.hid hS
      have HSk:=Lib.hid (q9l L k hkL h0)
      have hmem:L.getD k ev0∈L:=by rw[List.getD_eq_getElem?_getD,List.getElem?_eq_getElem hkL];exact List.getElem_mem hkL
      obtain ⟨m1,m2⟩:=HL.out _ hmem
      have HX1:=Lib.hid (q0C wr (.cells #[.string ⟨(L.getD k ev0).ty.toArray⟩,.string ⟨(L.getD k ev0).da.toArray⟩,.float .f64 (L.getD k ev0).we] 60))
      have q1:IntKind.i64.wrap ((k:Int)+1)=(k:Int)+1:=by rw[IntKind.wrap_i64];omega
      generalize L.getD k ev0=y at*
      obtain ⟨y1,y2,y3⟩:=y
      have HCk:=Lib.hid (fun W=>q8h y1 y2 .f64 y3 W m1 m2)
      simp only at c0 c1 c2
      have u0:=q0F c0;have u1:=q0F c1;have u2:=q0F c2
      have hsf:=q5w
      clear hT hkL h0 hS hmem m1 m2 hb
      go_wp2_with fail
      refine (HCk.out _).mono ?_
      rintro e w1 ⟨rfl,hx⟩
      have HX2:=Lib.hid ((HBk.out.trans HX1.out).trans hx)
      clear hx
      by_cases hc:q0l y1 y2=0
      · have HS':Hid (q7B (L.take (k+1))=0):=Lib.hid (by rw[HS.out];exact hc)
        rw[hc]
        go_wp2_with fail
        go_roundw
        case rel=>exact ⟨k+1,by omega,by go_num,rfl,HS'.out,HX2.out⟩
        case measure=>simp[intOf];omega
      · have HN2:Hid (q7B L=q0l y1 y2):=Lib.hid (by rw[HSk.out,if_neg hc])
        have hcn:(q0l y1 y2==0)=false:=by simpa using hc
        clear hc
        go_wp2_with fail
        rw[Exit.noGoto_ret]
        go_ret
        exact ⟨by rw[HN.out,HN2.out];rfl,HX2.out⟩
    · obtain rfl:k=n:=by omega
      have hd7:decide ((k:Int)<(k:Int))=false:=decide_eq_false (by omega)
      have HN2:Hid (q7B L=0):=Lib.hid (by rw[←HLe.out,List.take_length] at h0;exact h0)
      clear h0 hb
      go_wp2_with fail
      rw[Exit.noGoto_ret]
      go_ret
      exact ⟨by rw[HN.out,HN2.out];rfl,HBk.out⟩
end Go.Proofs.YtmajfklnagdlpaaGreatDoor
namespace Go.Proofs.YtmajfklnagdlpaaGreatDoor
open Go.RowKit
set_option maxRecDepth 100000
set_option linter.unusedVariables false
set_option maxHeartbeats 3200000
theorem q1S {fn:Func} {p u v x:Tmp} {ty:TypeId} (h:fn.results=#[.cell p ty,.tmp u,.tmp v,.tmp x]) (tmps:Array Value) (P:Program) (w:World):
    (results fn tmps).run P w=
      ((asAddr (tmps.getD p undef)).run P w).andThen fun a w₁=>((loadVar ty a).run P w₁).andThen fun y w₂=> .ok (.tuple #[y,tmps.getD u undef,tmps.getD v undef,tmps.getD x undef]) w₂:=by
  simp only[results,h]
  simp[Sem.run_bind,Result.andThen]
def q5m (s:List UInt8):Value:=if q4D s=true then .tuple #[.agg #[.string ⟨(rdT s).toArray⟩,.int .i64 (q0x ((rdR s).take 8):Int),.slice none 0 0],.int .i64 (((rdR s).getD 8 0).toNat:Int),.string ⟨((rdR s).drop 9).toArray⟩,.bool true]
  else .tuple #[.agg #[.string ⟨#[]⟩,.int .i64 0,.slice none 0 0],.int .i64 0,.string ⟨#[]⟩,.bool false]
theorem z7w (s:List UInt8) (w:World) (hl:s.length≤4611686018427387903):
    Calls Tryz.prog 168 #[.string ⟨s.toArray⟩] w fun e w'=>e= .returned (q5m s)∧Ext w w':=by
  have HR1:=Lib.hid (fun W=>z0Q s W hl)
  have hl1:=z1s s;have hl3:=q6s s
  have HX:=Lib.hid (q0C w (.cells #[.string ⟨#[]⟩,.int .i64 0,.slice none 0 0] 58))
  have HB0:=Lib.hid (Blk.new w 58 #[.string ⟨#[]⟩,.int .i64 0,.slice none 0 0])
  have HS0:Hid (∀(W:World) (a b c:Value),Blk W w.heap.size 58 #[a,b,c]→ ∀a' b',W.cell? ⟨w.heap.size,0,none⟩=some a∧W.cell? ⟨w.heap.size,1,none⟩=some b∧W.cell? ⟨w.heap.size,2,none⟩=some c∧
      W.frozen? ⟨w.heap.size,0,none⟩=false∧W.frozen? ⟨w.heap.size,1,none⟩=false∧W.frozen? ⟨w.heap.size,2,none⟩=false∧((W.setCell ⟨w.heap.size,0,none⟩ a').setCell ⟨w.heap.size,1,none⟩ b').frozen? ⟨w.heap.size,2,none⟩=false∧
      ((W.setCell ⟨w.heap.size,0,none⟩ a').setCell ⟨w.heap.size,1,none⟩ b').cell? ⟨w.heap.size,2,none⟩=some c):=Lib.hid fun W a b c h a' b'=>by
    have h2:=(h.set 0 a').set 1 b'
    exact ⟨h.cell 0,h.cell 1,h.cell 2,h.free 0,h.free 1,h.free 2,h2.free 2,h2.cell 2⟩
  by_cases h1:q7D s=true
  case neg=>
    rw[Bool.not_eq_true] at h1
    have HE:Hid (q5m s= .tuple #[.agg #[.string ⟨#[]⟩,.int .i64 0,.slice none 0 0],.int .i64 0,.string ⟨#[]⟩,.bool false]):=Lib.hid (by unfold q5m q4D;rw[h1];rfl)
    rw[h1] at HR1
    go_enter Tryz.func168,Tryz.ntmps168
    go_wp2_with fail
    refine (HR1.out _).mono ?_
    rintro e w1 ⟨rfl,hx⟩
    have HB1:=Lib.hid (HB0.out.ext hx)
    have HX1:=Lib.hid (HX.out.trans hx)
    clear hx
    obtain ⟨c0,c1,c2,f0,f1,f2,g2,d2⟩:=HS0.out w1 _ _ _ HB1.out (.string ⟨#[]⟩) (.int .i64 0)
    go_wp2_with fail
    ((try simp only[Exit.inBlock,Exit.then]);refine bodyPost_ret (v:= .tuple #[.agg #[.string ⟨#[]⟩,.int .i64 0,.slice none 0 0],.int .i64 0,.string ⟨#[]⟩,.bool false]) (by rw[q1S rfl];go_simp) rfl ?_)
    exact ⟨by rw[HE.out],q1p HX1.out _ _ _⟩
  rw[h1] at HR1
  obtain ⟨R,hR⟩: ∃R,rdR s=R:=⟨_,rfl⟩
  rw[hR] at HR1 hl3
  by_cases h3:R.length<9
  · have HE:Hid (q5m s= .tuple #[.agg #[.string ⟨#[]⟩,.int .i64 0,.slice none 0 0],.int .i64 0,.string ⟨#[]⟩,.bool false]):=Lib.hid (by unfold q5m q4D;rw[h1,hR,decide_eq_false (by omega)];rfl)
    have hd:decide ((R.length:Int)<9)=true:=decide_eq_true (by omega)
    clear hR
    go_enter Tryz.func168,Tryz.ntmps168
    go_wp2_with fail
    refine (HR1.out _).mono ?_
    rintro e w1 ⟨rfl,hx⟩
    have HB1:=Lib.hid (HB0.out.ext hx)
    have HX1:=Lib.hid (HX.out.trans hx)
    clear hx
    obtain ⟨c0,c1,c2,f0,f1,f2,g2,d2⟩:=HS0.out w1 _ _ _ HB1.out (.string ⟨#[]⟩) (.int .i64 0)
    go_wp2_with fail
    ((try simp only[Exit.inBlock,Exit.then]);refine bodyPost_ret (v:= .tuple #[.agg #[.string ⟨#[]⟩,.int .i64 0,.slice none 0 0],.int .i64 0,.string ⟨#[]⟩,.bool false]) (by rw[q1S rfl];go_simp) rfl ?_)
    exact ⟨by rw[HE.out],q1p HX1.out _ _ _⟩
  have hd:decide ((R.length:Int)<9)=false:=decide_eq_false (by omega)
  have s1:=q3v R 8 8 rfl (by omega)
  have s2:=q2b R 9 9 rfl (by omega)
  have l8:(R.take 8).length=8:=by rw[List.length_take];omega
  have HG:=Lib.hid (fun W=>q8x (R.take 8) W (by omega))
  rw[show (R.take 8).take 8=R.take 8 from List.take_of_length_le (by omega)] at HG
  have hub:=q1q (R.take 8)
  rw[l8] at hub
  obtain ⟨b,hb⟩: ∃b,q0x (R.take 8)=b:=⟨_,rfl⟩
  rw[hb] at HG hub
  by_cases h4:1073741824<b
  · have HE:Hid (q5m s= .tuple #[.agg #[.string ⟨#[]⟩,.int .i64 0,.slice none 0 0],.int .i64 0,.string ⟨#[]⟩,.bool false]):=Lib.hid (by unfold q5m q4D;rw[hR,hb,decide_eq_false (p:=b≤1073741824) (by omega),Bool.and_false];rfl)
    have hd2:decide ((1073741824:Int)<(b:Int))=true:=decide_eq_true (by omega)
    clear hb hub hR h3
    go_enter Tryz.func168,Tryz.ntmps168
    go_wp2_with fail
    refine (HR1.out _).mono ?_
    rintro e w1 ⟨rfl,hx⟩
    have HB1:=Lib.hid (HB0.out.ext hx)
    have HX1:=Lib.hid (HX.out.trans hx)
    clear hx
    go_wp2_with fail
    refine (HG.out _).mono ?_
    rintro e w2 ⟨rfl,hx⟩
    have HB2:=Lib.hid (HB1.out.ext hx)
    have HX2:=Lib.hid (HX1.out.trans hx)
    clear hx
    obtain ⟨c0,c1,c2,f0,f1,f2,g2,d2⟩:=HS0.out w2 _ _ _ HB2.out (.string ⟨#[]⟩) (.int .i64 0)
    go_wp2_with fail
    ((try simp only[Exit.inBlock,Exit.then]);refine bodyPost_ret (v:= .tuple #[.agg #[.string ⟨#[]⟩,.int .i64 0,.slice none 0 0],.int .i64 0,.string ⟨#[]⟩,.bool false]) (by rw[q1S rfl];go_simp) rfl ?_)
    exact ⟨by rw[HE.out],q1p HX2.out _ _ _⟩
  have hd2:decide ((1073741824:Int)<(b:Int))=false:=decide_eq_false (by omega)
  obtain ⟨m,hm⟩: ∃m:Nat,(R.getD 8 0).toNat=m:=⟨_,rfl⟩
  have hm9:m<256:=by rw[←hm];exact (R.getD 8 0).toNat_lt
  have hb8:8<(⟨R.toArray⟩:ByteArray).size:=by show 8<R.length;omega
  have e8:((⟨R.toArray⟩:ByteArray)[8]'hb8).toNat=m:=by
    rw[←hm,List.getD_eq_getElem?_getD,List.getElem?_eq_getElem (show 8<R.length by omega)];rfl
  have h8:(8:Int)<(R.length:Int):=by omega
  have q1:IntKind.i64.wrap (b:Int)=(b:Int):=by rw[IntKind.wrap_i64];omega
  have q2:IntKind.i64.wrap (m:Int)=(m:Int):=by rw[IntKind.wrap_i64];omega
  have HE:Hid (q5m s= .tuple #[.agg #[.string ⟨(rdT s).toArray⟩,.int .i64 (b:Int),.slice none 0 0],.int .i64 (m:Int),.string ⟨(R.drop 9).toArray⟩,.bool true]):=Lib.hid (by
    unfold q5m q4D
    rw[hR,hb,h1,hm,decide_eq_true (p:=9≤R.length) (by omega),decide_eq_true (p:=b≤1073741824) (by omega)];rfl)
  obtain ⟨T1,hT1⟩: ∃T,rdT s=T:=⟨_,rfl⟩
  rw[hT1] at HE HR1
  clear hb hub hR h3 h4 hT1 hm
  go_enter Tryz.func168,Tryz.ntmps168
  go_wp2_with fail
  refine (HR1.out _).mono ?_
  rintro e w1 ⟨rfl,hx⟩
  have HB1:=Lib.hid (HB0.out.ext hx)
  have HX1:=Lib.hid (HX.out.trans hx)
  clear hx
  go_wp2_with fail
  refine (HG.out _).mono ?_
  rintro e w2 ⟨rfl,hx⟩
  have HB2:=Lib.hid (HB1.out.ext hx)
  have HB2':=Lib.hid (HB2.out.ext (Ext.refl w2).drew)
  have HX2:=Lib.hid ((HX1.out.trans hx).drew)
  clear hx
  obtain ⟨c0,c1,c2,f0,f1,f2,g2,d2⟩:=HS0.out w2 _ _ _ HB2.out (.string ⟨T1.toArray⟩) (.int .i64 (b:Int))
  obtain ⟨c0',c1',c2',f0',f1',f2',g2',d2'⟩:=HS0.out w2.drew _ _ _ HB2'.out (.string ⟨T1.toArray⟩) (.int .i64 (b:Int))
  go_wp2_with fail
  refine q6Z (fun W=>True) 9 (by kernel_rfl) trivial (fun hHeld=>?_)
  refine q0k (i:=0) (v:=?_) rfl (by kernel_rfl) (fun _ _ _ h=>h) (Or.inl ⟨by rfl,?_⟩) hHeld (fun hHeld=>?_)
  rotate_left
  · (intro w hSw;(try dsimp only at hSw);go_simp;try with_reducible rfl)
  try simp only[Act.put,List.setIfInBounds_toArray,List.set_cons_zero,List.set_cons_succ]
  refine q0k (i:=1) (v:=?_) rfl (by kernel_rfl) (fun _ _ _ h=>h) (Or.inl ⟨by rfl,?_⟩) hHeld (fun hHeld=>?_)
  rotate_left
  · (intro w hSw;(try dsimp only at hSw);go_simp;try with_reducible rfl)
  try simp only[Act.put,List.setIfInBounds_toArray,List.set_cons_zero,List.set_cons_succ]
  refine q0k (i:=2) (v:=?_) rfl (by kernel_rfl) (fun _ _ _ h=>h) (Or.inl ⟨by rfl,?_⟩) hHeld (fun hHeld=>?_)
  rotate_left
  · (intro w hSw;(try dsimp only at hSw);go_simp;try with_reducible rfl)
  try simp only[Act.put,List.setIfInBounds_toArray,List.set_cons_zero,List.set_cons_succ]
  refine q0k (i:=3) (v:=?_) rfl (by kernel_rfl) (fun _ _ _ h=>h) (Or.inl ⟨by rfl,?_⟩) hHeld (fun hHeld=>?_)
  rotate_left
  · (intro w hSw;(try dsimp only at hSw);go_simp;try with_reducible rfl)
  try simp only[Act.put,List.setIfInBounds_toArray,List.set_cons_zero,List.set_cons_succ]
  refine q0k (i:=4) (v:=?_) rfl (by kernel_rfl) (fun _ _ _ h=>h) (Or.inl ⟨by rfl,?_⟩) hHeld (fun hHeld=>?_)
  rotate_left
  · (intro w hSw;(try dsimp only at hSw);go_simp;try with_reducible rfl)
  try simp only[Act.put,List.setIfInBounds_toArray,List.set_cons_zero,List.set_cons_succ]
  refine q0k (i:=5) (v:=?_) rfl (by kernel_rfl) (fun _ _ _ h=>h) (Or.inl ⟨by rfl,?_⟩) hHeld (fun hHeld=>?_)
  rotate_left
  · (intro w hSw;(try dsimp only at hSw);go_simp;try with_reducible rfl)
  try simp only[Act.put,List.setIfInBounds_toArray,List.set_cons_zero,List.set_cons_succ]
  refine q0k (i:=6) (v:=?_) rfl (by kernel_rfl) (fun _ _ _ h=>h) (Or.inl ⟨by rfl,?_⟩) hHeld (fun hHeld=>?_)
  rotate_left
  · (intro w hSw;(try dsimp only at hSw);go_simp;try with_reducible rfl)
  try simp only[Act.put,List.setIfInBounds_toArray,List.set_cons_zero,List.set_cons_succ]
  refine q0k (i:=7) (v:=?_) rfl (by kernel_rfl) (fun _ _ _ h=>h) (Or.inl ⟨by rfl,?_⟩) hHeld (fun hHeld=>?_)
  rotate_left
  · (intro w hSw;(try dsimp only at hSw);go_simp;try with_reducible rfl)
  try simp only[Act.put,List.setIfInBounds_toArray,List.set_cons_zero,List.set_cons_succ]
  refine q0k (i:=8) (v:=?_) rfl (by kernel_rfl) (fun _ _ _ h=>h) (Or.inl ⟨by rfl,?_⟩) hHeld (fun hHeld=>?_)
  rotate_left
  · (intro w hSw;(try dsimp only at hSw);go_simp;try with_reducible rfl)
  try simp only[Act.put,List.setIfInBounds_toArray,List.set_cons_zero,List.set_cons_succ]
  refine q7L (by kernel_rfl) ?_
  try simp only[List.drop_succ_cons,List.drop_zero]
  clear hHeld
  go_wp2_with fail
  ((try simp only[Exit.inBlock,Exit.then]);refine bodyPost_ret (v:= .tuple #[.agg #[.string ⟨T1.toArray⟩,.int .i64 (b:Int),.slice none 0 0],.int .i64 (m:Int),.string ⟨(R.drop 9).toArray⟩,.bool true]) (by rw[q1S rfl];go_simp) rfl ?_)
  exact ⟨by rw[HE.out],q1p HX2.out _ _ _⟩
end Go.Proofs.YtmajfklnagdlpaaGreatDoor
namespace Go.Proofs.YtmajfklnagdlpaaGreatDoor
open Go.RowKit
set_option maxRecDepth 100000
set_option linter.unusedVariables false
set_option maxHeartbeats 3200000
theorem z3Q {e:Ev} (h:z8E e):(evB e).length≤300:=by
  obtain ⟨_,h3,h4⟩:=q3F h.1
  unfold evB
  rw[q3m (by omega),q3m (by omega)]
  simp[q0G];omega
theorem z4E (L:List Ev) (k:Nat) (h:k<L.length):((L.take (k+1)).map evB).flatten=((L.take k).map evB).flatten++evB (L.getD k ev0):=by
  rw[List.take_succ_eq_append_getElem h,List.map_append,List.flatten_append,List.getD_eq_getElem?_getD,List.getElem?_eq_getElem h]
  simp only[List.map_cons,List.map_nil,List.flatten_cons,List.flatten_nil,List.append_nil,Option.getD_some]
theorem z9J {b:Bt} {ao:Option Addr} {n cap:Nat} (w:World) (hx:Evs w ao n cap b.ev) (hok:z9l b):
    Calls Tryz.prog 19 #[.agg #[.string ⟨b.st.toArray⟩,.int .i64 (b.fi:Int),.slice ao n cap]] w fun e w'=>e= .returned (.tuple #[.string ⟨(btB b).toArray⟩,.int .i64 0])∧Ext w w':=by
  obtain ⟨p1,p2,p3,p4,p5,p6,p7⟩:=q2t hok.1
  have hev: ∀e∈b.ev,z8E e:=fun e he=>⟨q8E p7 e he,hok.2 e he⟩
  have hsh:q8H b.ev:=fun e he=>by
    obtain ⟨_,h1,h2⟩:=q3F (hev e he).1
    exact ⟨by omega,by omega⟩
  have hlen:=hx.len
  obtain ⟨st,fi,L⟩:=b
  simp only at p1 p2 p3 p4 p5 p6 p7 hev hsh hlen hx
  have b1:=hx.fits;have b2:=hx.bound
  have hc0:q0t st (fi:Int) L=0:=hok.1
  have HC:=Lib.hid (fun W (h:Evs W ao n cap L)=>z1P st (fi:Int) W h (by omega) hsh)
  rw[hc0] at HC
  have HT:=Lib.hid (fun W=>z3M st W (by omega))
  have HP8:=Lib.hid (fun W=>z2o (fi:Int) 8 8 W rfl (by omega) (by omega) (by omega) (by omega))
  have HP1:=Lib.hid (fun W=>z2o (n:Int) 1 1 W rfl (by omega) (by omega) (by omega) (by omega))
  rw[Int.toNat_natCast] at HP8 HP1
  have l1:(q2M st).length≤50:=by rw[q3m (by omega)];simp[q0G];omega
  have l8:(be 8 fi).length≤8:=by rw[q0G];omega
  have l0:(be 1 n).length≤8:=by rw[q0G];omega
  have HE:Hid (btB ⟨st,fi,L⟩=((q2M st++be 8 fi)++be 1 n)++((L.take n).map evB).flatten):=Lib.hid (by
    rw[←hlen,List.take_length];unfold btB;simp)
  have HOk:=Lib.hid hev;have HLn:=Lib.hid hlen;have HEv:=Lib.hid hx
  have qf:IntKind.u64.wrap (fi:Int)=(fi:Int):=by rw[IntKind.wrap_u64];omega
  have qn:IntKind.u64.wrap (n:Int)=(n:Int):=by rw[IntKind.wrap_u64];omega
  have hn9:n≤8:=by omega
  have HX:=Lib.hid (q0C w (.cells #[.string ⟨st.toArray⟩,.int .i64 (fi:Int),.slice ao n cap] 58))
  have HB0:=Lib.hid (Blk.new w 58 #[.string ⟨st.toArray⟩,.int .i64 (fi:Int),.slice ao n cap])
  have hbk:=HB0.out
  have k0:(w.alloc (.cells #[.string ⟨st.toArray⟩,.int .i64 (fi:Int),.slice ao n cap] 58)).cell? ⟨w.heap.size,0,none⟩=some (.string ⟨st.toArray⟩):=hbk.cell 0
  have k1:(w.alloc (.cells #[.string ⟨st.toArray⟩,.int .i64 (fi:Int),.slice ao n cap] 58)).cell? ⟨w.heap.size,1,none⟩=some (.int .i64 (fi:Int)):=hbk.cell 1
  have k2:(w.alloc (.cells #[.string ⟨st.toArray⟩,.int .i64 (fi:Int),.slice ao n cap] 58)).cell? ⟨w.heap.size,2,none⟩=some (.slice ao n cap):=hbk.cell 2
  generalize q2M st=A at*
  generalize be 8 fi=D at*
  generalize be 1 n=C at*
  have hsf:=q5w
  clear hbk hok p1 p2 p3 p4 p5 p6 p7 hev hsh hlen hx hc0
  go_enter Tryz.func19,Tryz.ntmps19
  go_wp2_with fail
  refine (HC.out _ (HEv.out.ext HX.out)).mono ?_
  rintro e w1 ⟨rfl,hx⟩
  have HX1:=Lib.hid (HX.out.trans hx)
  have hb1:=HB0.out.ext hx
  generalize w.heap.size=q at*
  have c0:w1.cell? ⟨q,0,none⟩=some (.string ⟨st.toArray⟩):=hb1.cell 0
  have c1:w1.cell? ⟨q,1,none⟩=some (.int .i64 (fi:Int)):=hb1.cell 1
  have c2:w1.cell? ⟨q,2,none⟩=some (.slice ao n cap):=hb1.cell 2
  have u0:=q0F c0;have u1:=q0F c1;have u2:=q0F c2
  have HB1:=Lib.hid hb1
  have q1:¬(9223372036854775807<A.length+D.length):=by omega
  have q2:¬(9223372036854775807<(A++D).length+C.length):=by rw[List.length_append];omega
  have q3:¬(9223372036854775807<A.length+D.length+C.length):=by omega
  clear hx hb1 k0 k1 k2
  go_wp2_with fail
  refine q0D (by kernel_rfl) (by kernel_rfl) ?_
  repeat (go_big_quiet_step (fail))
  go_big_quiet_step (exact Calls.quiet_ext (HT.out _))
  repeat (go_big_quiet_step (fail))
  go_big_quiet_step (exact Calls.quiet_ext (HP8.out _))
  repeat (go_big_quiet_step (fail))
  go_big_quiet_step (exact Calls.quiet_ext (HP1.out _))
  repeat (go_big_quiet_step (fail))
  refine wpQuiet_nil ?_
  intro w2 hw
  have HX2:=Lib.hid (HX1.out.trans hw)
  have hb2:=HB1.out.ext hw
  have d0:w2.cell? ⟨q,0,none⟩=some (.string ⟨st.toArray⟩):=hb2.cell 0
  have d1:w2.cell? ⟨q,1,none⟩=some (.int .i64 (fi:Int)):=hb2.cell 1
  have d2:w2.cell? ⟨q,2,none⟩=some (.slice ao n cap):=hb2.cell 2
  clear hw hb2 c0 c1 c2 u0 u1 u2
  have HEv2:=Lib.hid (HEv.out.ext HX2.out)
  go_wp2_with fail
  go_loopw [5,30] (fun e i W=> ∃k:Nat,∃T:List UInt8,k≤n∧i= .int .i64 (k:Int)∧e= .string ⟨T.toArray⟩∧T=((A++D)++C)++((L.take k).map evB).flatten∧T.length≤100+300*k∧Ext w W) (fun _ i _=>n-(intOf i).toNat)
  case atStart=>exact ⟨0,_,Nat.zero_le _,rfl,(by first|rfl|(rw[q2g,q2g])),by simp,by simp;omega,HX2.out⟩
  case round=>
    obtain ⟨k,T,hk,rfl,rfl,hT,hTl,hb⟩:=hrel
    have HT:=Lib.hid hT
    have HBk:=Lib.hid hb
    by_cases hlt:k<n
    · have hd7:decide ((k:Int)<(n:Int))=true:=decide_eq_true (by omega)
      obtain ⟨b,off,rfl,c0,c1,c2⟩:=(HEv.out.ext hb).at hlt
      have hkL:k<L.length:=by rw[HLn.out];exact hlt
      have hmem:L.getD k ev0∈L:=by rw[List.getD_eq_getElem?_getD,List.getElem?_eq_getElem hkL];exact List.getElem_mem hkL
      have HS:=Lib.hid (z4E L k hkL)
      have HX1:=Lib.hid (q0C wr (.cells #[.string ⟨(L.getD k ev0).ty.toArray⟩,.string ⟨(L.getD k ev0).da.toArray⟩,.float .f64 (L.getD k ev0).we] 60))
      have q4:IntKind.i64.wrap ((k:Int)+1)=(k:Int)+1:=by rw[IntKind.wrap_i64];omega
      have he:=HOk.out _ hmem
      generalize L.getD k ev0=y at*
      obtain ⟨y1,y2,y3⟩:=y
      have hs:=z3Q he
      have HCk:=Lib.hid (fun W=>z6A ⟨y1,y2,y3⟩ W he)
      have HCk':Hid (∀W,Calls Tryz.prog 83 #[.agg #[.string ⟨y1.toArray⟩,.string ⟨y2.toArray⟩,.float .f64 y3]] W fun r w'=>r= .returned (.string ⟨(evB ⟨y1,y2,y3⟩).toArray⟩)∧Ext W w'):=HCk
      obtain ⟨Y,hY⟩: ∃Y,evB ⟨y1,y2,y3⟩=Y:=⟨_,rfl⟩
      rw[hY] at HCk' hs HS
      simp only at c0 c1 c2
      have u0:=q0F c0;have u1:=q0F c1;have u2:=q0F c2
      have q5:¬(9223372036854775807<T.length+Y.length):=by omega
      clear hkL hmem hb hT HCk he hY
      go_wp2_with fail
      refine (HCk'.out _).mono ?_
      rintro e w3 ⟨rfl,hx⟩
      have HX3:=Lib.hid ((HBk.out.trans HX1.out).trans hx)
      clear hx
      go_wp2_with fail
      go_roundw
      case rel=>exact ⟨k+1,T++Y,by omega,by go_num,(by first|rfl|(rw[q2g])),by rw[HS.out,HT.out,List.append_assoc],by rw[List.length_append];omega,HX3.out⟩
      case measure=>simp[intOf];omega
    · obtain rfl:k=n:=by omega
      have hd7:decide ((k:Int)<(k:Int))=false:=decide_eq_false (by omega)
      have HF:Hid (btB ⟨st,fi,L⟩=T):=Lib.hid (by rw[HE.out,hT])
      clear hb hT
      go_wp2_with fail
      go_ret2
      exact ⟨by rw[HF.out];rfl,HBk.out⟩
end Go.Proofs.YtmajfklnagdlpaaGreatDoor
