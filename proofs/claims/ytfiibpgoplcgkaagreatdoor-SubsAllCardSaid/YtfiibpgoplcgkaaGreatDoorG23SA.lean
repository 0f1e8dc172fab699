/- Laws of regions that draw their order. -/
import Derived.Test.YtfiibpgoplcgkaaGreatDoorG0SA
import Derived.Deep.RegionHeld3
import Derived.StillTail
import Derived.WalkKit
import Derived.WalkSmall
set_option linter.unusedVariables false
set_option linter.unusedSimpArgs false
set_option maxRecDepth 100000
set_option maxHeartbeats 200000
namespace Go.Proofs.YtfiibpgoplcgkaaGreatDoor
variable {i fuel:Nat}{listed:Array Bool}{oi:Oper}{v:Value}{l:List Oper}{a:Act}{w:World}
section
section
variable {P :Program}{ops:Array Oper}{Q:Exit->Act->World->Prop}{md:Region.Mode}{S:World->Prop}{n:Nat}
def NotBegun(ops:Array Oper)(n:Nat)(listed:Array Bool):Prop:= ∀t,n<=t->t<ops.size->listed.getD t false=false
def q2t(P:Program)(md:Region.Mode)(ops:Array Oper)(Q:Exit->Act->World->Prop)(S:World->Prop)(n:Nat):Nat->Array Bool->Act->World->Prop
 |0,listed,a,w=>Region.ready md ops listed=[]/\Q .normal a w
 | fuel+1,listed,a,w=>
  (Region.ready md ops listed=[]->Q .normal a w)/\
  ∀i∈Region.ready md ops listed,wpOp P ops Q i (fun a' w'=>(NotBegun ops n (listed.setIfInBounds i true)->S w')/\q2t P md ops Q S n fuel (listed.setIfInBounds i true) a' w') a w
theorem q9M : ∀(fuel:Nat) (listed:Array Bool) (a:Act) (w:World),q2t P md ops Q S n fuel listed a w->wpAny P md ops Q fuel listed a w
 |0,_,_,_,h=>h
 |fuel+1,_,_,_,h=>⟨h.1,fun i j=>wpOp_mono (fun b w' d=>q9M fuel _ b w' d.2) (h.2 i j)⟩
theorem NotBegun.back(h:NotBegun ops n (listed.setIfInBounds i true)):NotBegun ops n listed:=fun t d b=>by
 cases hq:listed.getD t false with
 |false=>rfl
 |true=>have:=h t d b;rw[getD_set_true hq] at this;cases this
def q9K(md:Region.Mode)(ops:Array Oper)(i:Nat):Nat->Nat->Bool
 |0,_=>false
 | f+1,t=>match ops[t]? with
  |some o=>(o.after.any fun e=>Region.binds md e&&e.on==i)||(o.after.any fun e=>Region.binds md e&&q9K md ops i f e.on)
  |none=>false
def Closed(md:Region.Mode)(ops:Array Oper)(listed:Array Bool):Prop:= ∀j oj,ops[j]? =some oj->listed.getD j false=true-> ∀e∈oj.after,Region.binds md e=true->listed.getD e.on false=true
theorem Closed.set(inv:Closed md ops listed)(u:i∈Region.ready md ops listed):Closed md ops (listed.setIfInBounds i true):=by
 obtain⟨_,oi,m,b⟩:=mem_ready.1 u;intro j s q r e he o;by_cases d:i=j
 ·subst d
  have:s=oi:=Option.some.inj (q.symm.trans m);subst this;exact getD_set_true (b e he o)
 ·rw[getD_set_ne false d] at r
  exact getD_set_true (inv j s q r e he o)
theorem q9L(inv:Closed md ops listed)(j:listed.getD i false=false): ∀(f t:Nat),q9K md ops i f t=true->listed.getD t false=false/\t∉Region.ready md ops listed
 |0,t,h=>by cases h
 | f + 1, t,h=>by
  unfold q9K at h
  split at h
  ·rename_i o s
   have r: ∃e∈o.after,Region.binds md e=true/\listed.getD e.on false=false:=by
    rw[Bool.or_eq_true] at h;rcases h with h|h
    ·obtain⟨e,he,b⟩:=Array.any_eq_true'.1 h
     simp only[Ξ,beq_iff_eq] at b;exact⟨e,he,b.1,by rw[b.2];exact j⟩
    ·obtain⟨e,he,b⟩:=Array.any_eq_true'.1 h
     simp only[Ξ] at b;exact⟨e,he,b.1,(q9L inv j f e.on b.2).1⟩
   obtain⟨e,he,b,m⟩:=r;refine⟨?_,fun u=>?_⟩
   ·cases hl:listed.getD t false with
    |false=>rfl
    |true=>rw[inv t o s hl e he b] at m;cases m
   ·obtain⟨_,x,q,d⟩:=mem_ready.1 u
    have:x=o:=Option.some.inj (q.symm.trans s);subst this;rw[d e he b] at m;cases m
  ·cases h
theorem q6v{Y:World->Prop}(hi:ops[i]? =some oi)(E: ∀(j:Nat) (o:Oper) cs b,ops[j]? =some o->o.op≠ .select cs b)
  (m:i<n)(s:(∀w,Y w)\/((∀w,S w->Y w)/\ ∃f,∀t,n<=t->t<ops.size->q9K md ops i f t=true))
  (hQ: ∀c a w,Q (.panic c) (a.put oi.dst v) w->Q (.panic c) a w):
  ∀ (fuel:Nat) (listed:Array Bool) (a:Act) (w:World),Closed md ops listed->
   (∀j J,ops[j]? =some J->j≠i->listed.getD j true=false->(∀e∈J.after,Region.binds md e=true->e.on≠i)->oi.apart ops J=true)->
   i∈Region.ready md ops listed->YieldsIf P ops Y oi v a->Y w->(NotBegun ops n listed->S w)->
   q2t P md ops Q S n fuel (listed.setIfInBounds i true) (a.put oi.dst v) w->q2t P md ops Q S n (fuel+1) listed a w:=by
 intro fuel
 induction fuel with
 | zero=>
  intro listed a w _ _ D hy hS F H;refine⟨fun h=>(by rw[h] at D;cases D),fun j G=>?_⟩;by_cases d:j=i
  ·subst d;exact hy.wpOp hi hS ⟨fun h=>F h.back,H⟩
  ·have:=ready_mono G d
   rw[H.1] at this
   cases this
 | succ fuel ih=>
  intro listed a w inv u D hy hS F H;have x:=(mem_ready.1 D).1;refine⟨fun h=>(by rw[h] at D;cases D),fun j G=>?_⟩;by_cases d:j=i
  ·subst d;exact hy.wpOp hi hS ⟨fun h=>F h.back,H⟩
  ·have Z:=H.2 j (ready_mono G d)
   obtain⟨C,J,I,N⟩:=mem_ready.1 G;have V: ∀e∈J.after,Region.binds md e=true->e.on≠i:=fun e he B a0=>by
    have Z:=N e he B;rw[a0,getD_both x] at Z
    cases Z
   have h2:=wpOp_putIf I (u j J I d C V) (fun cs b=>E i oi cs b hi) (fun cs b=>E j J cs b I) hQ hy Z;have q: ∀k ok,ops[k]? =some ok->k≠i->(listed.setIfInBounds j true).getD k true=false->
     (∀e∈ok.after,Region.binds md e=true->e.on≠i)->oi.apart ops ok=true:=fun k ok hk b0 x d0=>by
    refine u k ok hk b0 ?_ d0;by_cases R:j=k
    ·subst R;exact C
    ·rw[getD_set_ne true R] at x;exact x
   have r: ∀w',(NotBegun ops n ((listed.setIfInBounds i true).setIfInBounds j true)->S w')->NotBegun ops n (listed.setIfInBounds j true)->i<n->S w':=fun w' h B s=>h fun t W U=>by
    rw[Array.setIfInBounds_comm _ _ (Ne.symm d),getD_set_ne false (by omega)];exact B t W U
   rcases s with s|⟨s,f,O⟩
   ·refine wpOp_mono (fun a' w' y=>?_) h2
    have M:(i<n)->NotBegun ops n (listed.setIfInBounds j true)->S w':=fun m B=>r w' y.2.1 B m
    refine⟨M m,ih (listed.setIfInBounds j true) a' w' (inv.set G) q (ready_mono D (Ne.symm d)) y.1 (s w') (M m) ?_⟩;rw[Array.setIfInBounds_comm _ _ d];exact y.2.2
   ·have X: ∀t,n<=t->t<ops.size->listed.getD t false=false/\t∉Region.ready md ops listed:=fun t W U=>q9L inv (getD_both x) f t (O t W U)
    have c0:NotBegun ops n (listed.setIfInBounds j true):=fun t W U=>by
     have:=X t W U;rw[getD_set_ne false (fun e:j=t=>this.2 (by rw[<-e];exact G))];exact this.1
    refine wpOp_mono (fun a' w' y=>⟨fun B=>r w' y.2.1 B m,ih (listed.setIfInBounds j true) a' w' (inv.set G) q (ready_mono D (Ne.symm d)) y.1 (s w' (r w' y.2.1 c0 m)) (fun B=>r w' y.2.1 B m) ?_⟩) h2;rw[Array.setIfInBounds_comm _ _ d];exact y.2.2
def q6Q(md:Region.Mode)(ops:Array Oper)(listed:Array Bool):Bool:=
 (List.range ops.size).all fun j=>!listed.getD j false||(match ops[j]? with|some oj=>oj.after.all fun e=>!Region.binds md e||listed.getD e.on false|none=>true)
theorem q7U(h:q6Q md ops listed=true):Closed md ops listed:=by
 simp only[q6Q,List.all_eq_true,List.mem_range,Bool.or_eq_true,Bool.not_eq_true'] at h;intro j q m o e he d;rcases h j (Array.getElem?_eq_some_iff.1 m).1 with h|h
 ·rw[h] at o;cases o
 ·simp only[m] at h
  have b:=Array.all_eq_true_iff_forall_mem.1 h e he;simp only[Bool.or_eq_true,Bool.not_eq_true'] at b;rcases b with b|b
  ·rw[b] at d;cases d
  ·exact b
theorem q8R(y:l[i]? =some oi)
  (j:(Region.noSelect l.toArray&&decide (i<n)&&q6Q md l.toArray listed&&Region.free md l.toArray listed i&&(Region.ready md l.toArray listed).contains i&&(List.range l.length).all fun t=>decide (t<n)||q9K md l.toArray i 4 t)=true)
  (x: ∀c a w,Q (.panic c) (a.put oi.dst v) w->Q (.panic c) a w)(C:YieldsIf P l.toArray S oi v a)(d:S w)
  (h:S w->q2t P md l.toArray Q S n fuel (listed.setIfInBounds i true) (a.put oi.dst v) w):q2t P md l.toArray Q S n (fuel+1) listed a w:=by
 simp only[Ξ,Φ,List.all_eq_true,List.mem_range,Bool.or_eq_true] at j;obtain⟨⟨⟨⟨⟨m,o⟩,q⟩,r⟩,s⟩,u⟩:=j;have b:l.toArray[i]? =some oi:=by simpa using y
 exact q6v b (Region.noSelect_spec m) o (.inr ⟨fun _ h=>h,4,fun t D B=>(u t (by simpa using B)).resolve_left (by omega)⟩) x fuel listed a w (q7U q) (Region.free_spec b r) (by simpa using s) C d (fun _=>d) (h d)
theorem q0t(x:l[i]? =some oi)
  (d:(Region.noSelect l.toArray&&decide (i<n)&&q6Q md l.toArray listed&&Region.free md l.toArray listed i&&(Region.ready md l.toArray listed).contains i)=true)
  (u: ∀c a w,Q (.panic c) (a.put oi.dst v) w->Q (.panic c) a w)(y:YieldsIf P l.toArray (fun _=>True) oi v a)(j:S w)
  (h:S w->q2t P md l.toArray Q S n fuel (listed.setIfInBounds i true) (a.put oi.dst v) w):q2t P md l.toArray Q S n (fuel+1) listed a w:=by
 simp only[Ξ,Φ] at d;obtain⟨⟨⟨⟨m,o⟩,q⟩,r⟩,s⟩:=d;have b:l.toArray[i]? =some oi:=by simpa using x
 exact q6v b (Region.noSelect_spec m) o (.inl fun _=>trivial) u fuel listed a w (q7U q) (Region.free_spec b r) (by simpa using s) y trivial (fun _=>j) (h j)
theorem q0e{o:Oper}(d:Region.ready md l.toArray listed=[i])(u:l[i]? =some o)
  (h : ∀K':Act->World->Prop,Shut (∀a w,S w->(S w->q2t P md l.toArray Q S n fuel (listed.setIfInBounds i true) a w)->K' a w)->
   if Region.wanted o (yielded l.toArray a.tmps)=true then Oper.wp P o a w K' Q else K' (a.put o.dst undef) w):q2t P md l.toArray Q S n (fuel+1) listed a w:=by
 refine⟨fun r=>(by rw[r] at d;cases d),fun j q=>?_⟩;rw[d] at q;obtain rfl:=List.mem_singleton.1 q;have b:l.toArray[j]? =some o:=by simpa using u
 exact wpOp_step b (fun K' hK=>h K' (fun a w m s=>hK a w ⟨fun _=>m,s m⟩))
theorem q8Q : ∀(l:List Oper) (k:Nat) (listed:Array Bool) (a:Act) (w:World),n<=k->(∀j,l[j]? =ops[k+j]?)->
  Region.seqB md ops l.length k listed=true->wpList P ops Q l a w->q2t P md ops Q S n l.length listed a w
 |[],_,_,_,_,_,_,hB,h=>⟨by simpa [Region.seqB] using hB,h⟩
 | o ::l,k,listed,a,w,hk,hl,hB,h=>by
  have s:ops[k]? =some o:=by simpa using(hl 0).symm
  simp only[χ,Region.seqB,Ξ,Φ] at hB;refine⟨fun u=>(by rw[hB.1] at u;cases u),fun i b=>?_⟩;have d:=b;rw[hB.1] at b;have m:i=k:=by simpa using b
  subst m;have D:wpOp P ops Q i (wpList P ops Q l) a w:=by unfold wpOp;simp only[s];exact h
  have r:i<ops.size:=(Array.getElem?_eq_some_iff.1 s).1;have q:i<listed.size:=by
   have C:=(mem_ready.1 d).1;rcases Nat.lt_or_ge i listed.size with h|h
   ·exact h
   ·simp[Array.getElem?_eq_none h] at C
  exact wpOp_mono (fun x w' y=>⟨fun B=>(by have:=B i hk r;simp[q] at this),q8Q l (i+1) _ x w' (by omega) (fun j=>by have:=hl (j+1);simpa [Nat.add_assoc,Nat.add_comm 1 j] using this) hB.2 y⟩) D
theorem q1k(b:(Region.seqB md l.toArray (l.drop n).length n listed&&decide (fuel=(l.drop n).length))=true)
  (h:wpList P l.toArray Q (l.drop n) a w):q2t P md l.toArray Q S n fuel listed a w:=by
 simp only[Ξ,Φ] at b;obtain⟨d,rfl⟩:=b;exact q8Q (l.drop n) n listed a w (ι _) (fun j=>by simp[List.getElem?_drop]) d h
theorem q1U{id:Nat}(S:World->Prop)(n:Nat)(hm:P.follows .mixedOrders=true)(b:S w.drew)
  (h:S w.drew->q2t P .any ops Q S n ops.size (Array.replicate ops.size false) a w.drew):(Code.region id ops true).wp P Q a w:=
 wp_region_any hm (q9M _ _ _ _ (h b))
variable {P :Program}{Q:Exit->Act->World->Prop}{md:Region.Mode}{S:World->Prop}{n:Nat}
theorem q2x(i:Nat)(m:S w)
  (h:S w->q2t P md l.toArray Q S n fuel (listed.setIfInBounds i true) (a.put oi.dst v) w)
  (q:l[i]? =some oi:=by exact rfl)
  (d:(Region.noSelect l.toArray&&decide (i<n)&&q6Q md l.toArray listed&&Region.free md l.toArray listed i&&(Region.ready md l.toArray listed).contains i&&(List.range l.length).all fun t=>decide (t<n)||q9K md l.toArray i 4 t)=true:=by kernel_rfl)
  (j: ∀c a w,Q (.panic c) (a.put oi.dst v) w->Q (.panic c) a w:=by exact fun _ _ _ h=>h)
  (o:Region.wanted oi (yielded l.toArray a.tmps)=true:=by rfl)(r: ∀w,S w->(execOp a.eval oi).run P w= .ok (.value v) w:=by(intro w b;(try dsimp only at b);(try simp only[Act.put,π,ψ,ω]);go_simp;try with_reducible rfl)):q2t P md l.toArray Q S n (fuel+1) listed a w:=
 q8R q d j (Or.inl ⟨o,r⟩) m h
theorem q0W(i:Nat)(m:S w)
  (h:S w->q2t P md l.toArray Q S n fuel (listed.setIfInBounds i true) (a.put oi.dst v) w)
  (q:l[i]? =some oi:=by exact rfl)
  (d:(Region.noSelect l.toArray&&decide (i<n)&&q6Q md l.toArray listed&&Region.free md l.toArray listed i&&(Region.ready md l.toArray listed).contains i)=true:=by kernel_rfl)
  (j: ∀c a w,Q (.panic c) (a.put oi.dst v) w->Q (.panic c) a w:=by exact fun _ _ _ h=>h)
  (o:Region.wanted oi (yielded l.toArray a.tmps)=true:=by rfl)(r: ∀w,(fun _:World=>True) w->(execOp a.eval oi).run P w= .ok (.value v) w:=by(intro w b;(try dsimp only at b);(try simp only[Act.put,π,ψ,ω]);go_simp;try with_reducible rfl)):q2t P md l.toArray Q S n (fuel+1) listed a w:=
 q0t q d j (Or.inl ⟨o,r⟩) m h
end
end
end Go.Proofs.YtfiibpgoplcgkaaGreatDoor
