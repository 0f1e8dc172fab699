/- Acts, and how a store is made, that came in, laid open. -/
import Derived.Test.YtjjfiejoeelndaaGreatDoorChecked
import Derived.Test.YtjjfiejoeelndaaGreatDoorG27Bw
import Derived.Test.YtjjfiejoeelndaaGreatDoorG2Bw
import Derived.Lib.SmallJoins
import Derived.Deep.Strs
import Derived.OpenShut
set_option linter.unusedVariables false
set_option linter.unusedSimpArgs false
namespace Go.Proofs.YtjjfiejoeelndaaGreatDoor
open Go.RowKit Go.WideShapes Go.ChangeShapes Go.Deep
set_option maxRecDepth 100000
set_option linter.unusedVariables false
set_option maxHeartbeats 12800000
theorem q7B {H:Type} {enc:TypeId×Value→H} {P:Program} {w:World} {base:Nat} {spare:Nat→Bool} {held:Bool} {fuel:Nat} {t:TypeId} {c:Value} {y:DataW H×List MemPlace} (ht:P.underlying t=some (.float .f64))
    (h:DataW.trod enc P w base spare held fuel t [c]=some y): ∃b,c= .float .f64 b∧b<18446744073709551616:=by
  cases fuel with
  |zero=>simp[DataW.trod] at h
  | succ n=>
    simp only[DataW.trod,ht] at h
    cases c<;>simp at h
    rename_i k' b
    obtain ⟨⟨h1,h2⟩,_⟩:=h
    subst h1
    exact ⟨b,rfl,by simpa [Lit.wf] using h2⟩
theorem z9t {H:Type} {enc:TypeId×Value→H} {w:World} {base:Nat} {held:Bool} {fuel:Nat} {cs:List Value} {y:DataW H×List MemPlace}
    (h:DataW.trod enc Tryz.prog w base (fun _=>true) held fuel 48 cs=some y): ∃x:Ev,cs=evc x∧x.ty.length≤9223372036854775807∧x.da.length≤9223372036854775807∧x.we<18446744073709551616:=by
  obtain ⟨z0,z1,z2,n2,_,hl2,g0,g1,g2⟩:=trod_struct3 Tryz.underlying48 h
  have hce:Tryz.prog.cellsOf 48=3:=by kernel_rfl
  have hcs:Tryz.prog.cellsOf 9=1:=by kernel_rfl
  have hcf:Tryz.prog.cellsOf 24=1:=by kernel_rfl
  rw[hce] at hl2
  match cs,hl2 with
  | [c2,c3,c4],_=>
    simp only[hcs,hcf] at g0 g1 g2
    obtain ⟨t,e2,_,ht⟩:=DataW.trod_string Tryz.underlying9 g0
    obtain ⟨d,e3,_,hd⟩:=DataW.trod_string Tryz.underlying9 g1
    simp at e2 e3
    subst e2 e3
    obtain ⟨b,rfl,hb⟩:=q7B Tryz.underlying24 g2
    refine ⟨⟨t.data.toList,d.data.toList,b⟩,by unfold evc;cases t;cases d;rfl,?_,?_,hb⟩
    all_goals
      unfold maxLen at ht hd
      simp only[Array.length_toList]
      assumption
theorem open_evs {H:Type} {enc:TypeId×Value→H} {w:World} {base:Nat} {held:Bool} {f0:Nat} {ao:Option Addr} {n cap:Nat} {y:DataW H×List MemPlace}
    (hf0:DataW.trod enc Tryz.prog w base (fun _=>true) held f0 22 [.slice ao n cap]=some y):
    ∃L,Evs w ao n cap L∧ ∀x∈L,x.ty.length≤9223372036854775807∧x.da.length≤9223372036854775807∧x.we<18446744073709551616:=by
  have hc:Tryz.prog.cellsOf 48=3:=by kernel_rfl
  rcases open_slice Tryz.underlying22 hf0 with ⟨e1,_⟩|⟨a,len,cap',m,n',D,Pl,e1,_,hl,hm,hmm,_,hi⟩
  · simp only[List.cons.injEq,and_true] at e1
    cases e1
    exact ⟨[],⟨rfl,Nat.le_refl _,by omega,fun _=>rfl,Rd.nil _ _⟩,fun x h=>by cases h⟩
  · simp only[List.cons.injEq,and_true] at e1
    cases e1
    simp only[if_true] at hmm
    subst hmm
    rw[hc] at hi
    have hk: ∀i,∃k:Ev,i<n→(∀j,j<3→w.cell? ((a.add (i*3)).add j)=(evc k)[j]?)∧k.ty.length≤9223372036854775807∧k.da.length≤9223372036854775807∧k.we<18446744073709551616:=fun i=>by
      by_cases hil:i<n
      · obtain ⟨cs',hcs,ht⟩:=hi i (by omega)
        obtain ⟨_,hcl,hat⟩:=World.cells?_some hcs
        obtain ⟨k,rfl,hkl⟩:=z9t ht
        exact ⟨k,fun _=>⟨hat,hkl⟩⟩
      · exact ⟨ev0,fun h=>absurd h hil⟩
    obtain ⟨f,hf⟩:=Classical.axiomOfChoice hk
    have hlen:((List.range n).map f).length=n:=by simp
    have hget: ∀i,i<n→((List.range n).map f).getD i ev0=f i:=fun i hi=>by
      rw[List.getD_eq_getElem?_getD,List.getElem?_map,List.getElem?_range hi];rfl
    refine ⟨(List.range n).map f,⟨hlen,hl,by unfold maxLen at hm;omega,(fun h=>by cases h),?_⟩,fun x hx=>?_⟩
    · intro j u hj
      have hjl:j<n*3:=by
        have:=(List.getElem?_eq_some_iff.1 hj).1
        rwa [q4n,hlen] at this
      have hi3:j/3<n:=by omega
      have hr3:j % 3<3:=Nat.mod_lt _ (by decide)
      have hjj:j/3*3+j % 3=j:=by omega
      have hkc:=q7C ((List.range n).map f) (j/3) (j % 3) (by rw[hlen];exact hi3) hr3
      rw[hjj,hget _ hi3,hj] at hkc
      have h0':=(hf 0 (by omega)).1 0 (by decide)
      rw[Nat.zero_mul,add_add,Nat.add_zero] at h0'
      obtain ⟨b,off,rfl⟩:=z5p h0'
      have hcell:=(hf (j/3) hi3).1 (j % 3) hr3
      rw[add_add,hjj,←hkc,z6q] at hcell
      exact ⟨b,off,rfl,hcell⟩
    · obtain ⟨i,hi,rfl⟩:=List.mem_map.1 hx
      exact (hf i (List.mem_range.1 hi)).2
theorem open_how {H:Type} {enc:TypeId×Value→H} {w:World} {base:Nat} {held:Bool} {r:Reach} {b0:Nat} {v:Value} {d:DataW H} {p:List MemPlace}
    (hv:Value.okWide Tryz.prog w r b0 27 v) (h:DataW.Trod enc Tryz.prog w base (fun _=>true) held 27 v d p):
    ∃sd rate room,v= .agg #[.int .u64 sd,.float .f64 rate,.int .u16 room]∧0≤sd∧sd<18446744073709551616∧0≤room∧room≤65535:=by
  obtain ⟨v0,v1,v2,y0,y1,y2,n,rfl,_,_,h0,h1,h2⟩:=Joins.open_agg3 Tryz.underlying27 (by kernel_rfl) (by kernel_rfl) hv h
  obtain ⟨a0,e0,_,w0⟩:=DataW.trod_int Tryz.underlying23 h0
  obtain ⟨a1,rfl,hb⟩:=q7B Tryz.underlying24 h1
  obtain ⟨a2,e2,_,w2⟩:=DataW.trod_int Tryz.underlying25 h2
  simp only[List.cons.injEq,and_true] at e0 e2
  subst e0 e2
  have hb0:=bounds_u64 w0
  have hb2:=bounds_u16 w2
  exact ⟨a0,a1,a2,rfl,hb0.1,by omega,hb2.1,by omega⟩
end Go.Proofs.YtjjfiejoeelndaaGreatDoor
