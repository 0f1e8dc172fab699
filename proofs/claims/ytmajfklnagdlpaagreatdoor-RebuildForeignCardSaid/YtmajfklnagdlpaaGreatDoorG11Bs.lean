/- Walks: the bytes of an entry, and the entry of bytes. Walks: where the first entry stands that is not ahead of a hash and a version (entries.Search). Walks: entries are cloned; the entries of a hash between two versions (entries.Range). Walks: the last entry of a hash up to a version (entries.Last). Plain laws: an entry that is put among sorted ones. Plain laws: sorted lists made one. Lists of entries in memory, many of them. -/
import Derived.Test.YtmajfklnagdlpaaGreatDoorG10Bs
import Derived.Test.YtmajfklnagdlpaaGreatDoorG5Bs
import Derived.Deep.RegionLaw
import Derived.Deep.AppendLies
import Derived.BigQuiet
import Derived.Laws.ResultCell
import Derived.Test.YtmajfklnagdlpaaGreatDoorG4Bs
set_option linter.unusedVariables false
set_option linter.unusedSimpArgs false
namespace Go.Proofs.YtmajfklnagdlpaaGreatDoor
open Go.RowKit
set_option maxRecDepth 100000
set_option linter.unusedVariables false
set_option maxHeartbeats 3200000
theorem z1X (e:En) (w:World) (h:q4p e=true):Calls Tryz.prog 87 #[enV e] w fun r w'=>r= .returned (.string ⟨(q5G e).toArray⟩)∧Ext w w':=by
  obtain ⟨a0,a1,b0,b1,c0,c1⟩:=okEn_iff.1 h
  obtain ⟨x,y,z⟩:=e
  simp only at a0 a1 b0 b1 c0 c1
  have hE:q5G (x,y,z)=be 8 x.toNat++(be 8 y.toNat++be 8 z.toNat):=rfl
  have HE:=Lib.hid hE
  have l1:=q0G 8 x.toNat;have l2:=q0G 8 y.toNat;have l3:=q0G 8 z.toNat
  have P1:=Lib.hid (fun W=>q5l x 8 W (by omega) (by omega) a0 a1)
  have P2:=Lib.hid (fun W=>q5l y 8 W (by omega) (by omega) b0 (by omega))
  have P3:=Lib.hid (fun W=>q5l z 8 W (by omega) (by omega) c0 (by omega))
  generalize q5G (x,y,z)=EE at*
  generalize be 8 x.toNat=X at*
  generalize be 8 y.toNat=Y at*
  generalize be 8 z.toNat=Z at*
  have hw2:IntKind.u64.wrap y=y:=by rw[IntKind.wrap_u64];omega
  have hw3:IntKind.u64.wrap z=z:=by rw[IntKind.wrap_u64];omega
  have hbk:=Blk.new w 66 #[.int .u64 x,.int .i64 y,.int .i64 z]
  have e0:(w.alloc (.cells #[.int .u64 x,.int .i64 y,.int .i64 z] 66)).cell? ⟨w.heap.size,0,none⟩=some (.int .u64 x):=hbk.cell 0
  have e1:(w.alloc (.cells #[.int .u64 x,.int .i64 y,.int .i64 z] 66)).cell? ⟨w.heap.size,1,none⟩=some (.int .i64 y):=hbk.cell 1
  have e2:(w.alloc (.cells #[.int .u64 x,.int .i64 y,.int .i64 z] 66)).cell? ⟨w.heap.size,2,none⟩=some (.int .i64 z):=hbk.cell 2
  have u0:=q0F e0;have u1:=q0F e1;have u2:=q0F e2
  have q1:¬(9223372036854775807<X.length+Y.length):=by omega
  have q2:¬(9223372036854775807<(X++Y).length+Z.length):=by rw[List.length_append];omega
  have q3:¬(9223372036854775807<X.length+Y.length+Z.length):=by omega
  have HX:=Lib.hid (q0C w (.cells #[.int .u64 x,.int .i64 y,.int .i64 z] 66))
  clear hbk hE e0 e1 e2 h
  show Calls Tryz.prog 87 #[.agg #[.int .u64 x,.int .i64 y,.int .i64 z]] w _
  go_enter Tryz.func87,Tryz.ntmps87
  go_wp2_with fail
  refine q0D (by kernel_rfl) (by kernel_rfl) ?_
  repeat (go_big_quiet_step (fail))
  go_big_quiet_step (exact Calls.quiet_ext (P1.out _))
  repeat (go_big_quiet_step (fail))
  go_big_quiet_step (exact Calls.quiet_ext (P2.out _))
  repeat (go_big_quiet_step (fail))
  go_big_quiet_step (exact Calls.quiet_ext (P3.out _))
  repeat (go_big_quiet_step (fail))
  refine wpQuiet_nil ?_
  intro w2 hw
  have HB2:=Lib.hid (HX.out.trans hw)
  clear hw
  go_wp2_with fail
  go_ret
  exact ⟨by rw[HE.out,q2g,q2g];simp,HB2.out⟩
end Go.Proofs.YtmajfklnagdlpaaGreatDoor
namespace Go.Proofs.YtmajfklnagdlpaaGreatDoor
open Go.RowKit
set_option maxRecDepth 100000
set_option linter.unusedVariables false
set_option maxHeartbeats 6400000
def q5h (e:En) (h v:Int):Bool:=decide (e.1<h)||(decide (e.1=h)&&decide (e.2.1<v))
theorem z2j {e:En} (h v:Int) (hp:0≤e.2.2):q5h e h v=q1b e (h,v,0):=by
  rw[Bool.eq_iff_iff,lessE_iff]
  unfold q5h
  simp only[Bool.or_eq_true,Bool.and_eq_true,decide_eq_true_eq]
  omega
theorem z7e (e:En) (h v:Int) (w:World):
    Calls Tryz.prog 209 #[enV e,.int .u64 h,.int .i64 v] w fun r w'=>r= .returned (.bool (q5h e h v))∧Ext w w':=by
  obtain ⟨a,b,c⟩:=e
  show Calls _ _ #[.agg #[.int .u64 a,.int .i64 b,.int .i64 c],_,_] _ _
  have hbk:=Blk.new w 66 #[.int .u64 a,.int .i64 b,.int .i64 c]
  have HX:=Lib.hid (q0C w (.cells #[.int .u64 a,.int .i64 b,.int .i64 c] 66))
  have c0:(w.alloc (.cells #[.int .u64 a,.int .i64 b,.int .i64 c] 66)).cell? ⟨w.heap.size,0,none⟩=some (.int .u64 a):=hbk.cell 0
  have c1:(w.alloc (.cells #[.int .u64 a,.int .i64 b,.int .i64 c] 66)).cell? ⟨w.heap.size,1,none⟩=some (.int .i64 b):=hbk.cell 1
  have h3:(decide (a<h)=true∧q5h (a,b,c) h v=true)∨(decide (a<h)=false∧(a==h)=false∧q5h (a,b,c) h v=false)∨(decide (a<h)=false∧(a==h)=true∧q5h (a,b,c) h v=decide (b<v)):=by
    unfold q5h
    by_cases g1:a<h
    · exact .inl ⟨decide_eq_true g1,by simp[g1]⟩
    · by_cases g2:a=h
      · exact .inr (.inr ⟨decide_eq_false g1,by simpa using g2,by simp[g1,g2]⟩)
      · exact .inr (.inl ⟨decide_eq_false g1,by simpa using g2,by simp[g1,g2]⟩)
  clear hbk
  rcases h3 with ⟨g1,he⟩|⟨g1,g2,he⟩|⟨g1,g2,he⟩
  all_goals
    rw[he]
    clear he
    go_enter Tryz.func209,Tryz.ntmps209
    go_wp2_with fail
    go_ret
    exact ⟨rfl,HX.out⟩
theorem z5W {ao:Option Addr} {n cap:Nat} {L:List En} (h v:Int) (w:World) (hx:Ens w ao n cap L) (hn:n≤1000000) (hs:q2R L) (ho: ∀e∈L,q4p e=true):
    Calls Tryz.prog 155 #[.slice ao n cap,.int .u64 h,.int .i64 v] w fun r w'=>r= .returned (.int .i64 (lbE L (h,v,0):Int))∧Ext w w':=by
  have Hx:=Lib.hid hx
  have HX0:=Lib.hid (Ext.refl w)
  have HA:=Lib.hid (fun e W=>z7e e h v W)
  have b1:=hx.fits;have b2:=hx.bound
  have HAt:Hid (∀i,i<n→q5h (L.getD i en0) h v=decide (i<lbE L (h,v,0))):=Lib.hid fun i hi=>by
    have hi':i<L.length:=by rw[hx.len];exact hi
    have hg:L.getD i en0=L[i]:=by rw[List.getD_eq_getElem?_getD,List.getElem?_eq_getElem hi'];rfl
    have hok:=ho _ (List.getElem_mem hi')
    rw[hg,z2j h v (by unfold q4p at hok;simp at hok;omega),q6u (h,v,0) hs (List.getElem?_eq_getElem hi')]
  have hlb:=z1F L (h,v,0)
  rw[hx.len] at hlb
  generalize lbE L (h,v,0)=lb at*
  clear hx hs ho
  go_enter Tryz.func155,Tryz.ntmps155
  go_wp2
  go_step3
  go_wp2
  go_step3
  go_wp2
  go_loopw [7,8] (fun i j W=> ∃lo hi:Nat,i= .int .i64 (lo:Int)∧j= .int .i64 (hi:Int)∧lo≤lb∧lb≤hi∧hi≤n∧Ext w W) (fun i j _=>(intOf j).toNat-(intOf i).toNat)
  case atStart=>exact ⟨0,n,rfl,rfl,Nat.zero_le _,hlb,Nat.le_refl _,HX0.out⟩
  case round=>
    obtain ⟨lo,hi,rfl,rfl,h1,h2,h3,hX⟩:=hrel
    have HX:=Lib.hid hX
    clear hX
    have q1:IntKind.i64.wrap ((hi:Int)-(lo:Int))=(hi:Int)-(lo:Int):=by rw[IntKind.wrap_i64];omega
    have q2:Int.tdiv ((hi:Int)-(lo:Int)) 2=((hi:Int)-(lo:Int))/2:=Int.tdiv_eq_ediv_of_nonneg (by omega)
    obtain ⟨m,hm⟩: ∃m,lo+(hi-lo)/2=m:=⟨_,rfl⟩
    have q3:(lo:Int)+((hi:Int)-(lo:Int))/2=(m:Int):=by omega
    have q4:IntKind.i64.wrap (((hi:Int)-(lo:Int))/2)=((hi:Int)-(lo:Int))/2:=by rw[IntKind.wrap_i64];omega
    have q5:IntKind.i64.wrap (m:Int)=(m:Int):=by rw[IntKind.wrap_i64];omega
    by_cases hlt:lo<hi
    · have hd:decide ((hi:Int)≤(lo:Int))=false:=decide_eq_false (by omega)
      have q6:(m:Int)<(n:Int):=by omega
      obtain ⟨b,off,rfl,c0,c1,c2⟩:=(Hx.out.ext HX.out).at (show m<n by omega)
      have hat:=HAt.out m (by omega)
      have HAm:=Lib.hid (HA.out (L.getD m en0))
      generalize L.getD m en0=e at*
      obtain ⟨a,bb,c⟩:=e
      rw[hat] at HAm
      by_cases hml:m<lb
      · rw[decide_eq_true hml] at HAm
        have q7:IntKind.i64.wrap ((m:Int)+1)=(m:Int)+1:=by rw[IntKind.wrap_i64];omega
        clear hat
        go_wp2_with fail
        refine (HAm.out _).mono ?_
        rintro e w1 ⟨rfl,hb⟩
        have HX1:=Lib.hid (HX.out.trans hb);clear hb
        go_wp2_with fail
        go_roundw
        case rel=>exact ⟨m+1,hi,by go_num,rfl,hml,h2,h3,HX1.out⟩
        case measure=>simp[intOf];omega
      · rw[decide_eq_false hml] at HAm
        clear hat
        go_wp2_with fail
        refine (HAm.out _).mono ?_
        rintro e w1 ⟨rfl,hb⟩
        have HX1:=Lib.hid (HX.out.trans hb);clear hb
        go_wp2_with fail
        go_roundw
        case rel=>exact ⟨lo,m,rfl,rfl,h1,by omega,by omega,HX1.out⟩
        case measure=>simp[intOf];omega
    · have hd:decide ((hi:Int)≤(lo:Int))=true:=decide_eq_true (by omega)
      obtain rfl:lo=lb:=by omega
      go_wp2_with fail
      rw[Exit.noGoto_ret]
      go_ret
      exact ⟨rfl,HX.out⟩
end Go.Proofs.YtmajfklnagdlpaaGreatDoor
namespace Go.Proofs.YtmajfklnagdlpaaGreatDoor
open Go.RowKit
set_option maxRecDepth 100000
set_option linter.unusedVariables false
set_option maxHeartbeats 12800000
theorem Tryz.infoEnH :(Tryz.prog.info? 66).map (fun i=>(i.zero,i.size,i.bytes))=some (some (.agg #[.int .u64 0,.int .i64 0,.int .i64 0]),3,24):=by kernel_rfl
theorem z5Q {ao:Option Addr} {n cap:Nat} {K:List En} (w:World) (hx:Ens w ao n cap K) (hn:n≤1000000):
    Calls Tryz.prog 140 #[.slice ao n cap] w fun e w'=> ∃v,e= .returned v∧w'.ownsRow w.heap.size 66 3 v K.length (ecs K)∧Ext w w':=by
  have hq:=fun (w:World) (a:Option Addr) (n c n' c':Nat)=>Lib.run_eql_slice_nil (P:=Tryz.prog) w 42 66 a n c n' c' Tryz.underlying42
  have b1:=hx.fits;have b2:=hx.bound
  have hl:=hx.len
  have hnil:=hx.nil
  obtain ⟨i,hi,hz,hsize,hby⟩:=info_parts Tryz.infoEnH
  have HI:=Lib.hid hi;have HZ:=Lib.hid hz;have HSz:=Lib.hid hsize;have HBy:=Lib.hid hby
  have HX0:=Lib.hid (Ext.refl w)
  cases ao with
  | none=>
    obtain rfl:cap=0:=hnil rfl
    obtain rfl:n=0:=by omega
    obtain rfl:K=[]:=List.eq_nil_of_length_eq_zero hl
    clear hx hl hnil hi hz hsize hby
    go_enter Tryz.func140,Tryz.ntmps140
    go_wp2_with fail
    go_ret
    exact ⟨_,rfl,World.ownsRow_nil _ _ _ _,HX0.out⟩
  | some a=>
    have hrow0:(w.alloc (.cells #[] 66)).ownsRow w.heap.size 66 3 (.slice (some ⟨w.heap.size,0,none⟩) 0 0) 0 []:=⟨rfl,.inr ⟨w.heap.size,0,#[],rfl,Nat.le_refl _,Blk.new w _ _,Nat.le_refl _,by unfold maxLen;omega,rfl,rfl⟩⟩
    have HR0:=Lib.hid hrow0
    have HX1:=Lib.hid (q0C w (.cells #[] 66))
    by_cases h0:n=0
    · subst h0
      obtain rfl:K=[]:=List.eq_nil_of_length_eq_zero hl
      clear hx hl hnil hi hz hsize hby hrow0
      go_enter Tryz.func140,Tryz.ntmps140
      go_wp2_with fail
      go_ret
      exact ⟨_,rfl,HR0.out,HX1.out⟩
    · have HNews:Hid (∀j u,(ecs K)[j]?=some u→(w.alloc (.cells #[] 66)).cell? (a.add j)=some u):=Lib.hid fun j u hj=>by
        obtain ⟨b,off,e,h⟩:=(hx.ext HX1.out).rd j u hj
        cases e
        rw[Addr.add_lit];exact h
      have HL:=Lib.hid hl
      have HLe:Hid ((ecs K).length=n*3):=Lib.hid (by rw[q1v,hl])
      clear hx hl hnil hi hz hsize hby hrow0
      go_enter Tryz.func140,Tryz.ntmps140
      go_wp2_with (at_builtin;refine wpList_append_lies _ rfl _ _ 42 rfl w.heap.size 66 i _ 3 24 Tryz.underlying42 HI.out HZ.out HSz.out HBy.out (by decide) (by decide) _ 0 [] (by simp[Act.eval]) HR0.out a n cap (ecs K) (by simp[Act.eval]) HLe.out HNews.out (q4M K) (by omega) (by unfold maxLen;omega) (by omega) HX1.out.size _ rfl ?_;intro g cap1 w1 hown hgrow hat hlt2;have HOw:=Lib.hid hown;have HGr:=Lib.hid hgrow;clear hown hgrow hat)
      go_wp2_with fail
      go_ret
      refine ⟨_,rfl,by have:=HOw.out;rw[HL.out];simpa using this,HX1.out.grown HGr.out HX1.out.size (fun q hq=>by cases hq;exact Nat.le_refl _)⟩
end Go.Proofs.YtmajfklnagdlpaaGreatDoor
namespace Go.Proofs.YtmajfklnagdlpaaGreatDoor
open Go.RowKit
set_option maxRecDepth 100000
set_option linter.unusedVariables false
set_option maxHeartbeats 12800000
end Go.Proofs.YtmajfklnagdlpaaGreatDoor
namespace Go.Proofs.YtmajfklnagdlpaaGreatDoor
def q3Z (e:En) (L:List En):List En:=if e∈L then L else L.take (lbE L e)++e::L.drop (lbE L e)
theorem mem_addE {e x:En} {L:List En}:x∈q3Z e L↔x=e∨x∈L:=by
  unfold q3Z
  split
  · next h=>
    constructor
    · exact .inr
    · rintro (rfl|h1)
      · exact h
      · exact h1
  · rw [List.mem_append,List.mem_cons]
    constructor
    · rintro (h1|h1|h1)
      · exact .inr (List.mem_of_mem_take h1)
      · exact .inl h1
      · exact .inr (List.mem_of_mem_drop h1)
    · rintro (h1|h1)
      · exact .inr (.inl h1)
      · rw[←List.take_append_drop (lbE L e) L,List.mem_append] at h1
        rcases h1 with h1|h1
        · exact .inl h1
        · exact .inr (.inr h1)
theorem z4R {L:List En} (hs:q2R L) (e:En): ∀x∈L.take (lbE L e),q1b x e=true:=fun x hx=>by
  obtain ⟨i,hi,rfl⟩:=List.getElem_of_mem hx
  rw[List.length_take] at hi
  rw[List.getElem_take,q6u e hs (List.getElem?_eq_getElem (by omega)),decide_eq_true (by omega)]
theorem z3J {L:List En} (hs:q2R L) (e:En): ∀x∈L.drop (lbE L e),q1b x e=false:=fun x hx=>by
  obtain ⟨i,hi,rfl⟩:=List.getElem_of_mem hx
  rw[List.length_drop] at hi
  rw[List.getElem_drop,q6u e hs (List.getElem?_eq_getElem (by omega)),decide_eq_false (by omega)]
theorem q9b {e:En} {L:List En} (hs:q2R L):q2R (q3Z e L):=by
  unfold q3Z
  split
  · exact hs
  · next hn=>
    refine List.pairwise_append.2 ⟨hs.sublist (List.take_sublist _ _),List.pairwise_cons.2 ⟨fun x hx=>?_,hs.sublist (List.drop_sublist _ _)⟩,fun x hx y hy=>?_⟩
    · cases h:q1b e x with
      |true=>rfl
      |false=>exact absurd (q6G (z3J hs e x hx) h▸List.mem_of_mem_drop hx) hn
    · rcases List.mem_cons.1 hy with rfl|hy
      · exact z4R hs _ x hx
      · have h1:=z4R hs e x hx
        have h2:=z3J hs e y hy
        cases h:q1b x y with
        |true=>rfl
        | false=>
          cases h3:q1b y x with
          |true=>rw[q2i h3 h1] at h2;cases h2
          |false=>rw[q6G h h3,h2] at h1;cases h1
theorem z7J {e:En} {L:List En} (he:q4p e=true) (ho: ∀x∈L,q4p x=true): ∀x∈q3Z e L,q4p x=true:=fun x hx=>by
  rcases mem_addE.1 hx with rfl|h
  · exact he
  · exact ho x h
theorem z0C {e:En} {L:List En}:(q3Z e L).length=if e∈L then L.length else L.length+1:=by
  unfold q3Z
  have:=z1F L e
  split
  · rfl
  · rw[List.length_append,List.length_cons,List.length_take,List.length_drop];omega
theorem z3N {e:En} {L:List En}:(q3Z e L).length≤L.length+1:=by rw[z0C];split<;>omega
theorem z8S {e:En} {L:List En} (hs:q2R L):e∈L↔ ∃h:lbE L e<L.length,L.getD (lbE L e) en0=e:=by
  constructor
  · intro hm
    obtain ⟨i,hi,h⟩:=List.getElem_of_mem hm
    have h1:=q6u e hs (List.getElem?_eq_getElem hi)
    rw[h,q2H] at h1
    have h2:lbE L e≤i:=by have:=of_decide_eq_false h1.symm;omega
    refine ⟨by omega,?_⟩
    rw[List.getD_eq_getElem?_getD,List.getElem?_eq_getElem (by omega)]
    show L[lbE L e]=e
    rcases Nat.lt_or_ge (lbE L e) i with h3|h3
    · have h4:=List.pairwise_iff_getElem.1 hs _ _ (by omega) hi h3
      have h5:=q6u e hs (List.getElem?_eq_getElem (i:=lbE L e) (by omega))
      rw[h] at h4
      rw[h4,decide_eq_false (by omega)] at h5
      cases h5
    · have h4:lbE L e=i:=by omega
      simp only[h4,h]
  · rintro ⟨h,h1⟩
    rw[List.getD_eq_getElem?_getD,List.getElem?_eq_getElem h] at h1
    rw[←h1]
    exact List.getElem_mem h
theorem z6u {L:List En} (e:En) (hp:0≤e.2.2):lbE L (e.1,e.2.1,0)≤lbE L e:=by
  unfold lbE
  rw[←List.countP_eq_length_filter,←List.countP_eq_length_filter]
  refine List.countP_mono_left fun x _ hx=>?_
  rw[lessE_iff] at hx⊢
  simp only at hx⊢
  omega
end Go.Proofs.YtmajfklnagdlpaaGreatDoor
namespace Go.Proofs.YtmajfklnagdlpaaGreatDoor
def q4H (Ls:List (List En)):List En:=Ls.flatten.foldr q3Z []
theorem q7j (Ls:List (List En)):q2R (q4H Ls):=by
  unfold q4H
  induction Ls.flatten with
  |nil=>exact List.Pairwise.nil
  |cons a l ih=>exact q9b ih
theorem mem_union {Ls:List (List En)} {x:En}:x∈q4H Ls↔ ∃L∈Ls,x∈L:=by
  rw[←List.mem_flatten]
  unfold q4H
  induction Ls.flatten with
  |nil=>simp
  |cons a l ih=>rw[List.foldr_cons,mem_addE,ih,List.mem_cons]
end Go.Proofs.YtmajfklnagdlpaaGreatDoor
namespace Go.Proofs.YtmajfklnagdlpaaGreatDoor
open Go.RowKit
structure EGo (w:World) (B:Nat) (v:Value) (vs:List Value) (Ls:List (List En)):Prop where
  own:w.ownsRow B 42 1 v Ls.length vs
  row: ∀i,w.ownsRow B 66 3 (vs.getD i (.slice none 0 0)) (Ls.getD i []).length (ecs (Ls.getD i []))
section
variable {w w':World} {B B':Nat} {v v' x:Value} {vs:List Value} {Ls:List (List En)} {M:List En}
theorem EGo.nil (w:World) (B:Nat):EGo w B (.slice none 0 0) [] []:=⟨World.ownsRow_nil _ _ _ _,fun i=>by simpa [ecs] using World.ownsRow_nil w B 66 3⟩
theorem EGo.same (h:EGo w B v vs Ls) (k: ∀i,(v.ownBlock=some i∨ ∃q,(vs.getD q (.slice none 0 0)).ownBlock=some i)→w'.heap[i]?=w.heap[i]?):EGo w' B v vs Ls:=
  ⟨q2T h.own fun i hi=>k i (.inl hi),fun q=>q2T (h.row q) fun i hi=>k i (.inr ⟨q,hi⟩)⟩
end
end Go.Proofs.YtmajfklnagdlpaaGreatDoor
