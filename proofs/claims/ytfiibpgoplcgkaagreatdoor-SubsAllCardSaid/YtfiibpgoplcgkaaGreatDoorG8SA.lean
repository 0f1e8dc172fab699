/- Plain laws. -/
import Derived.Test.YtfiibpgoplcgkaaGreatDoorG3SA
import Derived.Lib.ItoaNum
import Derived.Shelf.Strconv.Itoa3
import Derived.Shelf.Strings.Search1
import Derived.Test.YtfiibpgoplcgkaaGreatDoorG6SA
import Derived.Test.YtfiibpgoplcgkaaGreatDoorG7SA
import Derived.Lib.AppendIntMem
set_option linter.unusedVariables false
set_option linter.unusedSimpArgs false
set_option maxRecDepth 100000
set_option maxHeartbeats 6400000
namespace Go.Proofs.YtfiibpgoplcgkaaGreatDoor
variable {n:Nat}
open Go.RowKit
theorem y0b(h:n<10):(UInt8.ofNat (48+n)).toNat=48+n:=by
 have:=q4b n
 rwa [Nat.mod_eq_of_lt h] at this
theorem q6h(h:n<10):q1Z (UInt8.ofNat (48+n))=true:=by
 unfold q1Z;rw[y0b h,Ξ,decide_eq_true_iff,decide_eq_true_iff];omega
theorem y0Z(n:Nat):(Lib.decDigits n).all q1Z=true:=by
 induction n using Nat.strongRecOn with
 | _ n ih=>
  by_cases h:n<10
  ·rw[Lib.decDigits_one h,List.all_cons,q6h h];rfl
  ·rw[Lib.decDigits,dif_neg h,List.all_append,ih (n/10) (by omega),List.all_cons,q6h (Nat.mod_lt _ (by decide))];rfl
theorem y2B(n:Nat):Lib.decDigits n≠[]:=fun e=>by
 have h:=Lib.decDigits_length n;rw[e] at h;have:=Lib.nDigits_pos n;simp at h;omega
theorem z7x(n:Nat):unD (Lib.decDigits n)=n:=by
 induction n using Nat.strongRecOn with
 | _ n ih=>
  by_cases h:n<10
  ·rw[Lib.decDigits_one h,z0R,y0b h];simp[unD]
  ·rw[Lib.decDigits,dif_neg h,z4Q,ih (n/10) (by omega),y0b (Nat.mod_lt _ (by decide))];omega
theorem z0n(h:n<10000000000):(Lib.decDigits n).length<=10:=by
 have H : ∀k n:Nat,n<10^(k+1)->(Lib.decDigits n).length<=k+1:=fun k=>by
  induction k with
  |zero=>intro n b;rw[Lib.decDigits_one (by simpa using b)];simp
  | succ k ih=>
   intro n b;by_cases h:n<10
   ·rw[Lib.decDigits_one h];simp
   ·rw[Lib.decDigits,dif_neg h,θ,List.length_singleton]
    have:=ih (n/10) (by rw[Nat.pow_succ] at b;omega);omega
 exact H 9 n (by simpa using h)
end Go.Proofs.YtfiibpgoplcgkaaGreatDoor
namespace Go.Proofs
open Go.Shelf
def Tryz.itoa171_ren :Go.Shelf.Ren:=⟨fun|171=>95|243=>155|246=>219|283=>273|284=>274|285=>275|286=>276|129=>255|317=>318|318=>319|319=>320|320=>321|337=>338|338=>339|n=>n,fun|3=>3|9=>9|2=>2|4=>4|171=>351|0=>0|53=>23|37=>75|5=>5|173=>353|212=>399|51=>269|20=>20|213=>400|46=>272|232=>425|233=>426|n=>n,fun|17=>3|18=>4|19=>5|n=>n⟩
theorem Tryz.itoa171 :Go.Proofs.LaysM.n171 Tryz.prog Tryz.itoa171_ren:={
 mixed:=by kernel_rfl
 f129:=Tryz.func255.trans (congrArg some (by kernel_rfl))
 f171:=Tryz.func95.trans (congrArg some (by kernel_rfl))
 f243:=Tryz.func155.trans (congrArg some (by kernel_rfl))
 f246:=Tryz.func219.trans (congrArg some (by kernel_rfl))
 f283:=Tryz.func273.trans (congrArg some (by kernel_rfl))
 f284:=Tryz.func274.trans (congrArg some (by kernel_rfl))
 f285:=Tryz.func275.trans (congrArg some (by kernel_rfl))
 f286:=Tryz.func276.trans (congrArg some (by kernel_rfl))
 f317:=Tryz.func318.trans (congrArg some (by kernel_rfl))
 f318:=Tryz.func319.trans (congrArg some (by kernel_rfl))
 f319:=Tryz.func320.trans (congrArg some (by kernel_rfl))
 f320:=Tryz.func321.trans (congrArg some (by kernel_rfl))
 f337:=Tryz.func338.trans (congrArg some (by kernel_rfl))
 f338:=Tryz.func339.trans (congrArg some (by kernel_rfl))
 t0:=Tryz.underlying0
 a0:=Tryz.isAgg0
 z0:=Tryz.sizeOf0
 v0:=Tryz.zeroValue0
 t2:=Tryz.underlying2
 a2:=Tryz.isAgg2
 z2:=Tryz.sizeOf2
 v2:=Tryz.zeroValue2
 t3:=Tryz.underlying3
 a3:=Tryz.isAgg3
 z3:=Tryz.sizeOf3
 v3:=Tryz.zeroValue3
 t4:=Tryz.underlying4
 a4:=Tryz.isAgg4
 z4:=Tryz.sizeOf4
 v4:=Tryz.zeroValue4
 t5:=Tryz.underlying5
 a5:=Tryz.isAgg5
 z5:=Tryz.sizeOf5
 v5:=Tryz.zeroValue5
 t9:=Tryz.underlying9
 a9:=Tryz.isAgg9
 z9:=Tryz.sizeOf9
 v9:=Tryz.zeroValue9
 t20:=Tryz.underlying20
 a20:=Tryz.isAgg20
 z20:=Tryz.sizeOf20
 v20:=Tryz.zeroValue20
 t37:=Tryz.underlying75
 a37:=Tryz.isAgg75
 z37:=Tryz.sizeOf75
 v37:=Tryz.zeroValue75
 t46:=Tryz.underlying272
 a46:=Tryz.isAgg272
 z46:=Tryz.sizeOf272
 v46:=Tryz.zeroValue272
 t51:=Tryz.underlying269
 a51:=Tryz.isAgg269
 z51:=Tryz.sizeOf269
 v51:=Tryz.zeroValue269
 t53:=Tryz.underlying23
 a53:=Tryz.isAgg23
 z53:=Tryz.sizeOf23
 v53:=Tryz.zeroValue23
 t171:=Tryz.underlying351
 a171:=Tryz.isAgg351
 z171:=Tryz.sizeOf351
 v171:=Tryz.zeroValue351
 t173:=Tryz.underlying353
 a173:=Tryz.isAgg353
 z173:=Tryz.sizeOf353
 v173:=Tryz.zeroValue353
 t212:=Tryz.underlying399
 a212:=Tryz.isAgg399
 z212:=Tryz.sizeOf399
 v212:=Tryz.zeroValue399
 t213:=Tryz.underlying400
 a213:=Tryz.isAgg400
 z213:=Tryz.sizeOf400
 t232:=Tryz.underlying425
 a232:=Tryz.isAgg425
 z232:=Tryz.sizeOf425
 v232:=Tryz.zeroValue425
 t233:=Tryz.underlying426
 a233:=Tryz.isAgg426
 z233:=Tryz.sizeOf426
 v233:=Tryz.zeroValue426
 g17:=by kernel_rfl
 g18:=by kernel_rfl
 g19:=by kernel_rfl
 i0:=by kernel_rfl
 i2:=by kernel_rfl
 i3:=by kernel_rfl
 i4:=by kernel_rfl
 i5:=by kernel_rfl
 i9:=by kernel_rfl
 i20:=by kernel_rfl
 i37:=by kernel_rfl
 i46:=by kernel_rfl
 i51:=by kernel_rfl
 i53:=by kernel_rfl
 i171:=by kernel_rfl
 i173:=by kernel_rfl
 i212:=by kernel_rfl
 i232:=by kernel_rfl
 i233:=by kernel_rfl
 m17:=by kernel_rfl
 m18:=by kernel_rfl
 m19:=by kernel_rfl}
end Go.Proofs
namespace Go.Proofs.YtfiibpgoplcgkaaGreatDoor
open Go.RowKit
abbrev TabW(w:World):Prop:=Lib.TabIs Tryz.prog w "internal/strconv.uint64pow10" .u64 Lib.pow10Tab
theorem TabW.ext{w w':World}(h:TabW w)(k:Ext w w'):TabW w':=Lib.tabBelow_of_tabIs h w' k
theorem y0C(n:Nat)(j:n<=1073741825)(w:World)(d:TabW w):Calls Tryz.prog 95 #[.int .i64 (n:Int)] w fun e w'=>e= .returned (.string ⟨(Lib.decDigits n).toArray⟩)/\Ext w w':=by
 refine(Any.strconv_Itoa Tryz.itoa171 (n:Int) (by omega) (by omega) w d).mono ?_;rintro e w' ⟨rfl,k,os,rfl⟩;refine⟨by rw[Lib.itoa_nonneg],?_⟩;exact(Ext.refl _).drewN k|>.trans ⟨rfl,rfl,rfl,by show(w.drewN k).heap.size<=((w.drewN k).heap++os).size;rw[Array.size_append];omega,fun i b=>Array.getElem?_append_left b⟩
end Go.Proofs.YtfiibpgoplcgkaaGreatDoor
