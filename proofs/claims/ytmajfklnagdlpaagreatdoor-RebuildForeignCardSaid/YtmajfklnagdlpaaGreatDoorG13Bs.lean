/- Walks: how large filters are; which bit a probe asks. -/
import Derived.Test.YtmajfklnagdlpaaGreatDoorG4Bs
import Derived.Laws.FloatArith
set_option linter.unusedVariables false
set_option linter.unusedSimpArgs false
namespace Go.Proofs.YtmajfklnagdlpaaGreatDoor
open Go.RowKit
set_option maxRecDepth 100000
set_option linter.unusedVariables false
set_option maxHeartbeats 6400000
def q9N (k:Nat):Nat:=4607182418800017408-k*4503599627370496
theorem z5o :((List.range 16).all fun k=>floatBits .quo .f64 (q9N k) 4611686018427387904==some (q9N (k+1)))=true:=by kernel_rfl
theorem z4Q (k:Nat) (hk:k<16):floatBits .quo .f64 (q9N k) 4611686018427387904=some (q9N (k+1)):=by
  have h:=List.all_eq_true.1 z5o k (List.mem_range.2 hk)
  simpa using h
theorem z6z (w:World) (x:Nat):Calls Tryz.prog 268 #[.float .f64 x] w fun r w'=> ∃b:Bool,r= .returned (.bool b)∧w=w':=by
  go_enter Tryz.func268,Tryz.ntmps268
  go_wp2_with fail
  go_ret
  exact ⟨_,rfl,rfl⟩
theorem z6C (w:World) (x:Nat):Calls Tryz.prog 245 #[.float .f64 x] w fun r w'=> ∃p:Nat,r= .returned (.int .i64 (p:Int))∧1≤p∧p≤16∧w=w':=by
  have HI:=Lib.hid (fun W=>z6z W x)
  have HH:Hid (∀(W:World) (k:Nat),k<16→(binOp .quo 36 (.float .f64 (q9N k)) (.float .f64 4611686018427387904)).run Tryz.prog W= .ok (.float .f64 (q9N (k+1))) W):=Lib.hid (fun W k hk=>run_float_arith W .quo _ .f64 _ _ _ (z4Q k hk))
  have h00:Value.float .f64 4607182418800017408=Value.float .f64 (q9N 0):=rfl
  have H00:=Lib.hid h00
  clear h00
  go_enter Tryz.func245,Tryz.ntmps245
  go_wp2_with fail
  go_step3
  go_wp2_with fail
  refine (HI.out _).mono ?_
  rintro e w1 ⟨b,rfl,rfl⟩
  cases b with
  | true=>
    go_wp2_with fail
    (try rw[Exit.noGoto_ret])
    go_ret
    exact ⟨4,rfl,by omega,by omega,rfl⟩
  | false =>
    go_wp2_with fail
    go_step3
    go_wp2_with fail
    go_loopw [3,4] (fun a b W=> ∃k:Nat,k≤16∧a= .float .f64 (q9N k)∧b= .int .i64 (k:Int)∧W=w) (fun _ b _=>16-(intOf b).toNat)
    case atStart=>exact ⟨0,by omega,H00.out,rfl,rfl⟩
    case round=>
      obtain ⟨k,hk,rfl,rfl,rfl⟩:=hrel
      by_cases hlt:k<16
      · have hd:decide ((k:Int)<16)=true:=by simp;omega
        have hq:=HH.out wr k hlt
        go_wp2_with fail
        · rw[Exit.noGoto_ret]
          go_ret
          exact ⟨k+1,by go_num,by omega,by omega,rfl⟩
        · refine ⟨⟨k+1,by omega,rfl,by go_num,trivial⟩,?_⟩
          simp[intOf];omega
      · have hd:decide ((k:Int)<16)=false:=by simp;omega
        go_wp2_with fail
        rw[Exit.noGoto_ret]
        go_ret
        exact ⟨k,rfl,by omega,by omega,rfl⟩
theorem z7W (w:World) (n p:Nat) (hn:n≤1000) (h1:1≤p) (h16:p≤16):Calls Tryz.prog 246 #[.int .i64 (n:Int),.int .i64 (p:Int)] w fun r w'=> ∃g:Nat,r= .returned (.int .i64 (g:Int))∧1≤g∧g≤n/20+1∧w=w':=by
  have a1:¬((n:Int)<0):=by omega
  have a2:¬((10000:Int)<(n:Int)):=by omega
  have a3:¬((p:Int)<1):=by omega
  have a4:¬((16:Int)<(p:Int)):=by omega
  obtain ⟨q,hq⟩: ∃q:Int,(n:Int)*(p:Int)=q:=⟨_,rfl⟩
  have q0:0≤q:=by rw[←hq];exact Int.mul_nonneg (by omega) (by omega)
  have q1:q≤16*(n:Int):=by
    have h:=Nat.mul_le_mul_left n h16
    have e:(n:Int)*(p:Int)=((n*p:Nat):Int):=by push_cast;rfl
    rw[←hq,e];omega
  have e1:IntKind.i64.wrap q=q:=by rw[IntKind.wrap_i64];omega
  have e2:IntKind.i64.wrap (q*3)=q*3:=by rw[IntKind.wrap_i64];omega
  obtain ⟨z,hz⟩: ∃z:Int,(q*3).tdiv 2=z:=⟨_,rfl⟩
  have hz':=hz
  rw[Int.tdiv_eq_ediv_of_nonneg (by omega)] at hz'
  have z0:0≤z∧z≤24*(n:Int):=by omega
  have e3:IntKind.i64.wrap z=z:=by rw[IntKind.wrap_i64];omega
  have e4:IntKind.i64.wrap (z+480)=z+480:=by rw[IntKind.wrap_i64];omega
  have e5:IntKind.i64.wrap (z+480-1)=z+480-1:=by rw[IntKind.wrap_i64];omega
  obtain ⟨y,hy⟩: ∃y:Int,(z+480-1).tdiv 480=y:=⟨_,rfl⟩
  have hy':=hy
  rw[Int.tdiv_eq_ediv_of_nonneg (by omega)] at hy'
  have y0:0≤y∧y≤(n:Int)/20+1:=by omega
  have e6:IntKind.i64.wrap y=y:=by rw[IntKind.wrap_i64];omega
  clear hy' hz'
  go_enter Tryz.func246,Tryz.ntmps246
  go_wp2_with fail
  all_goals
    go_ret
    first
      |exact ⟨1,rfl,by omega,by omega,rfl⟩
      |exact ⟨y.toNat,by show _=Ending.returned (.int .i64 (y.toNat:Int));rw[Int.toNat_of_nonneg y0.1];rfl,by omega,by omega,rfl⟩
def z9v (h:Int):Int:=bits .or .u64 (IntKind.u64.wrap (h*140737488355328)) (h/131072)
theorem z8r (w:World) (h:Int):Calls Tryz.prog 288 #[.int .u64 h,.int .i64 (-17)] w fun r w'=>r= .returned (.int .u64 (z9v h))∧w=w':=by
  have e0:IntKind.u64.wrap (-17)=18446744073709551599:=by kernel_rfl
  have e1:bits .and .u64 18446744073709551599 63=47:=by kernel_rfl
  have e2:IntKind.u64.wrap (64-47)=17:=by kernel_rfl
  go_enter Tryz.func288,Tryz.ntmps288
  go_wp2_with fail
  go_ret
  exact ⟨rfl,rfl⟩
def z7y (h:Int):Int:=bits .or .u64 (z9v h) 1
theorem z7X (w:World) (h:Int):Calls Tryz.prog 277 #[.int .u64 h] w fun r w'=>r= .returned (.int .u64 (z7y h))∧w=w':=by
  have HR:=Lib.hid (fun W=>z8r W h)
  go_enter Tryz.func277,Tryz.ntmps277
  go_wp2_with fail
  refine (HR.out _).mono ?_
  rintro e w1 ⟨rfl,rfl⟩
  go_wp2_with fail
  go_ret
  exact ⟨rfl,rfl⟩
def q4o (h i b:Int):Int:=IntKind.u64.wrap (h+IntKind.u64.wrap (i*z7y h)) % b
theorem q6d (h i b:Int) (hb:1≤b):0≤q4o h i b∧q4o h i b<b:=⟨Int.emod_nonneg _ (by omega),Int.emod_lt_of_pos _ (by omega)⟩
theorem z3h (w:World) (h:Int) (i b:Nat) (hi:i≤1000000) (hb:1≤b) (hb9:b≤1000000):Calls Tryz.prog 260 #[.int .u64 h,.int .i64 (i:Int),.int .i64 (b:Int)] w fun r w'=>r= .returned (.int .i64 (q4o h i b))∧w=w':=by
  have HR:=Lib.hid (fun W=>z7X W h)
  have a1:¬((b:Int)<1):=by omega
  have a2:¬((i:Int)<0):=by omega
  have e1:IntKind.u64.wrap (i:Int)=(i:Int):=by rw[IntKind.wrap_u64];omega
  have e2:IntKind.u64.wrap (b:Int)=(b:Int):=by rw[IntKind.wrap_u64];omega
  obtain ⟨T,hT⟩: ∃T,IntKind.u64.wrap (h+IntKind.u64.wrap ((i:Int)*z7y h))=T:=⟨_,rfl⟩
  have hT0:0≤T∧T<18446744073709551616:=by rw[←hT,IntKind.wrap_u64];omega
  have e3:Int.tmod T (b:Int)=T % (b:Int):=Int.tmod_eq_emod_of_nonneg hT0.1
  have hl:=q6d h i b (by omega)
  have HP:Hid (q4o h i b=T % (b:Int)):=Lib.hid (by unfold q4o;rw[hT])
  rw[HP.out] at hl
  obtain ⟨z,hz⟩: ∃z,T % (b:Int)=z:=⟨_,rfl⟩
  rw[hz] at hl HP
  have e4:IntKind.u64.wrap z=z:=by rw[IntKind.wrap_u64];omega
  have e5:IntKind.i64.wrap z=z:=by rw[IntKind.wrap_i64];omega
  have e6:((b:Int)==0)=false:=by simp;omega
  have e7:¬((b:Int)=0):=by omega
  rw[hz] at e3
  clear hz
  rw[HP.out]
  go_enter Tryz.func260,Tryz.ntmps260
  go_wp2_with fail
  refine (HR.out _).mono ?_
  rintro e w1 ⟨rfl,rfl⟩
  go_wp2_with fail
  go_ret
  exact ⟨rfl,rfl⟩
end Go.Proofs.YtmajfklnagdlpaaGreatDoor
