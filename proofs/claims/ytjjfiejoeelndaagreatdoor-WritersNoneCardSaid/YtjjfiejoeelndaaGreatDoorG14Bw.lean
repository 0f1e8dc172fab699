/- Walks: the entry of some bytes. Walks: the entries of a table's bytes. Walks: midpoints. Walks: from where to where an entry may stand. -/
import Derived.Test.YtjjfiejoeelndaaGreatDoorG10Bw
import Derived.Test.YtjjfiejoeelndaaGreatDoorG12Bw
import Derived.Test.YtjjfiejoeelndaaGreatDoorG13Bw
set_option linter.unusedVariables false
set_option linter.unusedSimpArgs false
namespace Go.Proofs.YtjjfiejoeelndaaGreatDoor
open Go.RowKit
set_option maxRecDepth 100000
set_option linter.unusedVariables false
set_option maxHeartbeats 6400000
def q6N (s:List UInt8):Value:=match q9R s with
  |none=> .tuple #[enV en0,.bool false]
  |some e=> .tuple #[enV e,.bool true]
theorem q0m {fn:Func} {p u:Tmp} {ty:TypeId} (h:fn.results=#[.cell p ty,.tmp u]) (tmps:Array Value) (P:Program) (w:World):
    (results fn tmps).run P w=
      ((asAddr (tmps.getD p undef)).run P w).andThen fun a w₁=>((loadVar ty a).run P w₁).andThen fun v w₂=> .ok (.tuple #[v,tmps.getD u undef]) w₂:=by
  simp only[results,h]
  simp[Sem.run_bind,Result.andThen]
theorem q5n {X W':World} {cs:Array Value} {t:TypeId} (h:Ext (X.alloc (.cells cs t)) W'):Blk W' X.heap.size t cs:=(Blk.new X t cs).ext h
theorem z1C {X W':World} {cs:Array Value} {t:TypeId} (h:Ext (X.alloc (.cells cs t)).drew W'):Blk W' X.heap.size t cs:=(show Blk (X.alloc (.cells cs t)).drew X.heap.size t cs from Blk.new X t cs).ext h
theorem q8W (s : List UInt8) (w:World) (hl:s.length≤4611686018427387903):Calls Tryz.prog 189 #[.string ⟨s.toArray⟩] w fun r w'=>r= .returned (q6N s)∧Ext w w':=by
  have hb0:=Blk.new w 108 #[.int .u64 0,.int .i64 0,.int .i64 0]
  by_cases h24:s.length=24
  case neg=>
    have HM:Hid (q6N s= .tuple #[.agg #[.int .u64 0,.int .i64 0,.int .i64 0],.bool false]):=Lib.hid (by unfold q6N q9R;rw[if_neg (fun h=>h24 h.1)];rfl)
    have hn:((s.length:Int) !=24)=true:=by simp;omega
    go_enter Tryz.func189,Tryz.ntmps189
    go_wp2_with fail
    ((try simp only[Exit.inBlock,Exit.then]);refine bodyPost_ret (v:= .tuple #[.agg #[_,_,_],_]) (by rw[results_cell_tmp rfl];go_simp;exact ⟨⟨rfl,rfl,rfl⟩,rfl⟩) rfl ?_)
    rw[HM.out]
    exact ⟨rfl,q0B _ _⟩
  obtain ⟨X,hX⟩: ∃X,s.take 8=X:=⟨_,rfl⟩
  obtain ⟨Y,hY⟩: ∃Y,(s.drop 8).take 8=Y:=⟨_,rfl⟩
  obtain ⟨Z,hZ⟩: ∃Z,s.drop 16=Z:=⟨_,rfl⟩
  have lX:X.length=8:=by rw[←hX];simp;omega
  have lY:Y.length=8:=by rw[←hY];simp;omega
  have lZ:Z.length=8:=by rw[←hZ];simp;omega
  have sX:=q4P s 8 8 rfl (by omega)
  have sY:=q2y s 8 16 8 16 rfl rfl (by omega) (by omega) (X:=Y) (by rw[←hY];exact q5X s 8 8)
  have sZ:=q2n s 16 16 rfl (by omega)
  rw[hX] at sX
  rw[hZ] at sZ
  have uX:(q1C (X.take 8):Int)=(q1C X:Int):=by rw[List.take_of_length_le (by omega)]
  have uY:(q1C (Y.take 8):Int)=(q1C Y:Int):=by rw[List.take_of_length_le (by omega)]
  have uZ:(q1C (Z.take 8):Int)=(q1C Z:Int):=by rw[List.take_of_length_le (by omega)]
  have bX:=q1l X;have bY:=q1l Y;have bZ:=q1l Z
  rw[lX] at bX;rw[lY] at bY;rw[lZ] at bZ
  have hgE:q9R s=if q1C Y≤9223372036854775807∧q1C Z≤9223372036854775807 then some ((q1C X:Int),(q1C Y:Int),(q1C Z:Int)) else none:=by
    unfold q9R
    rw[hX,hY,hZ]
    by_cases hc:q1C Y≤9223372036854775807∧q1C Z≤9223372036854775807
    · rw[if_pos ⟨h24,hc⟩,if_pos hc]
    · rw[if_neg (fun h=>hc h.2),if_neg hc]
  obtain ⟨x,hx⟩: ∃x:Int,(q1C X:Int)=x:=⟨_,rfl⟩
  obtain ⟨y,hy⟩: ∃y:Int,IntKind.i64.wrap (q1C Y:Int)=y:=⟨_,rfl⟩
  obtain ⟨z,hz⟩: ∃z:Int,IntKind.i64.wrap (q1C Z:Int)=z:=⟨_,rfl⟩
  have hy2:=hy;have hz2:=hz
  rw[IntKind.wrap_i64] at hy2 hz2
  have hyc:(q1C Y≤9223372036854775807∧y=(q1C Y:Int)∧0≤y)∨(9223372036854775807<q1C Y∧y<0):=by
    rcases Nat.lt_or_ge 9223372036854775807 (q1C Y) with h|h
    · right;omega
    · left;omega
  have hzc:(q1C Z≤9223372036854775807∧z=(q1C Z:Int)∧0≤z)∨(9223372036854775807<q1C Z∧z<0):=by
    rcases Nat.lt_or_ge 9223372036854775807 (q1C Z) with h|h
    · right;omega
    · left;omega
  have HV:Hid (q6N s=if 0≤y∧0≤z then .tuple #[.agg #[.int .u64 x,.int .i64 y,.int .i64 z],.bool true] else .tuple #[.agg #[.int .u64 0,.int .i64 0,.int .i64 0],.bool false]):=Lib.hid (by
    unfold q6N
    rw[hgE]
    by_cases hc:q1C Y≤9223372036854775807∧q1C Z≤9223372036854775807
    · rw[if_pos hc,if_pos (by omega)]
      rw[hx,show (q1C Y:Int)=y by omega,show (q1C Z:Int)=z by omega]
      rfl
    · rw[if_neg hc,if_neg (by omega)]
      rfl)
  rw[hx] at uX
  have UX:=Lib.hid uX
  generalize (q1C Y:Int)=uy at*
  generalize (q1C Z:Int)=uz at*
  have HW0:Hid (∀W,Ext (w.alloc (.cells #[.int .u64 0,.int .i64 0,.int .i64 0] 108)) W→Ext w W):=Lib.hid fun W h=>(q0B w _).trans h
  obtain ⟨w0,hw0⟩: ∃w0,w.alloc (.cells #[.int .u64 0,.int .i64 0,.int .i64 0] 108)=w0:=⟨_,rfl⟩
  have h24':((s.length:Int) !=24)=false:=by simp;omega
  have UY:=Lib.hid uY;have UZ:=Lib.hid uZ
  have LX:X.length≤9223372036854775807:=by omega
  have LY:Y.length≤9223372036854775807:=by omega
  have LZ:Z.length≤9223372036854775807:=by omega
  clear uX uY uZ hX hY hZ lX lY lZ bX bY bZ hgE hx hy2 hz2 hyc hzc hw0 hb0
  go_enter Tryz.func189,Tryz.ntmps189
  go_wp2_with fail
  have HC:=Lib.hid (Ext.refl (w.alloc (.cells #[.int .u64 0,.int .i64 0,.int .i64 0] 108)))
  go_region_law
    (go_simp; (go_at_call 154;refine (q8u _ _ (by assumption)).mono ?_;rintro e wa ⟨rfl,hb⟩;(first|rw[UX.out]|rw[UY.out]|rw[UZ.out]);
                        (first
                        |(have hc:=Ext.trans HC.out hb;(first|(replace bk:=bk.ext hb)|skip))
                        |(have hc:=Ext.trans HC.out.drew hb;(first|(replace bk:=bk.ext hb)|skip))
                        |(have hc:=Ext.trans (HC.out.alloc _) hb;have bk:=q5n hb;have hq:=HC.out.size)
                        |(have hc:=Ext.trans (HC.out.alloc _).drew hb;have bk:=z1C hb;have hq:=HC.out.size)
                        |(have hc:=Ext.trans (HC.out.drew.alloc _) hb;have bk:=q5n hb;have hq:=HC.out.size));
                        replace HC:=Lib.hid hc;have bR:=q5n hc;have r0:_=some (Value.int .u64 0):=bR.cell 0;have r1:_=some (Value.int .i64 0):=bR.cell 1;have r2:_=some (Value.int .i64 0):=bR.cell 2;have y0:=bR.free 0;have y1:=bR.free 1;have y2:=bR.free 2;have hs:=hc.size;rw[World.size_alloc] at hs;
                        (try rw[World.size_alloc] at hq);(try (first|rw[World.size_alloc] at bk|skip;have k0:_=some (Value.int .u64 0):=bk.cell 0;have k1:_=some (Value.int .i64 0):=bk.cell 1;have k2:_=some (Value.int .i64 0):=bk.cell 2;have z0:=bk.free 0;have z1:=bk.free 1;have z2:=bk.free 2));clear hb hc))
  all_goals
    have HV2:Hid (q6N s=if 0≤y∧0≤z then .tuple #[.agg #[.int .u64 x,.int .i64 y,.int .i64 z],.bool true] else .tuple #[.agg #[.int .u64 0,.int .i64 0,.int .i64 0],.bool false]):=HV
    have HX:=Lib.hid (HW0.out _ HC.out)
    have bA:=bR.ext (q0B wa (.cells #[.int .u64 x,.int .i64 y,.int .i64 z] 108))
    have ca0:(wa.alloc (.cells #[.int .u64 x,.int .i64 y,.int .i64 z] 108)).cell? ⟨w.heap.size,0,none⟩=some (Value.int .u64 0):=bA.cell 0
    have ca1:(wa.alloc (.cells #[.int .u64 x,.int .i64 y,.int .i64 z] 108)).cell? ⟨w.heap.size,1,none⟩=some (Value.int .i64 0):=bA.cell 1
    have ca2:(wa.alloc (.cells #[.int .u64 x,.int .i64 y,.int .i64 z] 108)).cell? ⟨w.heap.size,2,none⟩=some (Value.int .i64 0):=bA.cell 2
    have ya0:=bA.free 0;have ya1:=bA.free 1;have ya2:=bA.free 2
    by_cases hyz:0≤y∧0≤z
    · obtain ⟨y0',z0'⟩:=hyz
      have hd1:decide (y<0)=false:=by simp;omega
      have hd2:decide (z<0)=false:=by simp;omega
      go_wp2_with fail
      (try simp only[Exit.inBlock,Exit.then])
      refine bodyPost_ret (v:= .tuple #[.agg #[.int .u64 x,.int .i64 y,.int .i64 z],.bool true]) (by rw[results_cell_tmp rfl];go_simp) rfl ?_
      rw[HV2.out,if_pos ⟨y0',z0'⟩]
      refine ⟨rfl,?_⟩
      repeat (first|refine Below.setCell ?_ (by first|exact Nat.le_refl _|(simp;done)|(simp;omega)) _|refine Ext.alloc ?_ _|refine Ext.drew ?_)
      exact HX.out
    · have hcase:y<0∨(0≤y∧z<0):=by omega
      rcases hcase with hy0|⟨hy0,hz0⟩
      · have hd1:decide (y<0)=true:=by simpa using hy0
        go_wp2_with fail
        (try simp only[Exit.inBlock,Exit.then])
        refine bodyPost_ret (v:= .tuple #[.agg #[.int .u64 0,.int .i64 0,.int .i64 0],.bool false]) (by rw[results_cell_tmp rfl];go_simp) rfl ?_
        rw[HV2.out,if_neg hyz]
        refine ⟨rfl,?_⟩
        repeat (first|refine Below.setCell ?_ (by first|exact Nat.le_refl _|(simp;done)|(simp;omega)) _|refine Ext.alloc ?_ _|refine Ext.drew ?_)
        exact HX.out
      · have hd1:decide (y<0)=false:=by simp;omega
        have hd2:decide (z<0)=true:=by simpa using hz0
        go_wp2_with fail
        (try simp only[Exit.inBlock,Exit.then])
        refine bodyPost_ret (v:= .tuple #[.agg #[.int .u64 0,.int .i64 0,.int .i64 0],.bool false]) (by rw[results_cell_tmp rfl];go_simp) rfl ?_
        rw[HV2.out,if_neg hyz]
        refine ⟨rfl,?_⟩
        repeat (first|refine Below.setCell ?_ (by first|exact Nat.le_refl _|(simp;done)|(simp;omega)) _|refine Ext.alloc ?_ _|refine Ext.drew ?_)
        exact HX.out
end Go.Proofs.YtjjfiejoeelndaaGreatDoor
namespace Go.Proofs.YtjjfiejoeelndaaGreatDoor
open Go.RowKit
set_option maxRecDepth 100000
set_option linter.unusedVariables false
set_option maxHeartbeats 6400000
theorem Tryz.infoE :(Tryz.prog.info? 108).map (fun i=>(i.zero,i.size,i.bytes))=some (some (.agg #[.int .u64 0,.int .i64 0,.int .i64 0]),3,24):=by kernel_rfl
theorem z9i (n:Nat) (w:World) (hn:n≤1000000):Calls Tryz.prog 228 #[.int .i64 (n:Int)] w fun e w'=>e= .returned (.int .i64 (12+24*(n:Int)))∧w=w':=by
  have hd:decide ((89478484:Int)<(n:Int))=false:=by simp;omega
  go_enter Tryz.func228,Tryz.ntmps228
  go_wp2_with fail
  go_ret
  exact ⟨rn (by omega),rfl⟩
theorem y1p (n:Nat) (w:World) (hn:n≤1000000):Calls Tryz.prog 188 #[.int .i64 (n:Int)] w fun e w'=>e= .returned (.int .i64 (8+24*(n:Int)))∧w=w':=by
  have HS:=Lib.hid (fun W=>z9i n W hn)
  have hz:((12+24*(n:Int))==0)=false:=by simp;omega
  go_enter Tryz.func188,Tryz.ntmps188
  go_wp2_with fail
  refine (HS.out _).mono ?_
  rintro e w1 ⟨rfl,rfl⟩
  go_wp2_with fail
  go_ret
  exact ⟨rn (by omega),rfl⟩
def y0Z :Value→Nat| .string b=>b.size|_=>0
def y2Q (w:World) (r:Option (List En)) (e:Ending) (w':World):Prop:=
  match r with
  |none=>e= .returned (.tuple #[.slice none 0 0,.int .i64 90])∧Ext w w'
  |some l=> ∃v,e= .returned (.tuple #[v,.int .i64 0])∧w'.ownsRow w.heap.size 108 3 v l.length (ecs l)∧Ext w w'
theorem q5i : ∀(f g:Nat) (s:List UInt8),s.length<f→s.length<g→q1u f s=q1u g s
  |0,_,_,h,_=>by omega
  |_,0,_,_,h=>by omega
  | f + 1,g+1,s,h1,h2=>by
    unfold q1u
    by_cases hs:s=[]
    · rw[if_pos hs,if_pos hs]
    · rw [if_neg hs,if_neg hs]
      have hl:(s.drop 24).length<s.length:=by
        have:0<s.length:=List.length_pos_iff.2 hs
        rw[List.length_drop];omega
      cases q9R (s.take 24) with
      |none=>rfl
      |some e=>simp only;rw[q5i f g (s.drop 24) (by omega) (by omega)]
theorem y0V (s:List UInt8) (w:World) (hl:s.length≤1048576):Calls Tryz.prog 169 #[.string ⟨s.toArray⟩] w (y2Q w (q8S s)):=by
  have HO:=Lib.hid (fun W=>z2U s W (by omega))
  by_cases hob:q1m s=true
  case neg=>
    have hob':q1m s=false:=by simpa using hob
    have HN:Hid (q8S s=none):=Lib.hid (by unfold q8S;rw[if_neg (fun h=>hob h.1)])
    have hT:q1c s=[]:=by unfold q1c;rw[if_neg hob]
    rw[hob',hT] at HO
    clear hob hob' hT
    go_enter Tryz.func169,Tryz.ntmps169
    go_wp2_with fail
    refine (HO.out _).mono ?_
    rintro e w1 ⟨rfl,hb⟩
    have HB:=Lib.hid hb;clear hb
    go_wp2_with fail
    go_ret2
    rw[HN.out]
    exact ⟨rfl,HB.out⟩
  rw[hob] at HO
  have h4:4≤s.length:=by unfold q1m at hob;simp only[Bool.and_eq_true,decide_eq_true_eq] at hob;exact hob.1
  obtain ⟨T,hT⟩: ∃T,q1c s=T:=⟨_,rfl⟩
  have hT2:s.take (s.length-4)=T:=by rw[←hT];unfold q1c;rw[if_pos hob]
  have hTl:T.length=s.length-4:=by rw[←hT2,List.length_take];omega
  have htk:s.take 4=T.take 4∨T.length<4:=by
    rcases Nat.lt_or_ge T.length 4 with h|h
    · exact .inr h
    · left;rw[←hT2,List.take_take,Nat.min_eq_left (by omega)]
  rw[hT] at HO
  have hgT:q8S s=if 8≤T.length∧s.take 4=z1M∧(T.drop 8).length=q1C ((T.drop 4).take 4)*24 then (match q1u (s.length+1) (T.drop 8) with|none=>none|some l=>if q3u l then some l else none) else none:=by
    unfold q8S
    rw[hT2]
    by_cases hc:8≤T.length∧s.take 4=z1M∧(T.drop 8).length=q1C ((T.drop 4).take 4)*24
    · rw[if_pos hc,if_pos ⟨hob,by omega,hc.2.1,hc.2.2⟩]
      cases q1u (s.length+1) (T.drop 8) with
      |none=>rfl
      |some l=>rfl
    · rw[if_neg hc,if_neg (fun h=>hc ⟨by omega,h.2.2.1,h.2.2.2⟩)]
  have hT9:T.length≤1048576:=by omega
  have hTs:T.length≤s.length:=by omega
  clear hTl
  by_cases h8:8≤T.length
  case neg=>
    have HN:Hid (q8S s=none):=Lib.hid (by rw[hgT,if_neg (fun h=>h8 h.1)])
    have hd:decide ((T.length:Int)<8)=true:=by simp;omega
    clear hgT hT hT2 htk h8 hob
    go_enter Tryz.func169,Tryz.ntmps169
    go_wp2_with fail
    refine (HO.out _).mono ?_
    rintro e w1 ⟨rfl,hb⟩
    have HB:=Lib.hid hb;clear hb
    go_wp2_with fail
    go_ret2
    rw[HN.out]
    exact ⟨rfl,HB.out⟩
  have hd8:decide ((T.length:Int)<8)=false:=by simp;omega
  have htk4:s.take 4=T.take 4:=by
    rcases htk with h|h
    · exact h
    · omega
  rw[htk4] at hgT
  have sF:=q4P T 4 4 rfl (by omega)
  obtain ⟨A,hA⟩: ∃A,T.take 4=A:=⟨_,rfl⟩
  rw[hA] at sF hgT
  by_cases hAF:A=z1M
  case neg=>
    have HN:Hid (q8S s=none):=Lib.hid (by rw[hgT,if_neg (fun h=>hAF h.2.1)])
    have hne:(A==[112,116,97,98])=false:=by simpa [z1M] using hAF
    have hne':(A !=[112,116,97,98])=true:=by simpa [z1M] using hAF
    clear hgT hT hT2 htk h8 hob htk4 hA
    go_enter Tryz.func169,Tryz.ntmps169
    go_wp2_with fail
    refine (HO.out _).mono ?_
    rintro e w1 ⟨rfl,hb⟩
    have HB:=Lib.hid hb;clear hb
    go_wp2_with fail
    go_ret2
    rw[HN.out]
    exact ⟨rfl,HB.out⟩
  subst hAF
  obtain ⟨X,hX⟩: ∃X,(T.drop 4).take 4=X:=⟨_,rfl⟩
  have lX:X.length=4:=by rw[←hX];simp;omega
  have sX:=q2y T 4 8 4 8 rfl rfl (by omega) h8 (X:=X) (by rw[←hX];exact q5X T 4 4)
  have sR:=q2n T 8 8 rfl h8
  obtain ⟨R0,hR0⟩: ∃R0,T.drop 8=R0:=⟨_,rfl⟩
  have hR0l:R0.length+8=T.length:=by rw[←hR0,List.length_drop];omega
  rw[hX,hR0] at hgT
  rw[hR0] at sR
  have hG:=fun W=>q8u X W (by omega)
  rw[List.take_of_length_le (by omega)] at hG
  have bX:=q1l X
  rw[lX] at bX
  obtain ⟨m,hm⟩: ∃m:Nat,q1C X=m:=⟨_,rfl⟩
  rw[hm] at hG bX hgT
  have HG:=Lib.hid hG
  have hm4:m<4294967296:=bX
  have HGT:=Lib.hid hgT
  have hR9:R0.length≤1048576:=by omega
  have hwR:IntKind.u64.wrap (R0.length:Int)=(R0.length:Int):=by rw[IntKind.wrap_u64];omega
  have hwm:IntKind.u64.wrap ((m:Int)*24)=(m:Int)*24:=by rw[IntKind.wrap_u64];omega
  have hRs:R0.length<s.length+1:=by omega
  have h8':=h8
  clear hgT hG bX hT hT2 htk hob htk4 hA hX hR0 lX hR0l h8
  have hAe:(z1M==[112,116,97,98])=true:=by decide
  have hAe':(z1M !=[112,116,97,98])=false:=by decide
  have sF': ∀w,(Instr.slice 9 (.string ⟨T.toArray⟩) none (some (.int .i64 4)) none).run Tryz.prog w= .ok (.string ⟨#[112,116,97,98]⟩) w:=sF
  clear sF
  by_cases hlen:R0.length=m*24
  case neg=>
    have HN:Hid (q8S s=none):=Lib.hid (by rw[HGT.out,if_neg (fun h=>hlen h.2.2)])
    have hne:((R0.length:Int)==(m:Int)*24)=false:=by simp;omega
    have hne':((R0.length:Int) !=(m:Int)*24)=true:=by simp;omega
    go_enter Tryz.func169,Tryz.ntmps169
    go_wp2_with fail
    refine (HO.out _).mono ?_
    rintro e w1 ⟨rfl,hb⟩
    have HB:=Lib.hid hb;clear hb
    go_wp2_with fail
    refine (HG.out _).mono ?_
    rintro e w2 ⟨rfl,hb⟩
    have HB2:=Lib.hid (HB.out.trans hb);clear hb
    go_wp2_with fail
    go_ret2
    rw[HN.out]
    exact ⟨rfl,HB2.out⟩
  case pos =>
    have HE:Hid (q8S s=match q1u (s.length+1) R0 with|none=>none|some l=>if q3u l then some l else none):=Lib.hid (by
      rw[HGT.out,if_pos ⟨h8',rfl,hlen⟩])
    have HEs:Hid (q1u (s.length+1) R0=q1u (R0.length+1) R0):=Lib.hid (q5i _ _ _ hRs (Nat.lt_succ_self _))
    have hne:((R0.length:Int)==(m:Int)*24)=true:=by simp;omega
    have hne':((R0.length:Int) !=(m:Int)*24)=false:=by simp;omega
    have HLn:=Lib.hid hlen
    clear hlen h8' hRs
    go_enter Tryz.func169,Tryz.ntmps169
    go_wp2_with fail
    refine (HO.out _).mono ?_
    rintro e w1 ⟨rfl,hb⟩
    have HB:=Lib.hid hb;clear hb
    go_wp2_with fail
    refine (HG.out _).mono ?_
    rintro e w2 ⟨rfl,hb⟩
    have HB2:=Lib.hid (HB.out.trans hb);clear hb
    go_wp2_with fail
    have HBs:=Lib.hid (HB2.out.size)
    go_loopw [7,8] (fun r v W=> ∃(R:List UInt8) (L:List En) (va:Value),r= .string ⟨R.toArray⟩∧v=va∧W.ownsRow w.heap.size 108 3 va L.length (ecs L)∧Ext w W∧q1u (s.length+1) R0=(q1u (R.length+1) R).map (L++·)∧R.length % 24=0∧R.length+24*L.length=R0.length) (fun r _ _=>y0Z r)
    case atStart=>exact ⟨R0,[],.slice none 0 0,rfl,rfl,World.ownsRow_nil _ _ _ _,HB2.out,by rw[HEs.out];cases q1u (R0.length+1) R0<;>simp,by rw[HLn.out];omega,by simp⟩
    case round=>
      obtain ⟨R,L,va,rfl,rfl,hrow,hb,hes,h24,hsum⟩:=hrel
      obtain ⟨va1,vc,rfl⟩:=q0I hrow
      have HRow:=Lib.hid hrow;have HBk:=Lib.hid hb;have HEk:=Lib.hid hes;have HSum:=Lib.hid hsum
      have hLl:L.length≤1048576:=by omega
      have hRl9:R.length≤1048576:=by omega
      by_cases hR:R=[]
      · subst hR
        have hes2:q1u (s.length+1) R0=some L:=by
          rw[hes]
          show (q1u 1 []).map (L++·)=some L
          have:q1u 1 []=some []:=rfl
          rw[this];simp
        have HS:=Lib.hid (fun (W:World) (k:Ext wr W)=>by
          obtain ⟨ao,cap,e1,e2⟩:=Ens.of_own (Own.of_row (q0L hrow k))
          cases e1
          exact z7h W e2)
        have HE2:Hid (q8S s=if q3u L then some L else none):=Lib.hid (by rw[HE.out,hes2])
        clear hes hes2 h24 hsum hrow hb
        go_wp2_with fail
        refine (HS.out _ (Ext.refl _)).mono ?_
        rintro e w3 ⟨rfl,hb⟩
        have HB3:=Lib.hid hb;clear hb
        cases hq:q3u L with
        | true=>
          rw[hq] at HE2
          go_wp2_with fail
          go_ret2
          rw[HE2.out]
          exact ⟨_,rfl,q0L HRow.out HB3.out,HBk.out.trans HB3.out⟩
        | false=>
          rw[hq] at HE2
          go_wp2_with fail
          go_ret2
          rw[HE2.out]
          exact ⟨rfl,HBk.out.trans HB3.out⟩
      · have hR24:24≤R.length:=by
          have:0<R.length:=List.length_pos_iff.2 hR
          omega
        have hRn:(R==[])=false:=by simpa using hR
        have hRn':(R !=[])=true:=by simpa using hR
        have s1:=q4P R 24 24 rfl hR24
        have s2:=q2n R 24 24 rfl hR24
        have hstep:q1u (R.length+1) R=match q9R (R.take 24) with|none=>none|some e=>(q1u ((R.drop 24).length+1) (R.drop 24)).map (e::·):=by
          conv=>lhs;unfold q1u
          rw[if_neg hR]
          cases q9R (R.take 24) with
          |none=>rfl
          |some e=>simp only;rw[q5i R.length ((R.drop 24).length+1) (R.drop 24) (by rw[List.length_drop];omega) (Nat.lt_succ_self _)]
        have hD:(R.drop 24).length=R.length-24:=by rw[List.length_drop]
        obtain ⟨E,hE⟩: ∃E,R.take 24=E:=⟨_,rfl⟩
        obtain ⟨R',hR'⟩: ∃R',R.drop 24=R':=⟨_,rfl⟩
        have lE:E.length=24:=by rw[←hE,List.length_take];omega
        rw[hE] at s1
        rw[hR'] at s2 hD
        rw[hE,hR'] at hstep
        have HGe:=Lib.hid (fun W=>q8W E W (by omega))
        cases hge:q9R E with
        | none=>
          have hev:q6N E= .tuple #[.agg #[.int .u64 0,.int .i64 0,.int .i64 0],.bool false]:=by unfold q6N;rw[hge];rfl
          rw[hev] at HGe
          have HN:Hid (q8S s=none):=Lib.hid (by rw[HE.out,hes,hstep,hge];rfl)
          clear hes hstep hev hge hE hR' hR lE hrow hb h24 hsum hD
          go_wp2_with fail
          refine (HGe.out _).mono ?_
          rintro e w3 ⟨rfl,hb⟩
          have HB3:=Lib.hid (HBk.out.trans hb);clear hb
          go_wp2_with fail
          go_ret2
          rw[HN.out]
          exact ⟨rfl,HB3.out.alloc _⟩
        | some e=>
          obtain ⟨x,y,z⟩:=e
          have hev:q6N E= .tuple #[.agg #[.int .u64 x,.int .i64 y,.int .i64 z],.bool true]:=by unfold q6N;rw[hge];rfl
          rw[hev] at HGe
          have HEn:Hid (q1u (s.length+1) R0=(q1u (R'.length+1) R').map ((L++[(x,y,z)])++·)):=Lib.hid (by
            rw[hes,hstep,hge]
            simp only
            cases q1u (R'.length+1) R'<;>simp)
          have HM24:Hid (R'.length % 24=0∧R'.length+24*(L.length+1)=R0.length∧R'.length<R.length):=Lib.hid (by omega)
          clear hes hstep hev hge hE hR' hR lE hrow hb h24 hsum hD
          go_wp2_with fail
          refine (HGe.out _).mono ?_
          rintro e w3 ⟨rfl,hb⟩
          have HB3:=Lib.hid (HBk.out.trans hb)
          have HR3:=Lib.hid (q0L HRow.out hb)
          have HB3s:=Lib.hid HB3.out.size
          clear hb
          go_wp2_with (at_builtin;refine q0P rfl _ _ 148 rfl w.heap.size 108 _ 3 24 Tryz.underlying148 Tryz.infoE (by decide) (by decide) _ L.length (ecs L) rfl (q0L (q0L HR3.out (q0B _ _)) (q0B _ _)) _ 1 1 (ec (x,y,z)) rfl rfl (fun h=>by cases h) (by have h:=Rd.lit (w3.alloc (Obj.cells #[.int .u64 x,.int .i64 y,.int .i64 z] 108)) #[.int .u64 x,.int .i64 y,.int .i64 z] 108;have e:(w3.alloc (Obj.cells #[.int .u64 x,.int .i64 y,.int .i64 z] 108)).heap.size=w3.heap.size+1:=Array.size_push _;rw[e] at h;exact h) (by unfold ec;simp[Value.oneCell']) (by unfold maxLen;omega) (by omega) (by have:=HB3s.out;simp;omega) ?_;intro v2 w5 hown hgrow hat;obtain ⟨a2,k2,rfl⟩:=q0I hown;have HO5:=Lib.hid hown;have HB5:=Lib.hid (q1R ((HB3.out.alloc _).alloc _) (Own.of_row (q0L (q0L HR3.out (q0B _ _)) (q0B _ _))) hgrow (by have:=HB3s.out;simp;omega));clear hown hgrow hat)
          go_roundw
          case rel=>exact ⟨R',L++[(x,y,z)],_,rfl,rfl,by rw[List.length_append,z2T];exact HO5.out,HB5.out,HEn.out,HM24.out.1,by rw[List.length_append];exact HM24.out.2.1⟩
          case measure=>exact HM24.out.2.2
end Go.Proofs.YtjjfiejoeelndaaGreatDoor
namespace Go.Proofs.YtjjfiejoeelndaaGreatDoor
open Go.RowKit
set_option maxRecDepth 100000
set_option linter.unusedVariables false
set_option maxHeartbeats 6400000
def md0 :En×Nat:=(en0,0)
def mc (m:En×Nat):List Value:=[.int .u64 m.1.1,.int .i64 m.1.2.1,.int .i64 m.1.2.2,.int .i64 (m.2:Int)]
def mcs (L:List (En×Nat)):List Value:=L.flatMap mc
theorem z2f (L:List (En×Nat)) (e:En×Nat):mcs (L++[e])=mcs L++mc e:=by unfold mcs;simp
theorem z2L (e:En×Nat) (L:List (En×Nat)):mcs (e::L)=mc e++mcs L:=rfl
theorem z0B : ∀(L:List (En×Nat)) (i j:Nat),i<L.length→j<4→(mcs L)[i*4+j]? =(mc (L.getD i md0))[j]?
  |[],i,j,h,_=>by simp at h
  | k::L,0,j,_,hj=>by
    rw[z2L,List.getElem?_append_left (by simp[mc];omega)]
    simp
  | k::L,i+1,j,h,hj=>by
    rw[z2L,List.getElem?_append_right (by simp[mc];omega),show (i+1)*4+j-(mc k).length=i*4+j from by simp[mc];omega,z0B L i j (by simpa using h) hj]
    simp
structure Mds (w:World) (ao:Option Addr) (n cap:Nat) (L:List (En×Nat)):Prop where
  len:L.length=n
  fits:n≤cap
  bound:cap≤9223372036854775807
  nil:ao=none→cap=0
  rd:Rd w ao (mcs L)
theorem Mds.ext {w w':World} {ao:Option Addr} {n cap:Nat} {L:List (En×Nat)} (h:Mds w ao n cap L) (k:Ext w w'):Mds w' ao n cap L:=⟨h.len,h.fits,h.bound,h.nil,h.rd.ext k⟩
theorem Mds.at {w:World} {ao:Option Addr} {n cap:Nat} {L:List (En×Nat)} (h:Mds w ao n cap L) {i:Nat} (hi:i<n):
    ∃b off,ao=some ⟨b,off,none⟩∧w.cell? ⟨b,off+i*4,none⟩=some (.int .u64 (L.getD i md0).1.1)∧w.cell? ⟨b,off+i*4+1,none⟩=some (.int .i64 (L.getD i md0).1.2.1)∧w.cell? ⟨b,off+i*4+2,none⟩=some (.int .i64 (L.getD i md0).1.2.2)∧w.cell? ⟨b,off+i*4+3,none⟩=some (.int .i64 ((L.getD i md0).2:Int)):=by
  have hl:=h.len
  have k0:=z0B L i 0 (by omega) (by decide)
  have k1:=z0B L i 1 (by omega) (by decide)
  have k2:=z0B L i 2 (by omega) (by decide)
  have k3:=z0B L i 3 (by omega) (by decide)
  obtain ⟨b,off,rfl,h0⟩:=h.rd _ _ k0
  obtain ⟨_,_,e1,h1⟩:=h.rd _ _ k1
  cases e1
  obtain ⟨_,_,e2,h2⟩:=h.rd _ _ k2
  cases e2
  obtain ⟨_,_,e3,h3⟩:=h.rd _ _ k3
  cases e3
  exact ⟨b,off,rfl,h0,h1,h2,h3⟩
theorem Mds.of_own {w:World} {B:Nat} {e:TypeId} {v:Value} {L:List (En×Nat)} (h:Own w B e 4 v L.length (mcs L)): ∃ao cap,v= .slice ao L.length cap∧Mds w ao L.length cap L:=by
  obtain ⟨ao,cap,rfl,h1,h2,h3,h4⟩:=h.rd
  exact ⟨ao,cap,rfl,rfl,h1,h2,h3,h4⟩
theorem Tryz.infoM :(Tryz.prog.info? 309).map (fun i=>(i.zero,i.size,i.bytes))=some (some (.agg #[.int .u64 0,.int .i64 0,.int .i64 0,.int .i64 0]),4,32):=by kernel_rfl
theorem q6E (m:Nat): ∀(i:Nat) (l:List En),(q3v m i l).length≤l.length
  |_,[]=>by unfold q3v;simp
  | i,e::r=>by
    have:=q6E m (i+1) r
    unfold q3v
    split<;>simp<;>omega
theorem y0n {ao:Option Addr} {n cap:Nat} {L:List En} (w:World) (hx:Ens w ao n cap L) (hn:n≤1000000):Calls Tryz.prog 207 #[.slice ao n cap] w fun r w'=> ∃v,r= .returned v∧w'.ownsRow w.heap.size 309 4 v (q2U L).length (mcs (q2U L))∧Ext w w':=by
  have Hx:=Lib.hid hx
  have b1:=hx.fits;have b2:=hx.bound
  have HLen:=Lib.hid hx.len
  clear hx
  go_enter Tryz.func207,Tryz.ntmps207
  go_wp2_with fail
  go_loopw [3,8] (fun v i W=> ∃(k:Nat) (M:List (En×Nat)),k≤n∧i= .int .i64 (k:Int)∧W.ownsRow w.heap.size 309 4 v M.length (mcs M)∧M++q3v n k (L.drop k)=q2U L∧Ext w W) (fun _ i _=>n-(intOf i).toNat)
  case atStart=>exact ⟨0,[],Nat.zero_le _,rfl,World.ownsRow_nil _ _ _ _,by rw[List.nil_append,List.drop_zero];unfold q2U;rw[HLen.out],Ext.refl _⟩
  case round=>
    obtain ⟨k,M,hk,rfl,hrow,hM,hb⟩:=hrel
    have HRow:=Lib.hid hrow;have HBk:=Lib.hid hb
    obtain ⟨va,vc,rfl⟩:=q0I hrow
    have HBs:=Lib.hid (hb:Ext w wr).size
    by_cases hlt:k<n
    · have hd:decide ((k:Int)<(n:Int))=true:=by simp;omega
      obtain ⟨b,off,rfl,c0,c1,c2⟩:=(Hx.out.ext hb).at hlt
      have hL:L.drop k=L.getD k en0::L.drop (k+1):=by
        rw[List.drop_eq_getElem_cons (by rw[HLen.out];exact hlt)]
        simp[List.getD,List.getElem?_eq_getElem (show k<L.length by rw[HLen.out];exact hlt)]
      rw[hL] at hM
      have hMl:=congrArg List.length hM
      have hm1:=q6E L.length 0 L
      have hm2:(q2U L).length≤n:=by unfold q2U;rw[←HLen.out];exact hm1
      rw[List.length_append] at hMl
      have hMl9:M.length≤n:=by omega
      generalize L.getD k en0=z at*
      have u0:=q0D c0;have u1:=q0D c1;have u2:=q0D c2
      have hw1:IntKind.i64.wrap ((n:Int)-1)=(n:Int)-1:=by rw[IntKind.wrap_i64];omega
      unfold q3v at hM
      obtain ⟨z1,z2,z3⟩:=z
      have hw9:IntKind.i64.wrap (Int.tmod (k:Int) 8)=((k % 8:Nat):Int):=by
        have:Int.tmod (k:Int) 8=((k % 8:Nat):Int):=by rw[Int.tmod_eq_emod_of_nonneg (by omega)];omega
        rw[this,IntKind.wrap_i64];omega
      by_cases hm:k % 8=0
      · rw[if_pos (.inl hm)] at hM
        have hd8:(((k % 8:Nat):Int)==0)=true:=by simp;omega
        have HM:=Lib.hid hM
        clear hM hrow hb hL hMl
        go_wp2_with (at_builtin;refine q0P rfl (.tmp 23) (.tmp 27) 247 rfl w.heap.size 309 _ 4 32 Tryz.underlying247 Tryz.infoM (by decide) (by decide) _ M.length (mcs M) rfl (q0L (q0L HRow.out (q0B _ _)) (q0B _ _)) _ 1 1 (mc ((z1,z2,z3),k)) rfl rfl (fun h=>by cases h) (by have h:=Rd.lit (wr.alloc (Obj.cells #[.int .u64 z1,.int .i64 z2,.int .i64 z3] 108)) #[.int .u64 z1,.int .i64 z2,.int .i64 z3,.int .i64 (k:Int)] 309;have e:(wr.alloc (Obj.cells #[.int .u64 z1,.int .i64 z2,.int .i64 z3] 108)).heap.size=wr.heap.size+1:=Array.size_push _;rw[e] at h;exact h) (by unfold mc;simp[Value.oneCell']) (by unfold maxLen;omega) (by omega) (by have:=HBs.out;simp;omega) ?_;intro v2 w5 hown hgrow hat;obtain ⟨a2,k2,rfl⟩:=q0I hown;have HO5:=Lib.hid hown;have HB5:=Lib.hid (q1R ((HBk.out.alloc _).alloc _) (Own.of_row (q0L (q0L HRow.out (q0B _ _)) (q0B _ _))) hgrow (by have:=HBs.out;simp;omega));clear hown hgrow hat)
        go_roundw
        case rel=>exact ⟨k+1,M++[((z1,z2,z3),k)],hlt,by go_num,by rw[List.length_append,z2f];exact HO5.out,by rw[List.append_assoc];exact HM.out,HB5.out⟩
        case measure=>simp[intOf];omega
      · have hd8:(((k % 8:Nat):Int)==0)=false:=by simp;omega
        by_cases hm2:k+1=n
        · rw[if_pos (.inr hm2)] at hM
          have hdn:((k:Int)==(n:Int)-1)=true:=by simp;omega
          have HM:=Lib.hid hM
          clear hM hrow hb hL hMl
          go_wp2_with (at_builtin;refine q0P rfl (.tmp 23) (.tmp 27) 247 rfl w.heap.size 309 _ 4 32 Tryz.underlying247 Tryz.infoM (by decide) (by decide) _ M.length (mcs M) rfl (q0L (q0L HRow.out (q0B _ _)) (q0B _ _)) _ 1 1 (mc ((z1,z2,z3),k)) rfl rfl (fun h=>by cases h) (by have h:=Rd.lit (wr.alloc (Obj.cells #[.int .u64 z1,.int .i64 z2,.int .i64 z3] 108)) #[.int .u64 z1,.int .i64 z2,.int .i64 z3,.int .i64 (k:Int)] 309;have e:(wr.alloc (Obj.cells #[.int .u64 z1,.int .i64 z2,.int .i64 z3] 108)).heap.size=wr.heap.size+1:=Array.size_push _;rw[e] at h;exact h) (by unfold mc;simp[Value.oneCell']) (by unfold maxLen;omega) (by omega) (by have:=HBs.out;simp;omega) ?_;intro v2 w5 hown hgrow hat;obtain ⟨a2,k2,rfl⟩:=q0I hown;have HO5:=Lib.hid hown;have HB5:=Lib.hid (q1R ((HBk.out.alloc _).alloc _) (Own.of_row (q0L (q0L HRow.out (q0B _ _)) (q0B _ _))) hgrow (by have:=HBs.out;simp;omega));clear hown hgrow hat)
          go_roundw
          case rel=>exact ⟨k+1,M++[((z1,z2,z3),k)],hlt,by go_num,by rw[List.length_append,z2f];exact HO5.out,by rw[List.append_assoc];exact HM.out,HB5.out⟩
          case measure=>simp[intOf];omega
        · rw[if_neg (fun h=>h.elim hm hm2)] at hM
          have hdn:((k:Int)==(n:Int)-1)=false:=by simp;omega
          have HM:=Lib.hid hM
          clear hM hrow hb hL hMl
          go_wp2_with fail
          go_roundw
          case rel=>exact ⟨k+1,M,hlt,by go_num,q0L HRow.out (q0B _ _),HM.out,HBk.out.alloc _⟩
          case measure=>simp[intOf];omega
    · have hd:decide ((k:Int)<(n:Int))=false:=by simp;omega
      have hM':M=q2U L:=by
        rw[List.drop_of_length_le (by rw[HLen.out];omega)] at hM
        unfold q3v at hM
        simpa using hM
      have HM:=Lib.hid hM'
      clear hrow hb hM hM'
      go_wp2_with fail
      go_ret
      exact ⟨_,rfl,by rw[←HM.out];exact HRow.out,HBk.out⟩
end Go.Proofs.YtjjfiejoeelndaaGreatDoor
namespace Go.Proofs.YtjjfiejoeelndaaGreatDoor
open Go.RowKit
set_option maxRecDepth 100000
set_option linter.unusedVariables false
set_option maxHeartbeats 6400000
theorem z7v {ao:Option Addr} {n cap m:Nat} {M:List (En×Nat)} (x:En) (w:World) (hx:Mds w ao n cap M) (hn:m≤1000000) (hm: ∀y∈M,y.2<m):Calls Tryz.prog 187 #[.slice ao n cap,.int .i64 (m:Int),enV x] w fun r w'=>r= .returned (.tuple #[.int .i64 ((q0l m x 0 M).1:Int),.int .i64 ((q0l m x 0 M).2:Int)])∧Ext w w':=by
  have Hx:=Lib.hid hx
  have b1:=hx.fits;have b2:=hx.bound
  have HLen:=Lib.hid hx.len
  have HM:=Lib.hid hm
  clear hx hm
  obtain ⟨x1,x2,x3⟩:=x
  have hbk:=Blk.new w 108 #[.int .u64 x1,.int .i64 x2,.int .i64 x3]
  have HE0:=Lib.hid (q0B w (.cells #[.int .u64 x1,.int .i64 x2,.int .i64 x3] 108))
  have e0:=Lib.hid (show (w.alloc (.cells #[.int .u64 x1,.int .i64 x2,.int .i64 x3] 108)).cell? ⟨w.heap.size,0,none⟩=some (.int .u64 x1) from hbk.cell 0)
  have e1:=Lib.hid (show (w.alloc (.cells #[.int .u64 x1,.int .i64 x2,.int .i64 x3] 108)).cell? ⟨w.heap.size,1,none⟩=some (.int .i64 x2) from hbk.cell 1)
  have e2:=Lib.hid (show (w.alloc (.cells #[.int .u64 x1,.int .i64 x2,.int .i64 x3] 108)).cell? ⟨w.heap.size,2,none⟩=some (.int .i64 x3) from hbk.cell 2)
  clear hbk
  have HF:Hid (∀W,Ext (w.alloc (.cells #[.int .u64 x1,.int .i64 x2,.int .i64 x3] 108)) W→W.cell? ⟨w.heap.size,0,none⟩=some (.int .u64 x1)∧W.cell? ⟨w.heap.size,1,none⟩=some (.int .i64 x2)∧W.cell? ⟨w.heap.size,2,none⟩=some (.int .i64 x3)):=Lib.hid fun W k=>⟨q0A k e0.out,q0A k e1.out,q0A k e2.out⟩
  clear e0 e1 e2
  have hmx:¬((m:Int)<0):=by omega
  show Calls Tryz.prog 187 #[.slice ao n cap,.int .i64 (m:Int),.agg #[.int .u64 x1,.int .i64 x2,.int .i64 x3]] w _
  go_enter Tryz.func187,Tryz.ntmps187
  go_wp2_with fail
  go_step3
  go_wp2_with fail
  go_step3
  go_wp2_with fail
  generalize w.alloc (.cells #[.int .u64 x1,.int .i64 x2,.int .i64 x3] 108)=w1 at*
  generalize w.heap.size=p at*
  go_loopw [6,7,16] (fun l h i W=> ∃(k lo:Nat),k≤n∧i= .int .i64 (k:Int)∧l= .int .i64 (lo:Int)∧h= .int .i64 (m:Int)∧lo≤m+1∧q0l m (x1,x2,x3) lo (M.drop k)=q0l m (x1,x2,x3) 0 M∧Ext w1 W) (fun _ _ i _=>n-(intOf i).toNat)
  case atStart=>exact ⟨0,0,Nat.zero_le _,rfl,rfl,rfl,by omega,by rw[List.drop_zero],Ext.refl _⟩
  case round =>
    obtain ⟨k,lo,hk,rfl,rfl,rfl,hlo,hN,hb⟩:=hrel
    have HBk:=Lib.hid hb
    by_cases hlt:k<n
    · have hd:decide ((k:Int)<(n:Int))=true:=by simp;omega
      obtain ⟨b,off,rfl,c0,c1,c2,c3⟩:=(Hx.out.ext (HE0.out.trans hb)).at hlt
      have hL:M.drop k=M.getD k md0::M.drop (k+1):=by
        rw[List.drop_eq_getElem_cons (by rw[HLen.out];exact hlt)]
        simp[List.getD,List.getElem?_eq_getElem (show k<M.length by rw[HLen.out];exact hlt)]
      have hm2:(M.getD k md0).2<m:=HM.out _ (by rw[List.getD,List.getElem?_eq_getElem (show k<M.length by rw[HLen.out];exact hlt)];simp)
      rw[hL] at hN
      generalize M.getD k md0=z at*
      obtain ⟨z,a⟩:=z
      obtain ⟨d0,d1,d2⟩:=HF.out _ hb
      obtain ⟨R,hR⟩: ∃R,q0l m (x1,x2,x3) 0 M=R:=⟨_,rfl⟩
      rw[hR] at hN
      unfold q0l at hN
      have HLs:=Lib.hid (fun W=>z0A z (x1,x2,x3) W)
      obtain ⟨q,hq⟩: ∃q,q0e z (x1,x2,x3)=q:=⟨_,rfl⟩
      rw[hq] at hN HLs
      obtain ⟨z1,z2,z3⟩:=z
      unfold enV ec at HLs
      simp only at c0 c1 c2 c3
      have u0:=q0D c0;have u1:=q0D c1;have u2:=q0D c2;have u3:=q0D c3
      have hxa:=q0B wr (.cells #[.int .u64 z1,.int .i64 z2,.int .i64 z3,.int .i64 (a:Int)] 309)
      have v0:=q0A hxa d0;have v1:=q0A hxa d1;have v2:=q0A hxa d2
      have HXa:=Lib.hid hxa
      clear hxa
      simp only at hm2
      have ha0:¬((a:Int)<0):=by omega
      have ha1:¬((m:Int)<(a:Int)):=by omega
      have ha2:¬((m:Int)-1<(a:Int)):=by omega
      have ha3:IntKind.i64.wrap ((a:Int)+1)=(a:Int)+1:=by rw[IntKind.wrap_i64];omega
      have hma:min a (m-1)+1=a+1:=by omega
      have hmb:min a m=a:=by omega
      rw[hma,hmb,←hR] at hN
      clear hR
      have hmx1:IntKind.i64.wrap ((m:Int)-1)=(m:Int)-1:=by rw[IntKind.wrap_i64];omega
      have HN:=Lib.hid hN
      clear hN hL hb hq
      cases q with
      | true=>
        rw[if_pos rfl] at HN
        go_wp2_with fail
        refine (HLs.out _).mono ?_
        rintro e w5 ⟨rfl,hb⟩
        have HB5:=Lib.hid (HBk.out.trans (HXa.out.trans hb));clear hb
        go_wp2_with fail
        go_roundw
        case rel=>exact ⟨k+1,a+1,hlt,by go_num,by go_num,rfl,by omega,HN.out,HB5.out⟩
        case measure=>simp[intOf];omega
      | false=>
        have HNN:Hid (q0l m (x1,x2,x3) 0 M=(lo,max lo a)):=Lib.hid (by rw[←HN.out,if_neg (by decide)])
        go_wp2_with fail
        refine (HLs.out _).mono ?_
        rintro e w5 ⟨rfl,hb⟩
        have HB5:=Lib.hid (HE0.out.trans (HBk.out.trans (HXa.out.trans hb)));clear hb
        go_wp2_with fail
        all_goals
          go_ret2
          refine ⟨?_,HB5.out⟩
          rw[HNN.out]
          show _=Ending.returned (.tuple #[.int .i64 (lo:Int),.int .i64 ((max lo a:Nat):Int)])
          first
            |(rw[Nat.max_eq_right (by omega)];rfl)
            |(rw[Nat.max_eq_left (by omega)];rfl)
    · have hd:decide ((k:Int)<(n:Int))=false:=by simp;omega
      have hN':q0l m (x1,x2,x3) 0 M=(lo,max lo m):=by
        rw[List.drop_of_length_le (by rw[HLen.out];omega)] at hN
        rw[←hN];rfl
      have HN:=Lib.hid hN'
      clear hN hN' hb
      go_wp2_with fail
      all_goals
        go_ret2
        refine ⟨?_,HE0.out.trans HBk.out⟩
        rw[HN.out]
        show _=Ending.returned (.tuple #[.int .i64 (lo:Int),.int .i64 ((max lo m:Nat):Int)])
        first
          |(rw[Nat.max_eq_right (by omega)];rfl)
          |(rw[Nat.max_eq_left (by omega)];rfl)
end Go.Proofs.YtjjfiejoeelndaaGreatDoor
