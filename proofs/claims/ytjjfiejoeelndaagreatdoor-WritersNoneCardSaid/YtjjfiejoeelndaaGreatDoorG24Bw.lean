/- The shelf's contract of strings.Trim at this seat, in plain words: written by a tool of the kit (lay-plain) from a short module of mine, turned into a template. Walks: names of files. Walks: what a file's name says. Walks: what the package says of a file's name. -/
import Derived.WalkKit
import Derived.Ground.NamesProg
import Derived.Shelf.Strings.SlTrimAscii
import Derived.Test.YtjjfiejoeelndaaGreatDoorProg
import Derived.Test.YtjjfiejoeelndaaGreatDoorChecked
import Derived.Test.YtjjfiejoeelndaaGreatDoorG7Bw
set_option linter.unusedVariables false
set_option linter.unusedSimpArgs false
namespace Go.Proofs
open Go.Shelf
def Tryz.lays160_ren :Go.Shelf.Ren:=⟨fun|160=>211|232=>239|231=>238|227=>240|234=>242|233=>241|236=>244|235=>243|228=>264|271=>267|151=>266|197=>265|120=>277|152=>276|260=>275|137=>282|119=>283|224=>284|225=>285|217=>287|266=>288|n=>n,fun|9=>9|4=>4|3=>3|5=>5|117=>321|116=>320|0=>0|124=>324|21=>21|105=>348|46=>209|119=>365|139=>368|138=>367|n=>n,fun|3=>1|4=>2|n=>n⟩
theorem Tryz.lays160 :Go.Proofs.Lays.n160 Tryz.prog Tryz.lays160_ren:={
  mixed:=by kernel_rfl
  f119:=Tryz.func283.trans (congrArg some (by kernel_rfl))
  f120:=Tryz.func277.trans (congrArg some (by kernel_rfl))
  f137:=Tryz.func282.trans (congrArg some (by kernel_rfl))
  f151:=Tryz.func266.trans (congrArg some (by kernel_rfl))
  f152:=Tryz.func276.trans (congrArg some (by kernel_rfl))
  f160:=Tryz.func211.trans (congrArg some (by kernel_rfl))
  f197:=Tryz.func265.trans (congrArg some (by kernel_rfl))
  f217:=Tryz.func287.trans (congrArg some (by kernel_rfl))
  f224:=Tryz.func284.trans (congrArg some (by kernel_rfl))
  f225:=Tryz.func285.trans (congrArg some (by kernel_rfl))
  f227:=Tryz.func240.trans (congrArg some (by kernel_rfl))
  f228:=Tryz.func264.trans (congrArg some (by kernel_rfl))
  f231:=Tryz.func238.trans (congrArg some (by kernel_rfl))
  f232:=Tryz.func239.trans (congrArg some (by kernel_rfl))
  f233:=Tryz.func241.trans (congrArg some (by kernel_rfl))
  f234:=Tryz.func242.trans (congrArg some (by kernel_rfl))
  f235:=Tryz.func243.trans (congrArg some (by kernel_rfl))
  f236:=Tryz.func244.trans (congrArg some (by kernel_rfl))
  f260:=Tryz.func275.trans (congrArg some (by kernel_rfl))
  f266:=Tryz.func288.trans (congrArg some (by kernel_rfl))
  f271:=Tryz.func267.trans (congrArg some (by kernel_rfl))
  t0:=Tryz.underlying0
  a0:=Tryz.isAgg0
  z0:=Tryz.sizeOf0
  v0:=Tryz.zeroValue0
  t3:=Tryz.underlying3
  a3:=Tryz.isAgg3
  z3:=Tryz.sizeOf3
  v3:=Tryz.zeroValue3
  t4:=Tryz.underlying4
  a4:=Tryz.isAgg4
  z4:=Tryz.sizeOf4
  v4:=Tryz.zeroValue4
  t5:=Tryz.underlying5
  a5:=Tryz.isAgg5
  z5:=Tryz.sizeOf5
  v5:=Tryz.zeroValue5
  t9:=Tryz.underlying9
  a9:=Tryz.isAgg9
  z9:=Tryz.sizeOf9
  v9:=Tryz.zeroValue9
  t21:=Tryz.underlying21
  a21:=Tryz.isAgg21
  z21:=Tryz.sizeOf21
  v21:=Tryz.zeroValue21
  t46:=Tryz.underlying209
  a46:=Tryz.isAgg209
  z46:=Tryz.sizeOf209
  v46:=Tryz.zeroValue209
  t105:=Tryz.underlying348
  a105:=Tryz.isAgg348
  z105:=Tryz.sizeOf348
  v105:=Tryz.zeroValue348
  t116:=Tryz.underlying320
  a116:=Tryz.isAgg320
  z116:=Tryz.sizeOf320
  t117:=Tryz.underlying321
  a117:=Tryz.isAgg321
  z117:=Tryz.sizeOf321
  v117:=Tryz.zeroValue321
  t119:=Tryz.underlying365
  a119:=Tryz.isAgg365
  z119:=Tryz.sizeOf365
  t124:=Tryz.underlying324
  a124:=Tryz.isAgg324
  z124:=Tryz.sizeOf324
  v124:=Tryz.zeroValue324
  t138:=Tryz.underlying367
  a138:=Tryz.isAgg367
  z138:=Tryz.sizeOf367
  v138:=Tryz.zeroValue367
  t139:=Tryz.underlying368
  a139:=Tryz.isAgg368
  z139:=Tryz.sizeOf368
  v139:=Tryz.zeroValue368
  g3:=by kernel_rfl
  g4:=by kernel_rfl}
end Go.Proofs
namespace Go.Proofs.YtjjfiejoeelndaaGreatDoor
open Go.RowKit
theorem Tryz.infoU8 :(Tryz.prog.info? 5).map (fun i=>(i.zero,i.size,i.bytes))=some (some (.int .u8 0),1,1):=by kernel_rfl
theorem y0f : ∀w,(convert 5 9 (.int .u8 99)).run Tryz.prog w= .ok (.string ⟨#[99]⟩) w:=fun _=>by kernel_rfl
theorem y0m : ∀w,(convert 5 9 (.int .u8 116)).run Tryz.prog w= .ok (.string ⟨#[116]⟩) w:=fun _=>by kernel_rfl
theorem y0R : ∀w,(convert 5 9 (.int .u8 98)).run Tryz.prog w= .ok (.string ⟨#[98]⟩) w:=fun _=>by kernel_rfl
theorem z6W (m:Nat):(48+(m:Int) % 10)=((UInt8.ofNat (48+m % 10)).toNat:Int):=by rw[q5C];omega
theorem z8h (k n:Nat) (hk:k<6):(List.replicate (6-k) (Value.int .u8 0)++(q4g k n).map q1H).set (5-k) (q1H (UInt8.ofNat (48+n/10^k % 10)))=List.replicate (6-(k+1)) (.int .u8 0)++(q4g (k+1) n).map q1H:=by
  rw[show 6-k=(6-(k+1))+1 from by omega,show 5-k=6-(k+1) from by omega]
  rw[List.replicate_succ',List.append_assoc,List.set_append]
  simp[q4g]
set_option maxRecDepth 100000 in
set_option maxHeartbeats 1600000 in
theorem z6N (c:UInt8) (C n:Int) (w:World) (hC:C=(c.toNat:Int)) (hcv: ∀w,(convert 5 9 (.int .u8 C)).run Tryz.prog w= .ok (.string ⟨#[c]⟩) w):
    Calls Tryz.prog 151 #[.int .u8 C,.int .i64 n] w fun e w'=>e= .returned (.string ⟨(q0F c n).toArray⟩)∧Ext w w':=by
  subst hC
  by_cases h0:n<0
  · have HN:=Lib.hid (q6c (c:=c) (n:=n) (by omega))
    clear hcv
    go_enter Tryz.func151,Tryz.ntmps151
    go_wp2_with fail
    go_ret
    exact ⟨by rw[HN.out];rfl,Ext.refl _⟩
  by_cases h1:999999<n
  · have HN:=Lib.hid (q6c (c:=c) (n:=n) (by omega))
    clear hcv
    go_enter Tryz.func151,Tryz.ntmps151
    go_wp2_with fail
    go_ret
    exact ⟨by rw[HN.out];rfl,Ext.refl _⟩
  have HN:=Lib.hid (q0V (c:=c) (n:=n) (by omega))
  obtain ⟨N,hN⟩: ∃N:Nat,n=(N:Int):=⟨n.toNat,by omega⟩
  subst hN
  have hN6:N≤999999:=by omega
  have HNb:=Lib.hid hN6
  rw[Int.toNat_natCast] at HN
  obtain ⟨i,hi,hz,hsize,hby⟩:=info_parts Tryz.infoU8
  have HCV:=Lib.hid hcv
  clear h0 h1 hcv
  have b0:0≤(N:Int):=by omega
  have b1:(N:Int)≤999999:=by omega
  go_enter Tryz.func151,Tryz.ntmps151
  go_wp2_with (at_make;refine wpList_make_full _ rfl _ _ 128 rfl w.heap.size 5 i (.int .u8 0) 1 Tryz.underlying128 hi hz hsize .i64 .i64 _ _ 6 rfl rfl rfl rfl (by rw[hby];omega) (by unfold maxLen;omega) (Nat.le_refl _) ?_;intro w2 hown hg)
  clear hi hz hsize hby
  have ho:=Own.of_row hown
  rw[Nat.mul_one,show (madeCells (Value.int .u8 0).cells 6).toList=List.replicate 6 (.int .u8 0) from toList_madeCells_one _ _] at ho
  have hb0:Ext w w2:=(Ext.refl w).grown hg (Nat.le_refl _) (fun k hk=>by cases hk)
  have HO:=Lib.hid ho;have HB0:=Lib.hid hb0
  clear hown hg ho hb0
  go_loopw [1,14] (fun v i w'=> ∃k m:Nat,k≤6∧i= .int .i64 k∧v= .int .i64 m∧m=N/10^k∧Own w' w.heap.size 5 1 (.slice (some ⟨w.heap.size,0,none⟩) 6 6) 6 (List.replicate (6-k) (.int .u8 0)++(q4g k N).map q1H)∧Ext w w') (fun _ i _=>6-(intOf i).toNat)
  case atStart=>exact ⟨0,N,by omega,rfl,rfl,by simp,by simpa [q4g] using HO.out,HB0.out⟩
  case round=>
    clear HO HB0
    obtain ⟨k,m,hk,rfl,rfl,hm,ho,hb⟩:=hrel
    have HM:=Lib.hid hm
    have hm6:(m:Int)≤999999:=by have:=Nat.div_le_self N (10^k);have:=HNb.out;omega
    have Hb:=Lib.hid hb;have HO:=Lib.hid ho
    clear hm
    by_cases hlt:k<6
    · obtain ⟨g,c',u,e,d1,d2,d3⟩:=ho.cellE (j:=5-k) (by omega)
      cases e
      have hst:=ho.stored (g:=w.heap.size) (cap:=6) rfl (j:=5-k) (q1H (UInt8.ofNat (48+N/10^k % 10)))
      rw[z8h k N hlt,←HM.out] at hst
      have hbs:=hb.setCell (p:=⟨w.heap.size,5-k,none⟩) (Nat.le_refl _) (q1H (UInt8.ofNat (48+m % 10)))
      rw[show q1H (UInt8.ofNat (48+m % 10))= .int .u8 (48+(m:Int) % 10) from by rw[z6W]] at hst hbs
      have HS:=Lib.hid hst;have HBS:=Lib.hid hbs
      clear ho hb hst hbs
      go_wp2_with fail
      go_roundw
      case rel=>exact ⟨k+1,m/10,by omega,by go_num,by go_num,by rw[HM.out,Nat.div_div_eq_div_mul,Nat.pow_succ],HS.out,HBS.out⟩
      case measure=>simp[intOf];omega
    · have hk6:k=6:=by omega
      rw[hk6,Nat.sub_self,List.replicate_zero,List.nil_append] at ho
      have hcv2:=q4H (P:=Tryz.prog) wr 128 9 5 (a:=⟨w.heap.size,0,none⟩) (n:=6) (cap:=6) Tryz.underlying128 Tryz.underlying5 Tryz.underlying9 (q0d 6 N) (by obtain ⟨_,_,e,_,_,_,r⟩:=ho.rd;cases e;exact r)
      have hcv:=HCV.out
      clear hk6 ho hb
      go_wp2_with fail
      go_ret
      exact ⟨by rw[HN.out];rfl,Hb.out⟩
set_option maxRecDepth 100000 in
theorem q4A (n:Int) (w:World):Calls Tryz.prog 96 #[.int .i64 n] w fun e w'=>e= .returned (.string ⟨(q0F 99 n).toArray⟩)∧Ext w w':=by
  go_enter Tryz.func96,Tryz.ntmps96
  go_wp2_with fail
  refine (z6N 99 _ _ _ rfl y0f).mono ?_
  rintro e w1 ⟨rfl,hb⟩
  have HB:=Lib.hid hb;clear hb
  go_wp2_with fail
  go_ret
  exact ⟨rfl,HB.out⟩
set_option maxRecDepth 100000 in
theorem z5G (n:Int) (w:World):Calls Tryz.prog 167 #[.int .i64 n] w fun e w'=>e= .returned (.string ⟨(q0F 116 n).toArray⟩)∧Ext w w':=by
  go_enter Tryz.func167,Tryz.ntmps167
  go_wp2_with fail
  refine (z6N 116 _ _ _ rfl y0m).mono ?_
  rintro e w1 ⟨rfl,hb⟩
  have HB:=Lib.hid hb;clear hb
  go_wp2_with fail
  go_ret
  exact ⟨rfl,HB.out⟩
set_option maxRecDepth 100000 in
theorem z8n (n:Int) (w:World):Calls Tryz.prog 170 #[.int .i64 n] w fun e w'=>e= .returned (.string ⟨(q0F 98 n).toArray⟩)∧Ext w w':=by
  go_enter Tryz.func170,Tryz.ntmps170
  go_wp2_with fail
  refine (z6N 98 _ _ _ rfl y0R).mono ?_
  rintro e w1 ⟨rfl,hb⟩
  have HB:=Lib.hid hb;clear hb
  go_wp2_with fail
  go_ret
  exact ⟨rfl,HB.out⟩
def q3O (s:List UInt8):Bool:=decide (1≤s.length)&&decide (s.length≤32)
set_option maxRecDepth 100000 in
theorem z2e (s:List UInt8) (w:World) (hl:s.length≤9223372036854775807):Calls Tryz.prog 37 #[.string ⟨s.toArray⟩] w fun e w'=>e= .returned (.bool (q3O s))∧Ext w w':=by
  by_cases h0:s=[]
  · subst h0
    go_enter Tryz.func37,Tryz.ntmps37
    go_wp2_with fail
    go_ret
    exact ⟨rfl,Ext.refl _⟩
  have hp:1≤s.length:=by cases s with|nil=>exact absurd rfl h0|cons a r=>simp
  have he:(s==[])=false:=by simpa using h0
  have HS:Hid (q3O s=decide (s.length≤32)):=Lib.hid (by unfold q3O;rw[decide_eq_true hp,Bool.true_and])
  clear h0
  go_enter Tryz.func37,Tryz.ntmps37
  go_wp2_with fail
  go_ret
  exact ⟨rb (by rw[HS.out,decide_eq_decide];omega),Ext.refl _⟩
end Go.Proofs.YtjjfiejoeelndaaGreatDoor
namespace Go.Proofs.YtjjfiejoeelndaaGreatDoor
open Go.RowKit
theorem q9B {r:List UInt8} {k:Nat} {u:UInt8} (h:r[k]? =some u):unD (r.take (k+1))=unD (r.take k)*10+(u.toNat-48):=by
  obtain ⟨hk,rfl⟩:=List.getElem?_eq_some_iff.1 h
  rw[List.take_succ_eq_append_getElem hk,z7w]
theorem z1p {r:List UInt8} {k:Nat} (hk:k≤6) (ha:(r.take k).all q1o=true):unD (r.take k)<1000000:=by
  have h1:=y0K _ ha
  have h2:(r.take k).length≤6:=Nat.le_trans (List.length_take_le _ _) hk
  exact Nat.lt_of_lt_of_le h1 (Nat.pow_le_pow_right (by decide) h2)
theorem z3s (u:UInt8):q1o u=true↔48≤u.toNat∧u.toNat≤57:=by
  unfold q1o;rw[Bool.and_eq_true,decide_eq_true_iff,decide_eq_true_iff]
theorem z0R (c:UInt8):c=99∨c=116∨c=98∨(q1k c=false∧(c.toNat:Int)≠99∧(c.toNat:Int)≠116∧(c.toNat:Int)≠98):=by
  by_cases h1:c=99
  · exact .inl h1
  by_cases h2:c=116
  · exact .inr (.inl h2)
  by_cases h3:c=98
  · exact .inr (.inr (.inl h3))
  refine .inr (.inr (.inr ⟨?_,?_,?_,?_⟩))
  · unfold q1k;simp[h1,h2,h3]
  · intro h;exact h1 (UInt8.toNat_inj.1 (by show c.toNat=99;omega))
  · intro h;exact h2 (UInt8.toNat_inj.1 (by show c.toNat=116;omega))
  · intro h;exact h3 (UInt8.toNat_inj.1 (by show c.toNat=98;omega))
theorem z9K {s:List UInt8} {k:Nat} {u:UInt8} (h:s[k]? =some u): ∀h',(⟨s.toArray⟩:ByteArray)[k]'h'=u:=by
  obtain ⟨hk,rfl⟩:=List.getElem?_eq_some_iff.1 h
  intro h';rfl
end Go.Proofs.YtjjfiejoeelndaaGreatDoor
namespace Go.Proofs.YtjjfiejoeelndaaGreatDoor
open Go.RowKit Go.Shelf
set_option maxRecDepth 100000 in
theorem y0e (l:List UInt8) (w:World) (hl:l.length≤9223372036854775807):
    Calls Tryz.prog 211 #[.string ⟨l.toArray⟩,.string ⟨#[48,49,50,51,52,53,54,55,56,57]⟩] w fun e w'=>e= .returned (.string ⟨(Lib.trimS l [48,49,50,51,52,53,54,55,56,57]).toArray⟩)∧Ext w w':=by
  have hcon:=Any.strings_Trim_laid Tryz.lays160 (by kernel_rfl) ⟨l.toArray⟩ ⟨#[48,49,50,51,52,53,54,55,56,57]⟩ w (by simpa [ByteArray.size] using hl) (by decide) (ascii_of_all (by decide))
  exact hcon
set_option maxRecDepth 100000 in
set_option maxHeartbeats 3200000 in
theorem z0n (s:List UInt8) (w:World) (_hl:s.length≤9223372036854775807):
    Calls Tryz.prog 174 #[.string ⟨s.toArray⟩] w fun e w'=>e= .returned (.tuple #[.int .u8 ((q0u s).1.toNat:Int),.int .i64 ((q0u s).2.1:Int),.bool (q0u s).2.2])∧Ext w w':=by
  by_cases h7:s.length=7
  case neg=>
    have HN:=Lib.hid (q6i (s:=s) (fun h=>h7 h.1))
    have h7':((s.length:Int) !=7)=true:=by simp;omega
    clear h7
    go_enter Tryz.func174,Tryz.ntmps174
    go_wp2_with fail
    go_ret3
    exact ⟨by rw[HN.out];rfl,Ext.refl _⟩
  obtain ⟨c,hc⟩: ∃c,s[0]? =some c:=⟨_,List.getElem?_eq_getElem (by omega)⟩
  have hcd:s.getD 0 0=c:=by rw[List.getD_eq_getElem?_getD,hc];rfl
  have hc0:=z9K hc
  have HS7:=Lib.hid h7
  have HCD:=Lib.hid hcd
  have HAll:Hid ((s.drop 1).all q1o=true→q1k (s.getD 0 0)=true→q0u s=(s.getD 0 0,unD (s.drop 1),true)):=Lib.hid (fun h h2=>q8C ⟨HS7.out,h2,h⟩)
  have HNot:Hid ((s.drop 1).all q1o=false→q0u s=(0,0,false)):=Lib.hid (fun h=>q6i (fun hh=>by rw[h] at hh;exact absurd hh.2.2 (by simp)))
  have HAt:Hid (∀k,(s.drop 1)[k]? =s[k+1]?):=Lib.hid (fun k=>by rw[List.getElem?_drop,Nat.add_comm])
  have HRl:Hid ((s.drop 1).length=6):=Lib.hid (by rw[List.length_drop,HS7.out])
  have htk:(s.take 7).tail=s.drop 1:=by rw[List.take_of_length_le (by omega)];simp
  have h7':((s.length:Int) !=7)=false:=by simp;omega
  clear hc hcd
  generalize s.drop 1=r at*
  obtain ⟨T,hT⟩: ∃T,Lib.trimS r [48,49,50,51,52,53,54,55,56,57]=T:=⟨_,rfl⟩
  have hTd:=z1g r
  rw[hT] at hTd
  have HT:=Lib.hid hT;have HTD:=Lib.hid hTd
  clear hT hTd
  go_enter Tryz.func174,Tryz.ntmps174
  go_wp2_with fail
  refine (y0e r _ (by have:=HRl.out;omega)).mono ?_
  rw[HT.out]
  rintro e w1 ⟨rfl,hb⟩
  have HB:=Lib.hid hb
  clear hb htk
  by_cases hTe:T=[]
  case neg=>
    have HN:=Lib.hid (HNot.out (by rw[Bool.eq_false_iff];intro h;exact hTe (HTD.out.2 h)))
    have hTb:(T==[])=false:=by simpa using hTe
    have hTn:(T !=[])=true:=by simpa using hTe
    clear hTe
    go_wp2_with fail
    go_ret3
    exact ⟨by rw[HN.out];rfl,HB.out⟩
  have HA:=Lib.hid (HTD.out.1 hTe)
  subst hTe
  rcases z0R c with hlt|hlt|hlt|⟨hlt,n1,n2,n3⟩
  case inr.inr.inr=>
    have HN:=Lib.hid (q6i (s:=s) (fun h=>by rw[HCD.out,hlt] at h;exact absurd h.2.1 (by simp)))
    clear hlt
    go_wp2_with fail
    go_ret3
    exact ⟨by rw[HN.out];rfl,HB.out⟩
  all_goals
    subst hlt
    have HY:=Lib.hid (HAll.out HA.out (by rw[HCD.out];rfl))
    go_wp2_with fail
    go_loopw [3,21] (fun v i w'=> ∃j m:Nat,j≤6∧i= .int .i64 j∧v= .int .i64 m∧m=unD (r.take j)∧Ext w w') (fun _ i _=>6-(intOf i).toNat)
    case atStart=>exact ⟨0,0,by omega,rfl,rfl,rfl,HB.out⟩
    case round=>
      obtain ⟨j,m,hj7,rfl,rfl,hm,hb⟩:=hrel
      have hat:(r.take j).all q1o=true:=List.all_eq_true.2 fun x hx=>List.all_eq_true.1 HA.out x (List.mem_of_mem_take hx)
      have hm6:(m:Int)≤999999:=by have:=z1p (by omega) hat;omega
      have HM:=Lib.hid hm;have Hb:=Lib.hid hb
      clear hm hb hat
      by_cases hlt:j<6
      · obtain ⟨u,hu⟩: ∃u,r[j]? =some u:=⟨_,List.getElem?_eq_getElem (by have:=HRl.out;omega)⟩
        have hu1:=z9K (s:=s) (k:=j+1) (u:=u) (by rw[HAt.out] at hu;exact hu)
        have hu2:=z9K (s:=s) (k:=1+j) (u:=u) (by rw[HAt.out,Nat.add_comm] at hu;exact hu)
        have HU:=Lib.hid hu
        have hk7:j+1<s.length:=by have:=HS7.out;omega
        have hk8:1+j<s.length:=by have:=HS7.out;omega
        have hd:=(z3s u).1 (List.all_eq_true.1 HA.out u (List.mem_of_getElem? hu))
        have hlo':48≤(u.toNat:Int):=by omega
        have hhi':(u.toNat:Int)≤57:=by omega
        clear hu hd
        go_wp2_with fail
        go_roundw
        case rel=>exact ⟨j+1,10*m+(u.toNat-48),by omega,by go_num,by go_num,by rw[q9B HU.out,←HM.out];omega,Hb.out⟩
        case measure=>simp[intOf];omega
      · have hk6:j=6:=by omega
        subst hk6
        have ht:r.take 6=r:=List.take_of_length_le (by have:=HRl.out;omega)
        rw[ht] at HM
        have hs0:0<s.length:=by have:=HS7.out;omega
        clear ht
        go_wp2_with fail
        go_ret3
        exact ⟨by rw[HY.out,HCD.out,HM.out];rfl,Hb.out⟩
end Go.Proofs.YtjjfiejoeelndaaGreatDoor
