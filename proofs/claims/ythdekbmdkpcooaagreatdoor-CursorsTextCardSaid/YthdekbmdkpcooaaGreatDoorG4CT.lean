/- The shelf's contract of strings.Trim at this seat, in plain words. -/
import Derived.Ground.NamesProg
import Derived.Shelf.Strings.SlTrimAscii
import Derived.Test.YthdekbmdkpcooaaGreatDoorProg
import Derived.Test.YthdekbmdkpcooaaGreatDoorChecked
import Derived.Test.YthdekbmdkpcooaaGreatDoorG3CT
set_option linter.unusedVariables false
set_option linter.unusedSimpArgs false
set_option maxRecDepth 100000
set_option maxHeartbeats 3200000
namespace Go.Proofs
open Go.Shelf
def Tryz.lays160_ren :Go.Shelf.Ren:=⟨fun|160=>220|232=>253|231=>252|227=>254|234=>256|233=>255|236=>258|235=>257|228=>286|271=>289|151=>288|197=>287|120=>304|152=>303|260=>302|137=>311|119=>312|224=>198|225=>197|217=>196|266=>235|n=>n,fun|9=>9|4=>4|3=>3|5=>5|117=>339|116=>338|0=>0|124=>342|21=>21|105=>364|46=>198|119=>393|139=>396|138=>395|n=>n,fun|3=>5|4=>6|n=>n⟩
theorem Tryz.lays160 :Go.Proofs.Lays.n160 Tryz.prog Tryz.lays160_ren:={
 mixed:=by kernel_rfl
 f119:=Tryz.func312.trans (congrArg some (by kernel_rfl))
 f120:=Tryz.func304.trans (congrArg some (by kernel_rfl))
 f137:=Tryz.func311.trans (congrArg some (by kernel_rfl))
 f151:=Tryz.func288.trans (congrArg some (by kernel_rfl))
 f152:=Tryz.func303.trans (congrArg some (by kernel_rfl))
 f160:=Tryz.func220.trans (congrArg some (by kernel_rfl))
 f197:=Tryz.func287.trans (congrArg some (by kernel_rfl))
 f217:=Tryz.func196.trans (congrArg some (by kernel_rfl))
 f224:=Tryz.func198.trans (congrArg some (by kernel_rfl))
 f225:=Tryz.func197.trans (congrArg some (by kernel_rfl))
 f227:=Tryz.func254.trans (congrArg some (by kernel_rfl))
 f228:=Tryz.func286.trans (congrArg some (by kernel_rfl))
 f231:=Tryz.func252.trans (congrArg some (by kernel_rfl))
 f232:=Tryz.func253.trans (congrArg some (by kernel_rfl))
 f233:=Tryz.func255.trans (congrArg some (by kernel_rfl))
 f234:=Tryz.func256.trans (congrArg some (by kernel_rfl))
 f235:=Tryz.func257.trans (congrArg some (by kernel_rfl))
 f236:=Tryz.func258.trans (congrArg some (by kernel_rfl))
 f260:=Tryz.func302.trans (congrArg some (by kernel_rfl))
 f266:=Tryz.func235.trans (congrArg some (by kernel_rfl))
 f271:=Tryz.func289.trans (congrArg some (by kernel_rfl))
 t0:=Tryz.underlying0
 a0:=Tryz.isAgg0
 z0:=Tryz.sizeOf0
 v0:=Tryz.zeroValue0
 t3:=Tryz.underlying3
 a3:=Tryz.isAgg3
 z3:=Tryz.sizeOf3
 v3:=Tryz.zeroValue3
 t4:=Tryz.underlying4
 a4:=Tryz.isAgg4
 z4:=Tryz.sizeOf4
 v4:=Tryz.zeroValue4
 t5:=Tryz.underlying5
 a5:=Tryz.isAgg5
 z5:=Tryz.sizeOf5
 v5:=Tryz.zeroValue5
 t9:=Tryz.underlying9
 a9:=Tryz.isAgg9
 z9:=Tryz.sizeOf9
 v9:=Tryz.zeroValue9
 t21:=Tryz.underlying21
 a21:=Tryz.isAgg21
 z21:=Tryz.sizeOf21
 v21:=Tryz.zeroValue21
 t46:=Tryz.underlying198
 a46:=Tryz.isAgg198
 z46:=Tryz.sizeOf198
 v46:=Tryz.zeroValue198
 t105:=Tryz.underlying364
 a105:=Tryz.isAgg364
 z105:=Tryz.sizeOf364
 v105:=Tryz.zeroValue364
 t116:=Tryz.underlying338
 a116:=Tryz.isAgg338
 z116:=Tryz.sizeOf338
 t117:=Tryz.underlying339
 a117:=Tryz.isAgg339
 z117:=Tryz.sizeOf339
 v117:=Tryz.zeroValue339
 t119:=Tryz.underlying393
 a119:=Tryz.isAgg393
 z119:=Tryz.sizeOf393
 t124:=Tryz.underlying342
 a124:=Tryz.isAgg342
 z124:=Tryz.sizeOf342
 v124:=Tryz.zeroValue342
 t138:=Tryz.underlying395
 a138:=Tryz.isAgg395
 z138:=Tryz.sizeOf395
 v138:=Tryz.zeroValue395
 t139:=Tryz.underlying396
 a139:=Tryz.isAgg396
 z139:=Tryz.sizeOf396
 v139:=Tryz.zeroValue396
 g3:=by kernel_rfl
 g4:=by kernel_rfl}
end Go.Proofs
namespace Go.Proofs.YthdekbmdkpcooaaGreatDoor
theorem η4 {p:Prop} (h:p):Go.RowKit.Hid p:=Lib.hid h
section
open Go.RowKit
theorem Tryz.infoU8 :(Tryz.prog.info? 5).map (fun i=>(i.zero,i.size,i.bytes))=some (some (.int .u8 0),1,1):=by kernel_rfl
theorem y0W : ∀w,(convert 5 9 (.int .u8 99)).run Tryz.prog w= .ok (.string ⟨#[99]⟩) w:=fun _=>by kernel_rfl
theorem y0Q : ∀w,(convert 5 9 (.int .u8 116)).run Tryz.prog w= .ok (.string ⟨#[116]⟩) w:=fun _=>by kernel_rfl
theorem y0R : ∀w,(convert 5 9 (.int .u8 98)).run Tryz.prog w= .ok (.string ⟨#[98]⟩) w:=fun _=>by kernel_rfl
theorem z7c (m:Nat):(48+(m:Int) % 10)=((UInt8.ofNat (48+m % 10)).toNat:Int):=by rw[q4L];omega
theorem z9Y (k n:Nat) (hk:k<6):(List.replicate (6-k) (Value.int .u8 0)++(q4n k n).map q1L).set (5-k) (q1L (UInt8.ofNat (48+n/10^k % 10)))=List.replicate (6-(k+1)) (.int .u8 0)++(q4n (k+1) n).map q1L:=by
 rw[show 6-k=(6-(k+1))+1 from by omega,show 5-k=6-(k+1) from by omega];rw[List.replicate_succ',List.append_assoc,List.set_append];simp[q4n]
theorem z4q (c:UInt8) (C n:Int) (w:World) (hC:C=(c.toNat:Int)) (hcv: ∀w,(convert 5 9 (.int .u8 C)).run Tryz.prog w= .ok (.string ⟨#[c]⟩) w):
  Calls Tryz.prog 138 #[.int .u8 C,.int .i64 n] w fun e w'=>e= .returned (.string ⟨(q0G c n).toArray⟩)∧Ext w w':=by
 subst hC;by_cases h0:n<0
 ·have HN:=η4 (q6U (c:=c) (n:=n) (by omega))
  clear hcv;go_enter Tryz.func138,Tryz.ntmps138;go_wp2_with fail;go_ret;exact ⟨by rw[HN.out];rfl,Ext.refl _⟩
 by_cases h1:999999<n
 ·have HN:=η4 (q6U (c:=c) (n:=n) (by omega))
  clear hcv;go_enter Tryz.func138,Tryz.ntmps138;go_wp2_with fail;go_ret;exact ⟨by rw[HN.out];rfl,Ext.refl _⟩
 have HN:=η4 (q0X (c:=c) (n:=n) (by omega));obtain ⟨N,hN⟩: ∃N:Nat,n=(N:Int):=⟨n.toNat,by omega⟩
 subst hN;have hN6:N≤999999:=by omega
 have HNb:=η4 hN6;rw[Int.toNat_natCast] at HN;obtain ⟨i,hi,hz,hsize,hby⟩:=info_parts Tryz.infoU8;have HCV:=η4 hcv;clear h0 h1 hcv;have b0:0≤(N:Int):=by omega
 have b1:(N:Int)≤999999:=by omega
 go_enter Tryz.func138,Tryz.ntmps138
 go_wp2_with (at_make;refine wpList_make_full _ rfl _ _ 154 rfl w.heap.size 5 i (.int .u8 0) 1 Tryz.underlying154 hi hz hsize .i64 .i64 _ _ 6 rfl rfl rfl rfl (by rw[hby];omega) (by unfold maxLen;omega) (Nat.le_refl _) ?_;intro w2 hown hg)
 clear hi hz hsize hby;have ho:=Own.of_row hown;rw[Nat.mul_one,show (madeCells (Value.int .u8 0).cells 6).toList=List.replicate 6 (.int .u8 0) from toList_madeCells_one _ _] at ho;have hb0:Ext w w2:=(Ext.refl w).grown hg (Nat.le_refl _) (fun k hk=>by cases hk);have HO:=η4 ho;have HB0:=η4 hb0;clear hown hg ho hb0
 go_loopw [1,14] (fun v i w'=> ∃k m:Nat,k≤6∧i= .int .i64 k∧v= .int .i64 m∧m=N/10^k∧Own w' w.heap.size 5 1 (.slice (some ⟨w.heap.size,0,none⟩) 6 6) 6 (List.replicate (6-k) (.int .u8 0)++(q4n k N).map q1L)∧Ext w w') (fun _ i _=>6-(intOf i).toNat)
 case atStart=>exact ⟨0,N,by omega,rfl,rfl,by simp,by simpa [q4n] using HO.out,HB0.out⟩
 case round=>
  clear HO HB0;obtain ⟨k,m,hk,rfl,rfl,hm,ho,hb⟩:=hrel;have HM:=η4 hm;have hm6:(m:Int)≤999999:=by have:=Nat.div_le_self N (10^k);have:=HNb.out;omega
  have Hb:=η4 hb;have HO:=η4 ho;clear hm;by_cases hlt:k<6
  ·obtain ⟨g,c',u,e,d1,d2,d3⟩:=ho.cellE (j:=5-k) (by omega)
   cases e;have hst:=ho.stored (g:=w.heap.size) (cap:=6) rfl (j:=5-k) (q1L (UInt8.ofNat (48+N/10^k % 10)));rw[z9Y k N hlt,←HM.out] at hst;have hbs:=hb.setCell (p:=⟨w.heap.size,5-k,none⟩) (Nat.le_refl _) (q1L (UInt8.ofNat (48+m % 10)));rw[show q1L (UInt8.ofNat (48+m % 10))= .int .u8 (48+(m:Int) % 10) from by rw[z7c]] at hst hbs;have HS:=η4 hst;have HBS:=η4 hbs;clear ho hb hst hbs;go_wp2_with fail
   go_roundw
   case rel=>exact ⟨k+1,m/10,by omega,by go_num,by go_num,by rw[HM.out,Nat.div_div_eq_div_mul,Nat.pow_succ],HS.out,HBS.out⟩
   case measure=>simp[intOf];omega
  ·have hk6:k=6:=by omega
   rw[hk6,Nat.sub_self,List.replicate_zero,List.nil_append] at ho;have hcv2:=q4K (P:=Tryz.prog) wr 154 9 5 (a:=⟨w.heap.size,0,none⟩) (n:=6) (cap:=6) Tryz.underlying154 Tryz.underlying5 Tryz.underlying9 (q0f 6 N) (by obtain ⟨_,_,e,_,_,_,r⟩:=ho.rd;cases e;exact r);have hcv:=HCV.out;clear hk6 ho hb;go_wp2_with fail;go_ret;exact ⟨by rw[HN.out];rfl,Hb.out⟩
theorem q4J (n:Int) (w:World):Calls Tryz.prog 91 #[.int .i64 n] w fun e w'=>e= .returned (.string ⟨(q0G 99 n).toArray⟩)∧Ext w w':=by
 go_enter Tryz.func91,Tryz.ntmps91;go_wp2_with fail;refine (z4q 99 _ _ _ rfl y0W).mono ?_;rintro e w1 ⟨rfl,hb⟩;have HB:=η4 hb;clear hb;go_wp2_with fail;go_ret;exact ⟨rfl,HB.out⟩
theorem z6U (n:Int) (w:World):Calls Tryz.prog 208 #[.int .i64 n] w fun e w'=>e= .returned (.string ⟨(q0G 116 n).toArray⟩)∧Ext w w':=by
 go_enter Tryz.func208,Tryz.ntmps208;go_wp2_with fail;refine (z4q 116 _ _ _ rfl y0Q).mono ?_;rintro e w1 ⟨rfl,hb⟩;have HB:=η4 hb;clear hb;go_wp2_with fail;go_ret;exact ⟨rfl,HB.out⟩
theorem z8s (n:Int) (w:World):Calls Tryz.prog 211 #[.int .i64 n] w fun e w'=>e= .returned (.string ⟨(q0G 98 n).toArray⟩)∧Ext w w':=by
 go_enter Tryz.func211,Tryz.ntmps211;go_wp2_with fail;refine (z4q 98 _ _ _ rfl y0R).mono ?_;rintro e w1 ⟨rfl,hb⟩;have HB:=η4 hb;clear hb;go_wp2_with fail;go_ret;exact ⟨rfl,HB.out⟩
def q1G (s:List UInt8):Bool:=decide (1≤s.length)&&decide (s.length≤32)
theorem q8s (s:List UInt8) (w:World) (hl:s.length≤9223372036854775807):Calls Tryz.prog 61 #[.string ⟨s.toArray⟩] w fun e w'=>e= .returned (.bool (q1G s))∧Ext w w':=by
 by_cases h0:s=[]
 ·subst h0
  go_enter Tryz.func61,Tryz.ntmps61;go_wp2_with fail;go_ret;exact ⟨rfl,Ext.refl _⟩
 have hp:1≤s.length:=by cases s with|nil=>exact absurd rfl h0|cons a r=>simp
 have he:(s==[])=false:=by simpa using h0
 have HS:Hid (q1G s=decide (s.length≤32)):=η4 (by unfold q1G;rw[decide_eq_true hp,Bool.true_and]);clear h0;go_enter Tryz.func61,Tryz.ntmps61;go_wp2_with fail;go_ret;exact ⟨rb (by rw[HS.out,decide_eq_decide];omega),Ext.refl _⟩
theorem z0j (s:List UInt8) (w:World) (hl:s.length≤9223372036854775807):Calls Tryz.prog 67 #[.string ⟨s.toArray⟩] w fun e w'=>e= .returned (.bool (q1G s))∧Ext w w':=by
 go_enter Tryz.func67,Tryz.ntmps67;go_wp2_with fail
 ·go_ret
  exact ⟨rb (by unfold q1G;rw[decide_eq_true (by omega),Bool.true_and,decide_eq_decide];omega),Ext.refl _⟩
 ·go_ret
  exact ⟨rb (by unfold q1G;rw[decide_eq_false (by omega)];rfl),Ext.refl _⟩
end
section
open Go.RowKit
theorem q2o {r:List UInt8} {k:Nat} {u:UInt8} (h:r[k]? =some u):unD (r.take (k+1))=unD (r.take k)*10+(u.toNat-48):=by
 obtain ⟨hk,rfl⟩:=List.getElem?_eq_some_iff.1 h;rw[List.take_succ_eq_append_getElem hk,q9E]
theorem q3R {r:List UInt8} {k:Nat} {u:UInt8} (h:r[k]? =some u) (ha:(r.take k).all q0U=true) (hu:q0U u=true):(r.take (k+1)).all q0U=true:=by
 obtain ⟨hk,rfl⟩:=List.getElem?_eq_some_iff.1 h;rw[List.take_succ_eq_append_getElem hk,List.all_append,ha]
 simpa using hu
theorem q4W {r:List UInt8} {k:Nat} {u:UInt8} (h:r[k]? =some u) (hu:q0U u=false):r.all q0U=false:=by
 obtain ⟨hk,rfl⟩:=List.getElem?_eq_some_iff.1 h;rw[List.all_eq_false];exact ⟨_,List.getElem_mem hk,by rw[hu];simp⟩
theorem z1T {r:List UInt8} {k:Nat} (hk:k≤6) (ha:(r.take k).all q0U=true):unD (r.take k)<1000000:=by
 have h1:=z0D _ ha;have h2:(r.take k).length≤6:=Nat.le_trans (List.length_take_le _ _) hk;exact Nat.lt_of_lt_of_le h1 (Nat.pow_le_pow_right (by decide) h2)
theorem q1H (u:UInt8):q0U u=true↔48≤u.toNat∧u.toNat≤57:=by
 unfold q0U;rw[Bool.and_eq_true,decide_eq_true_iff,decide_eq_true_iff]
theorem z0H (c:UInt8):c=99∨c=116∨c=98∨(q1s c=false∧(c.toNat:Int)≠99∧(c.toNat:Int)≠116∧(c.toNat:Int)≠98):=by
 by_cases h1:c=99
 ·exact .inl h1
 by_cases h2:c=116
 ·exact .inr (.inl h2)
 by_cases h3:c=98
 ·exact .inr (.inr (.inl h3))
 refine .inr (.inr (.inr ⟨?_,?_,?_,?_⟩))
 ·unfold q1s;simp[h1,h2,h3]
 ·intro h;exact h1 (UInt8.toNat_inj.1 (by show c.toNat=99;omega))
 ·intro h;exact h2 (UInt8.toNat_inj.1 (by show c.toNat=116;omega))
 ·intro h;exact h3 (UInt8.toNat_inj.1 (by show c.toNat=98;omega))
theorem q9j {s:List UInt8} {k:Nat} {u:UInt8} (h:s[k]? =some u): ∀h',(⟨s.toArray⟩:ByteArray)[k]'h'=u:=by
 obtain ⟨hk,rfl⟩:=List.getElem?_eq_some_iff.1 h;intro h';rfl
end
section
open Go.RowKit Go.Shelf
theorem y0d (l:List UInt8) (w:World) (hl:l.length≤9223372036854775807):
  Calls Tryz.prog 220 #[.string ⟨l.toArray⟩,.string ⟨#[48,49,50,51,52,53,54,55,56,57]⟩] w fun e w'=>e= .returned (.string ⟨(Lib.trimS l [48,49,50,51,52,53,54,55,56,57]).toArray⟩)∧Ext w w':=by
 have hcon:=Any.strings_Trim_laid Tryz.lays160 (by kernel_rfl) ⟨l.toArray⟩ ⟨#[48,49,50,51,52,53,54,55,56,57]⟩ w (by simpa [ByteArray.size] using hl) (by decide) (ascii_of_all (by decide));exact hcon
theorem z1v (s:List UInt8) (w:World) (_hl:s.length≤9223372036854775807):
  Calls Tryz.prog 172 #[.string ⟨s.toArray⟩] w fun e w'=>e= .returned (.tuple #[.int .u8 ((q0w s).1.toNat:Int),.int .i64 ((q0w s).2.1:Int),.bool (q0w s).2.2])∧Ext w w':=by
 by_cases h7:s.length=7
 case neg=>
  have HN:=η4 (q7D (s:=s) (fun h=>h7 h.1));have h7':((s.length:Int) !=7)=true:=by simp;omega
  clear h7;go_enter Tryz.func172,Tryz.ntmps172;go_wp2_with fail;go_ret3;exact ⟨by rw[HN.out];rfl,Ext.refl _⟩
 obtain ⟨c,hc⟩: ∃c,s[0]? =some c:=⟨_,List.getElem?_eq_getElem (by omega)⟩
 have hcd:s.getD 0 0=c:=by rw[List.getD_eq_getElem?_getD,hc];rfl
 have hc0:=q9j hc;have HS7:=η4 h7;have HCD:=η4 hcd;have HAll:Hid ((s.drop 1).all q0U=true→q1s (s.getD 0 0)=true→q0w s=(s.getD 0 0,unD (s.drop 1),true)):=η4 (fun h h2=>q8N ⟨HS7.out,h2,h⟩);have HNot:Hid ((s.drop 1).all q0U=false→q0w s=(0,0,false)):=η4 (fun h=>q7D (fun hh=>by rw[h] at hh;exact absurd hh.2.2 (by simp)));have HAt:Hid (∀k,(s.drop 1)[k]? =s[k+1]?):=η4 (fun k=>by rw[List.getElem?_drop,Nat.add_comm]);have HRl:Hid ((s.drop 1).length=6):=η4 (by rw[List.length_drop,HS7.out]);have htk:(s.take 7).tail=s.drop 1:=by rw[List.take_of_length_le (by omega)];simp
 have h7':((s.length:Int) !=7)=false:=by simp;omega
 clear hc hcd;generalize s.drop 1=r at*;obtain ⟨T,hT⟩: ∃T,Lib.trimS r [48,49,50,51,52,53,54,55,56,57]=T:=⟨_,rfl⟩
 have hTd:=z1X r;rw[hT] at hTd;have HT:=η4 hT;have HTD:=η4 hTd;clear hT hTd;go_enter Tryz.func172,Tryz.ntmps172;go_wp2_with fail;refine (y0d r _ (by have:=HRl.out;omega)).mono ?_;rw[HT.out];rintro e w1 ⟨rfl,hb⟩;have HB:=η4 hb;clear hb htk;by_cases hTe:T=[]
 case neg=>
  have HN:=η4 (HNot.out (by rw[Bool.eq_false_iff];intro h;exact hTe (HTD.out.2 h)));have hTb:(T==[])=false:=by simpa using hTe
  have hTn:(T !=[])=true:=by simpa using hTe
  clear hTe;go_wp2_with fail;go_ret3;exact ⟨by rw[HN.out];rfl,HB.out⟩
 have HA:=η4 (HTD.out.1 hTe);subst hTe;rcases z0H c with hlt|hlt|hlt|⟨hlt,n1,n2,n3⟩
 case inr.inr.inr=>
  have HN:=η4 (q7D (s:=s) (fun h=>by rw[HCD.out,hlt] at h;exact absurd h.2.1 (by simp)));clear hlt;go_wp2_with fail;go_ret3;exact ⟨by rw[HN.out];rfl,HB.out⟩
 all_goals
  subst hlt;have HY:=η4 (HAll.out HA.out (by rw[HCD.out];rfl));go_wp2_with fail
  go_loopw [3,21] (fun v i w'=> ∃j m:Nat,j≤6∧i= .int .i64 j∧v= .int .i64 m∧m=unD (r.take j)∧Ext w w') (fun _ i _=>6-(intOf i).toNat)
  case atStart=>exact ⟨0,0,by omega,rfl,rfl,rfl,HB.out⟩
  case round=>
   obtain ⟨j,m,hj7,rfl,rfl,hm,hb⟩:=hrel;have hat:(r.take j).all q0U=true:=List.all_eq_true.2 fun x hx=>List.all_eq_true.1 HA.out x (List.mem_of_mem_take hx)
   have hm6:(m:Int)≤999999:=by have:=z1T (by omega) hat;omega
   have HM:=η4 hm;have Hb:=η4 hb;clear hm hb hat;by_cases hlt:j<6
   ·obtain ⟨u,hu⟩: ∃u,r[j]? =some u:=⟨_,List.getElem?_eq_getElem (by have:=HRl.out;omega)⟩
    have hu1:=q9j (s:=s) (k:=j+1) (u:=u) (by rw[HAt.out] at hu;exact hu);have hu2:=q9j (s:=s) (k:=1+j) (u:=u) (by rw[HAt.out,Nat.add_comm] at hu;exact hu);have HU:=η4 hu;have hk7:j+1<s.length:=by have:=HS7.out;omega
    have hk8:1+j<s.length:=by have:=HS7.out;omega
    have hd:=(q1H u).1 (List.all_eq_true.1 HA.out u (List.mem_of_getElem? hu));have hlo':48≤(u.toNat:Int):=by omega
    have hhi':(u.toNat:Int)≤57:=by omega
    clear hu hd;go_wp2_with fail
    go_roundw
    case rel=>exact ⟨j+1,10*m+(u.toNat-48),by omega,by go_num,by go_num,by rw[q2o HU.out,←HM.out];omega,Hb.out⟩
    case measure=>simp[intOf];omega
   ·have hk6:j=6:=by omega
    subst hk6;have ht:r.take 6=r:=List.take_of_length_le (by have:=HRl.out;omega);rw[ht] at HM;have hs0:0<s.length:=by have:=HS7.out;omega
    clear ht;go_wp2_with fail;go_ret3;exact ⟨by rw[HY.out,HCD.out,HM.out];rfl,Hb.out⟩
end
end Go.Proofs.YthdekbmdkpcooaaGreatDoor
