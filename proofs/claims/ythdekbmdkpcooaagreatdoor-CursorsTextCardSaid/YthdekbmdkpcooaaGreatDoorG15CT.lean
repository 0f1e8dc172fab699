/- Walks. -/
import Derived.Test.YthdekbmdkpcooaaGreatDoorG5CT
import Derived.Test.YthdekbmdkpcooaaGreatDoorG8CT
set_option linter.unusedVariables false
set_option linter.unusedSimpArgs false
set_option maxRecDepth 100000
set_option maxHeartbeats 1600000
namespace Go.Proofs.YthdekbmdkpcooaaGreatDoor
open Go.RowKit
def q7Z (s:List UInt8):Bool:=decide (2≤s.length)&&decide (q1F (s.take 2)+2≤s.length)
def rdT (s:List UInt8):List UInt8:=if q7Z s then (s.take (2+q1F (s.take 2))).drop 2 else []
def rdR (s:List UInt8):List UInt8:=if q7Z s then s.drop (2+q1F (s.take 2)) else []
theorem z1Q (s:List UInt8) (w:World) (hl:s.length≤4611686018427387903):
  Calls Tryz.prog 143 #[.string ⟨s.toArray⟩] w fun e w'=>e= .returned (.tuple #[.string ⟨(rdT s).toArray⟩,.string ⟨(rdR s).toArray⟩,.bool (q7Z s)])∧Ext w w':=by
 by_cases h2:(s.length:Int)<2
 ·have ho:q7Z s=false:=by unfold q7Z;rw[decide_eq_false (by omega)];rfl
  have HT:Hid (rdT s=[]):=Lib.hid (by unfold rdT;rw[ho];rfl);have HR:Hid (rdR s=[]):=Lib.hid (by unfold rdR;rw[ho];rfl);have HO:=Lib.hid ho;clear ho;go_enter Tryz.func143,Tryz.ntmps143;go_wp2_with fail;go_ret3;exact ⟨by rw[HT.out,HR.out,HO.out];rfl,Ext.refl _⟩
 have h2':2≤s.length:=by omega
 have hu:=q1p (s.take 2);rw[List.length_take,Nat.min_eq_left h2'] at hu;have ht8:(s.take 2).take 8=s.take 2:=List.take_of_length_le (by simp;omega);have HT8:=Lib.hid ht8;have HO:Hid (q7Z s=decide (q1F (s.take 2)+2≤s.length)):=Lib.hid (by unfold q7Z;rw[decide_eq_true h2',Bool.true_and]);have HTl:Hid ((s.take 2).length≤9223372036854775807):=Lib.hid (by simp;omega);have HTT:Hid (q7Z s=true→rdT s=(s.take (2+q1F (s.take 2))).drop 2∧rdR s=s.drop (2+q1F (s.take 2))):=Lib.hid (fun h=>by unfold rdT rdR;rw[h];exact ⟨rfl,rfl⟩);have HFF:Hid (q7Z s=false→rdT s=[]∧rdR s=[]):=Lib.hid (fun h=>by unfold rdT rdR;rw[h];exact ⟨rfl,rfl⟩);obtain ⟨u,hu2⟩: ∃u,q1F (s.take 2)=u:=⟨_,rfl⟩
 rw[hu2] at hu HO HTT;have HU:=Lib.hid hu2;have hu3:(u:Int)≤65535:=by omega
 clear ht8 hu2 hu h2;go_enter Tryz.func143,Tryz.ntmps143;go_wp2_with fail;refine (q8S (s.take 2) _ HTl.out).mono ?_;rw[HT8.out,HU.out];rintro e w1 ⟨rfl,hb⟩;have HB:=Lib.hid hb;clear hb;by_cases hlt:(s.length:Int)-2<(u:Int)
 ·have hof:q7Z s=false:=by rw[HO.out];exact decide_eq_false (by omega)
  have HF:=Lib.hid (HFF.out hof);have HOF:=Lib.hid hof;clear hof;go_wp2_with fail;go_ret3;exact ⟨by rw[HF.out.1,HF.out.2,HOF.out];rfl,HB.out⟩
 ·have hof:q7Z s=true:=by rw[HO.out];exact decide_eq_true (by omega)
  have HF:=Lib.hid (HTT.out hof);have HOF:=Lib.hid hof;clear hof;have hlt':(u:Int)≤(s.length:Int)-2:=by omega
  have hlt2:2+u≤s.length:=by omega
  clear hlt;have hs1:IntKind.i64.wrap (2+(u:Int))=2+(u:Int):=IntWalk.i64_in _ (by omega);have hs2:(2+(u:Int)).toNat=2+u:=by omega
  have hs3:0≤2+(u:Int):=by omega
  have hs4:2≤2+(u:Int):=by omega
  have hs5:2+(u:Int)≤(s.length:Int):=by omega
  go_wp2_with fail;refine q0E (by kernel_rfl) (by kernel_rfl) ?_
  repeat (go_big_quiet_step (fail))
  refine wpQuiet_nil ?_;intro w4 hw4;have HW:=Lib.hid (HB.out.trans hw4);clear hw4;go_wp2_with fail;go_ret3;exact ⟨by rw[HF.out.1,HF.out.2,HOF.out];rfl,HW.out⟩
theorem q7W (s:List UInt8):(rdR s).length≤s.length:=by unfold rdR;split<;>simp
theorem z2m (s:List UInt8):(rdT s).length≤s.length:=by unfold rdT;split<;>simp;omega
end Go.Proofs.YthdekbmdkpcooaaGreatDoor
