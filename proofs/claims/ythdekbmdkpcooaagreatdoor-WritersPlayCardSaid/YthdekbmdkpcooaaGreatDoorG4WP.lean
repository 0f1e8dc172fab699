/- Plain laws on states. -/
import Derived.WalkLawsBesides
import Derived.Test.YthdekbmdkpcooaaGreatDoorG3WP
set_option linter.unusedVariables false
set_option linter.unusedSimpArgs false
set_option maxRecDepth 100000
set_option maxHeartbeats 800000
namespace Go.Proofs.YthdekbmdkpcooaaGreatDoor
section
open Go.RowKit
end
section
open Go.RowKit
def q1e (s:List UInt8):List UInt8:=if s.length≤65535 then be 2 s.length++s else []
theorem q1V {s:List UInt8} (h:s.length≤65535):q1e s=be 2 s.length++s:=by unfold q1e;rw[if_pos h]
theorem z2p {s:List UInt8} (h:¬s.length≤65535):q1e s=[]:=by unfold q1e;rw[if_neg h]
theorem be2 (x:Nat):be 2 x=[UInt8.ofNat (x/256),UInt8.ofNat x]:=by simp[be]
end
section
open Go.RowKit
end
section
open Go.RowKit
end
section
open Go.RowKit
theorem z4y (s:List UInt8) (w:World) (hl:s.length≤4611686018427387903):
  Calls Tryz.prog 69 #[.string ⟨s.toArray⟩] w fun e w'=>e= .returned (.string ⟨(q1e s).toArray⟩)∧Ext w w':=by
 by_cases h:65535<(s.length:Int)
 ·have HT:=Lib.hid (z2p (s:=s) (by omega))
  go_enter Tryz.func69,Tryz.ntmps69;go_wp2_with fail;go_ret;exact ⟨by rw[HT.out];rfl,Ext.refl _⟩
 ·have HT:=Lib.hid (q1V (s:=s) (by omega))
  have h':(s.length:Int)≤65535:=by omega
  clear h;go_enter Tryz.func69,Tryz.ntmps69;go_wp2_with fail;refine (y1i s.length 2 2 _ rfl (by decide) (by decide) (by omega)).mono ?_;rintro e w1 ⟨rfl,hb⟩;have HB:=Lib.hid hb;clear hb;have hbl:=q0H 2 s.length;go_wp2_with fail;go_ret;exact ⟨by rw[HT.out,ByteArray.mk_append_mk];simp,HB.out⟩
theorem q7e (s:List UInt8) (w:World) (hl:s.length≤4611686018427387903):
  Calls Tryz.prog 82 #[.string ⟨s.toArray⟩] w fun e w'=>e= .returned (.string ⟨(q1e s).toArray⟩)∧Ext w w':=by
 by_cases h:65535<(s.length:Int)
 ·have HT:=Lib.hid (z2p (s:=s) (by omega))
  go_enter Tryz.func82,Tryz.ntmps82;go_wp2_with fail;go_ret;exact ⟨by rw[HT.out];rfl,Ext.refl _⟩
 ·have HT:=Lib.hid (q1V (s:=s) (by omega))
  have h':(s.length:Int)≤65535:=by omega
  have hv0:(s.length:Int)/256=((UInt8.ofNat (s.length/256)).toNat:Int):=by rw[UInt8.toNat_ofNat'];omega
  have hv1:(s.length:Int) % 256=((UInt8.ofNat s.length).toNat:Int):=by rw[UInt8.toNat_ofNat'];omega
  have hrd:=q2d (P:=Tryz.prog) (w.alloc (.cells #[.int .u8 ((s.length:Int)/256),.int .u8 ((s.length:Int) % 256)] 5)) 154 9 5 (a:=⟨w.heap.size,0,none⟩) (n:=2) (cap:=2) (l:=[UInt8.ofNat (s.length/256),UInt8.ofNat s.length]) Tryz.underlying154 Tryz.underlying5 Tryz.underlying9 rfl (by
   have:=Rd.lit w #[.int .u8 ((s.length:Int)/256),.int .u8 ((s.length:Int) % 256)] 5;rw[hv0,hv1] at this⊢
   exact this)
  have HBe:=Lib.hid (be2 s.length);clear h hv0 hv1;go_enter Tryz.func82,Tryz.ntmps82;go_wp2_with fail;go_ret;exact ⟨by rw[HT.out,HBe.out,show (⟨#[UInt8.ofNat (s.length/256),UInt8.ofNat s.length]⟩:ByteArray)=⟨[UInt8.ofNat (s.length/256),UInt8.ofNat s.length].toArray⟩ from rfl,ByteArray.mk_append_mk];simp,q0B _ _⟩
end
end Go.Proofs.YthdekbmdkpcooaaGreatDoor
