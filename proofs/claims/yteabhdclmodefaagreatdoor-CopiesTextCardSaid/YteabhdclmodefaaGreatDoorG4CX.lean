/- Plain laws on states. -/
import Derived.Test.YteabhdclmodefaaGreatDoorG3CX
set_option linter.unusedVariables false
set_option linter.unusedSimpArgs false
set_option maxRecDepth 100000
set_option maxHeartbeats 800000
namespace Go.Proofs.YteabhdclmodefaaGreatDoor
section
open Go.RowKit
def q1P(s:List UInt8):List UInt8:=if s.length<=65535 then be 2 s.length++s else []
theorem q1X{s:List UInt8}(h:s.length<=65535):q1P s=be 2 s.length++s:=by unfold q1P;rw[ξ h]
theorem z3R{s:List UInt8}(h:¬s.length<=65535):q1P s=[]:=by unfold q1P;rw[κ h]
theorem be2(x:Nat):be 2 x=[UInt8.ofNat (x/256),UInt8.ofNat x]:=by simp[be]
theorem z3S(s:List UInt8)(w:World)(m:s.length<=4611686018427387903):
  Calls Tryz.prog 32 #[.string ⟨s.toArray⟩] w fun e w'=>e= .returned (.string ⟨(q1P s).toArray⟩)/\Ext w w':=by
 by_cases h:65535<(s.length:Int)
 ·have b:=η (z3R (s:=s) (by omega))
  go_enter Tryz.func32,Tryz.ntmps32;go_wp2_with fail;go_ret;exact⟨by rw[b.o];rfl,Ext.refl _⟩
 ·have b:=η (q1X (s:=s) (by omega))
  have l:(s.length:Int)<=65535:=by omega
  clear h;go_enter Tryz.func32,Tryz.ntmps32;go_wp2_with fail;refine(y1G s.length 2 2 _ rfl (by decide) (by decide) (by omega)).mono ?_;rintro e w1 ⟨rfl,d⟩;have i:=η d;clear d;have j:=q0F 2 s.length;go_wp2_with fail;go_ret;exact⟨by rw[b.o,ByteArray.mk_append_mk];simp,i.o⟩
theorem q7X(s:List UInt8)(w:World)(r:s.length<=4611686018427387903):
  Calls Tryz.prog 40 #[.string ⟨s.toArray⟩] w fun e w'=>e= .returned (.string ⟨(q1P s).toArray⟩)/\Ext w w':=by
 by_cases h:65535<(s.length:Int)
 ·have j:=η (z3R (s:=s) (by omega))
  go_enter Tryz.func40,Tryz.ntmps40;go_wp2_with fail;go_ret;exact⟨by rw[j.o];rfl,Ext.refl _⟩
 ·have j:=η (q1X (s:=s) (by omega))
  have q:(s.length:Int)<=65535:=by omega
  have b:(s.length:Int)/256=((UInt8.ofNat (s.length/256)).toNat:Int):=by rw[UInt8.toNat_ofNat'];omega
  have d:(s.length:Int) % 256=((UInt8.ofNat s.length).toNat:Int):=by rw[UInt8.toNat_ofNat'];omega
  have m:=q2g (P:=Tryz.prog) (w.alloc (.cells #[.int .u8 ((s.length:Int)/256),.int .u8 ((s.length:Int) % 256)] 5)) 31 9 5 (a:=⟨w.heap.size,0,none⟩) (n:=2) (cap:=2) (l:=[UInt8.ofNat (s.length/256),UInt8.ofNat s.length]) Tryz.underlying31 Tryz.underlying5 Tryz.underlying9 rfl (by
   have:=Rd.lit w #[.int .u8 ((s.length:Int)/256),.int .u8 ((s.length:Int) % 256)] 5;rw[b,d] at this⊢
   exact this)
  have i:=η (be2 s.length);clear h b d;go_enter Tryz.func40,Tryz.ntmps40;go_wp2_with fail;go_ret;exact⟨by rw[j.o,i.o,show(⟨#[UInt8.ofNat (s.length/256),UInt8.ofNat s.length]⟩:ByteArray)=⟨[UInt8.ofNat (s.length/256),UInt8.ofNat s.length].toArray⟩ from rfl,ByteArray.mk_append_mk];simp,q0B _ _⟩
end
end Go.Proofs.YteabhdclmodefaaGreatDoor
