/- Walks. -/
import Derived.Test.YtjlcdfpbllobaaaGreatDoorG8CL
import Derived.Test.YtjlcdfpbllobaaaGreatDoorG10CL
set_option linter.unusedVariables false
set_option linter.unusedSimpArgs false
set_option maxRecDepth 100000
set_option maxHeartbeats 6400000
namespace Go.Proofs.YtjlcdfpbllobaaaGreatDoor
variable {a:UInt8}{ds:List UInt8}{n:Nat}
section
open Go.RowKit
def y0A(o:Option Cur):Cur×Int:=match o with|some c=>(c,0)|none=>(z7Q,10)
theorem z8W{s:List UInt8}(h:58∉s):q4d s=none:=by unfold q4d;rw[ξ h]
theorem z8X{s:List UInt8}(h:58∈s)(b:s.takeWhile (· !=58)=[]):q4d s=none:=by unfold q4d;rw[κ (by simpa using h),b]
theorem z8Y{s:List UInt8}(h:58∈s)(b:s.takeWhile (· !=58)=a::ds)(d:a≠102/\a≠98):q4d s=none:=by unfold q4d;rw[κ (by simpa using h),b];simp only;rw[ξ d]
theorem z8Z{s:List UInt8}(h:58∈s)(b:s.takeWhile (· !=58)=a::ds)(d:¬(a≠102/\a≠98))(i:z5e ds=none):q4d s=none:=by unfold q4d;rw[κ (by simpa using h),b];simp only;rw[κ d,i]
theorem z8a{s:List UInt8}(h:58∈s)(b:s.takeWhile (· !=58)=a::ds)(d:¬(a≠102/\a≠98))(i:z5e ds=some n):
  q4d s=if q4F ⟨(s.dropWhile (· !=58)).tail,(n:Int)-1,a==98⟩=true then some ⟨(s.dropWhile (· !=58)).tail,(n:Int)-1,a==98⟩ else none:=by
 unfold q4d;rw[κ (by simpa using h),b];simp only;rw[κ d,i,List.drop_one]
theorem y3W{l:List UInt8}(h:z5e l=some n):n<10000000000:=by
 obtain⟨_,b,d,i,_⟩:=z2u h;have j:=z6H l d;have m:10^l.length<=10^10:=Nat.pow_le_pow_right (by decide) b;have o:(10:Nat)^10=10000000000:=by decide
 omega
theorem z2P(s :List UInt8)(hs:s.length<=1000000)(w:World):Calls Tryz.prog 31 #[.string ⟨s.toArray⟩] w fun e w'=>e= .returned (.tuple #[z9z (y0A (q4d s)).1,.int .i64 (y0A (q4d s)).2])/\Ext w w':=by
 have HC:=η (fun W=>y2p s (by omega) W);have V:=η (q0B w (.cells #[.string ⟨#[]⟩,.int .i64 0,.bool false] 86));have I:=η (Blk.new w 86 #[.string ⟨#[]⟩,.int .i64 0,.bool false]);obtain⟨R,hR⟩: ∃R,y0A (q4d s)=R:=⟨_,rfl⟩
 have HR:=η hR;rw[hR];have hl:=congrArg List.length (List.takeWhile_append_dropWhile (p:=(· !=58)) (l:=s));rw[θ] at hl;have d0:(s.dropWhile (· !=58)).tail.length<=s.length:=by rw[List.length_tail];omega
 have b0:(s.takeWhile (· !=58)).length<=s.length:=by omega
 clear hl;clear hR;go_enter Tryz.func31,Tryz.ntmps31;go_wp2_with fail;refine(HC.o _).mono ?_;rintro e w1 ⟨i,⟨hm,rfl⟩|⟨hm,rfl⟩⟩
 ·have Q:=η (V.o.trans i)
  have b:=I.o.ext i;have k0:=b.cell 0;have k1:=b.cell 1;have k2:=b.cell 2;have X:=b.free 0;have Y:=b.free 1;have Z:=b.free 2;have C:Hd (R=(z7Q,10)):=η (by rw[<-HR.o,z8W hm];rfl);clear i hm b HC I;go_wp2_with fail
  ((try simp only[Exit.inBlock,Exit.then]);refine bodyPost_ret (v:= .tuple #[.agg #[.string ⟨#[]⟩,.int .i64 0,.bool false],.int .i64 10]) (by rw[q0J rfl];go_simp) rfl ?_)
  exact⟨by rw[C.o],((Q.o.setCell (p:=⟨w.heap.size,0,none⟩) (ι _) _).setCell (p:=⟨w.heap.size,1,none⟩) (ι _) _).setCell (p:=⟨w.heap.size,2,none⟩) (ι _) _⟩
 ·have g0 :=i
  obtain⟨A,hA⟩: ∃A,s.takeWhile (· !=58)=A:=⟨_,rfl⟩
  obtain⟨B,hB⟩: ∃B,(s.dropWhile (· !=58)).tail=B:=⟨_,rfl⟩
  have HA:=η hA;have c0:=η hB;have HM:=η hm;rw[hA] at b0;rw[hB] at d0;simp only[hA,hB];have Q:=η (V.o.trans i);have b:=I.o.ext i;have J:=η b;have k0:=b.cell 0;have k1:=b.cell 1;have k2:=b.cell 2;have X:=b.free 0;have Y:=b.free 1;have Z:=b.free 2;clear hA hB hm i g0 b HC I V
  cases A with
  | nil=>
   have C:Hd (R=(z7Q,10)):=η (by rw[<-HR.o,z8X HM.o HA.o];rfl);go_wp2_with fail
   ((try simp only[Exit.inBlock,Exit.then]);refine bodyPost_ret (v:= .tuple #[.agg #[.string ⟨#[]⟩,.int .i64 0,.bool false],.int .i64 10]) (by rw[q0J rfl];go_simp) rfl ?_)
   exact⟨by rw[C.o],((Q.o.setCell (p:=⟨w.heap.size,0,none⟩) (ι _) _).setCell (p:=⟨w.heap.size,1,none⟩) (ι _) _).setCell (p:=⟨w.heap.size,2,none⟩) (ι _) _⟩
  | cons a ds=>
   rw[χ] at b0;by_cases E:a≠102/\a≠98
   ·have d1:(a==102)=false:=beq_eq_false_iff_ne.2 E.1
    have d2:(a==98)=false:=beq_eq_false_iff_ne.2 E.2;have d3:(a !=102)=true:=by simpa using E.1
    have d4:(a !=98)=true:=by simpa using E.2
    have C:Hd (R=(z7Q,10)):=η (by rw[<-HR.o,z8Y HM.o HA.o E];rfl);clear E;go_wp2_with fail
    ((try simp only[Exit.inBlock,Exit.then]);refine bodyPost_ret (v:= .tuple #[.agg #[.string ⟨#[]⟩,.int .i64 0,.bool false],.int .i64 10]) (by rw[q0J rfl];go_simp) rfl ?_)
    exact⟨by rw[C.o],((Q.o.setCell (p:=⟨w.heap.size,0,none⟩) (ι _) _).setCell (p:=⟨w.heap.size,1,none⟩) (ι _) _).setCell (p:=⟨w.heap.size,2,none⟩) (ι _) _⟩
   ·have a0:a=102\/a=98:=by
     by_cases e:a=102
     ·exact .inl e
     ·exact .inr (Decidable.not_not.1 fun e2=>E ⟨e,e2⟩)
    have r:=η (fun W=>y1W ds (by omega) W);have N:(z5e ds=none/\y0D ds= -1)\/ ∃n:Nat,z5e ds=some n/\y0D ds=(n:Int)/\n<10000000000:=by
     unfold y0D
     cases h:z5e ds with
     |none=>exact .inl ⟨rfl,rfl⟩
     |some n=>exact .inr ⟨n,rfl,rfl,y3W h⟩
    rcases N with⟨F,G⟩|⟨n,F,G,e0⟩
    ·have C:Hd (R=(z7Q,10)):=η (by rw[<-HR.o,z8Z HM.o HA.o E F];rfl)
     rw[G] at r;clear E F G;rcases a0 with rfl|rfl
     ·go_wp2_with fail
      refine(r.o _).mono ?_;rintro e O ⟨rfl,i⟩;have j:=q0B O (.cells #[.string ⟨B.toArray⟩,.int .i64 (-2),.bool false] 86);have y:=η ((Q.o.trans i).trans j);have b:=J.o.ext (i.trans j);have k0:=b.cell 0;have k1:=b.cell 1;have k2:=b.cell 2;have X:=b.free 0;have Y:=b.free 1;have Z:=b.free 2;clear i b j;go_wp2_with fail
      ((try simp only[Exit.inBlock,Exit.then]);refine bodyPost_ret (v:= .tuple #[.agg #[.string ⟨#[]⟩,.int .i64 0,.bool false],.int .i64 10]) (by rw[q0J rfl];go_simp) rfl ?_)
      exact⟨by rw[C.o],((y.o.setCell (p:=⟨w.heap.size,0,none⟩) (ι _) _).setCell (p:=⟨w.heap.size,1,none⟩) (ι _) _).setCell (p:=⟨w.heap.size,2,none⟩) (ι _) _⟩
     ·go_wp2_with fail
      refine(r.o _).mono ?_;rintro e O ⟨rfl,i⟩;have j:=q0B O (.cells #[.string ⟨B.toArray⟩,.int .i64 (-2),.bool true] 86);have y:=η ((Q.o.trans i).trans j);have b:=J.o.ext (i.trans j);have k0:=b.cell 0;have k1:=b.cell 1;have k2:=b.cell 2;have X:=b.free 0;have Y:=b.free 1;have Z:=b.free 2;clear i b j;go_wp2_with fail
      ((try simp only[Exit.inBlock,Exit.then]);refine bodyPost_ret (v:= .tuple #[.agg #[.string ⟨#[]⟩,.int .i64 0,.bool false],.int .i64 10]) (by rw[q0J rfl];go_simp) rfl ?_)
      exact⟨by rw[C.o],((y.o.setCell (p:=⟨w.heap.size,0,none⟩) (ι _) _).setCell (p:=⟨w.heap.size,1,none⟩) (ι _) _).setCell (p:=⟨w.heap.size,2,none⟩) (ι _) _⟩
    ·have C:Hd (R=y0A (if q4F ⟨B,(n:Int)-1,a==98⟩=true then some ⟨B,(n:Int)-1,a==98⟩ else none)):=η (by rw[<-HR.o,z8a HM.o HA.o E F,c0.o])
     rw[G] at r;obtain⟨m,hm⟩: ∃m:Int,(n:Int)-1=m:=⟨_,rfl⟩
     have q1:IntKind.i64.wrap ((n:Int)-1)=m:=by rw[ν];omega
     have d5:decide ((n:Int)<0)=false:=ε (by omega);rw[hm] at C;have M:=η (fun (d:Bool) W=>q8B ⟨B,m,d⟩ (by show B.length<=9223372036854775807;omega) W);have h0:(n:Int)<=10000000000:=by omega
     clear E F G hm e0;rcases a0 with rfl|rfl
     ·have u:=η (M.o false)
      have x:Hd (R=y0A (if q4F ⟨B,m,false⟩=true then some ⟨B,m,false⟩ else none)):=C.o;obtain⟨z,hz⟩: ∃z,q4F ⟨B,m,false⟩=z:=⟨_,rfl⟩
      rw[hz] at u x;clear M C hz;go_wp2_with fail;refine(r.o _).mono ?_;rintro e O ⟨rfl,i⟩;have j:=q0B O (.cells #[.string ⟨B.toArray⟩,.int .i64 m,.bool false] 86);have y:=η ((Q.o.trans i).trans j);have S:=η (J.o.ext (i.trans j));have U:=η (Blk.new O 86 #[.string ⟨B.toArray⟩,.int .i64 m,.bool false]);clear i j r k0 k1 k2 X Y Z;go_wp2_with fail;refine(u.o _).mono ?_;rintro e w3 ⟨rfl,i⟩;have D:=η (y.o.trans i);have b:=S.o.ext i;have k0:=b.cell 0;have k1:=b.cell 1;have k2:=b.cell 2;have X:=b.free 0;have Y:=b.free 1;have Z:=b.free 2;have q:=U.o.ext i;have j0:=q.cell 0;have j1:=q.cell 1;have j2:=q.cell 2;clear i b q u
      cases z with
      | false=>
       go_wp2_with fail
       ((try simp only[Exit.inBlock,Exit.then]);refine bodyPost_ret (v:= .tuple #[.agg #[.string ⟨#[]⟩,.int .i64 0,.bool false],.int .i64 10]) (by rw[q0J rfl];go_simp) rfl ?_)
       exact⟨by rw[x.o];rfl,((D.o.setCell (p:=⟨w.heap.size,0,none⟩) (ι _) _).setCell (p:=⟨w.heap.size,1,none⟩) (ι _) _).setCell (p:=⟨w.heap.size,2,none⟩) (ι _) _⟩
      | true=>
       go_wp2_with fail
       ((try simp only[Exit.inBlock,Exit.then]);refine bodyPost_ret (v:= .tuple #[.agg #[.string ⟨B.toArray⟩,.int .i64 m,.bool false],.int .i64 0]) (by rw[q0J rfl];go_simp) rfl ?_)
       exact⟨by rw[x.o];rfl,((D.o.setCell (p:=⟨w.heap.size,0,none⟩) (ι _) _).setCell (p:=⟨w.heap.size,1,none⟩) (ι _) _).setCell (p:=⟨w.heap.size,2,none⟩) (ι _) _⟩
     ·have u:=η (M.o true)
      have x:Hd (R=y0A (if q4F ⟨B,m,true⟩=true then some ⟨B,m,true⟩ else none)):=C.o;obtain⟨z,hz⟩: ∃z,q4F ⟨B,m,true⟩=z:=⟨_,rfl⟩
      rw[hz] at u x;clear M C hz;go_wp2_with fail;refine(r.o _).mono ?_;rintro e O ⟨rfl,i⟩;have j:=q0B O (.cells #[.string ⟨B.toArray⟩,.int .i64 m,.bool true] 86);have y:=η ((Q.o.trans i).trans j);have S:=η (J.o.ext (i.trans j));have U:=η (Blk.new O 86 #[.string ⟨B.toArray⟩,.int .i64 m,.bool true]);clear i j r k0 k1 k2 X Y Z;go_wp2_with fail;refine(u.o _).mono ?_;rintro e w3 ⟨rfl,i⟩;have D:=η (y.o.trans i);have b:=S.o.ext i;have k0:=b.cell 0;have k1:=b.cell 1;have k2:=b.cell 2;have X:=b.free 0;have Y:=b.free 1;have Z:=b.free 2;have q:=U.o.ext i;have j0:=q.cell 0;have j1:=q.cell 1;have j2:=q.cell 2;clear i b q u
      cases z with
      | false=>
       go_wp2_with fail
       ((try simp only[Exit.inBlock,Exit.then]);refine bodyPost_ret (v:= .tuple #[.agg #[.string ⟨#[]⟩,.int .i64 0,.bool false],.int .i64 10]) (by rw[q0J rfl];go_simp) rfl ?_)
       exact⟨by rw[x.o];rfl,((D.o.setCell (p:=⟨w.heap.size,0,none⟩) (ι _) _).setCell (p:=⟨w.heap.size,1,none⟩) (ι _) _).setCell (p:=⟨w.heap.size,2,none⟩) (ι _) _⟩
      | true=>
       go_wp2_with fail
       ((try simp only[Exit.inBlock,Exit.then]);refine bodyPost_ret (v:= .tuple #[.agg #[.string ⟨B.toArray⟩,.int .i64 m,.bool true],.int .i64 0]) (by rw[q0J rfl];go_simp) rfl ?_)
       exact⟨by rw[x.o];rfl,((D.o.setCell (p:=⟨w.heap.size,0,none⟩) (ι _) _).setCell (p:=⟨w.heap.size,1,none⟩) (ι _) _).setCell (p:=⟨w.heap.size,2,none⟩) (ι _) _⟩
end
end Go.Proofs.YtjlcdfpbllobaaaGreatDoor
