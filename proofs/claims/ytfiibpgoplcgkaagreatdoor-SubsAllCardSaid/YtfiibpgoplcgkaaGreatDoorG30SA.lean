/- Walks. -/
import Derived.Test.YtfiibpgoplcgkaaGreatDoorG11SA
import Derived.Test.YtfiibpgoplcgkaaGreatDoorG27SA
set_option linter.unusedVariables false
set_option linter.unusedSimpArgs false
set_option maxRecDepth 100000
set_option maxHeartbeats 3200000
namespace Go.Proofs.YtfiibpgoplcgkaaGreatDoor
variable {w:World}{g:Nat}{F:Nat->Prop}
section
open Go.RowKit
def mapN :List UInt8:=[109,97,112]
def z2X :List UInt8:=[110,101,119]
def y3d(w:World)(g:Nat)(F:Nat->Prop)(σ':DM)(r:Got)(e:Ending)(w':World):Prop:=
 ∃a c,e= .returned (.tuple #[.agg #[.int .i64 r.nx,.int .i64 r.ck,.int .u64 r.sd,.slice a r.L.length c],.int .i64 r.en])/\Grid w' a r.L.length c r.L/\DkS w g F σ' w'
theorem z6t{σ:DM}(h:Dk w g F σ)(hm:q1m σ mapN=(0,4)):
  Calls Tryz.prog 199 #[.pointer (some ⟨g,0,none⟩)] w (y3d w g F σ ⟨0,0,0,[],4⟩):=by
 have H:=η h;have d:=η (q6p (h.ext (q0B w (.cells #[.int .i64 0,.int .i64 0,.int .u64 0,.slice none 0 0] 47))) mapN (by decide));rw[hm] at d;clear h hm;have b:=Blk.new w 47 #[.int .i64 0,.int .i64 0,.int .u64 0,.slice none 0 0];have i:=η b;have j:=b.cell 0;have l:=b.cell 1;have m:=b.cell 2;have q:=b.cell 3;have r:=b.free 0;have s:=b.free 1;have u:=b.free 2;have x:=b.free 3;clear b;go_enter Tryz.func199,Tryz.ntmps199;go_wp2_with fail;refine d.o.mono ?_;rintro e w' ⟨rfl,rfl⟩;go_wp2_with fail
 ((try simp only[Exit.inBlock,Exit.then]);refine bodyPost_ret (v:= .tuple #[.agg #[_,_,_,_],_]) (by rw[results_cell_tmp rfl];go_simp;exact⟨⟨rfl,rfl,rfl,rfl⟩,rfl⟩) rfl ?_)
 exact⟨none,0,rfl,Grid.empty _,(DkS.refl H.o).ext (q0B _ _)⟩
theorem z6u{σ:DM}(h:Dk w g F σ){f:FM}(r:q0F FM.nm mapN σ.L=some f)(q:σ.down=false):
  Calls Tryz.prog 199 #[.pointer (some ⟨g,0,none⟩)] w (y3d w g F (q2Z σ) (q3T f.da)):=by
 have u: ∀i,F i->i<w.heap.size:=by obtain⟨_,_,_,_,_,_,h⟩:=h;exact h
 have E:f.da.length<=1048576:=by
  have h1:f.da.length<=q0P σ.L:=q8O (q0J r).1;have h2:=h.1.used;have h3:=h.1.cap1;omega
 obtain⟨S,B⟩: ∃S,f.da=S:=⟨_,rfl⟩
 have x:q1m σ mapN=((S.length:Int),0):=by unfold q1m;rw[κ (by rw[q];decide),r,<-B]
 have y:q1r σ mapN 0 (S.length:Int)=(S,0,q2Z σ):=by
  unfold q1r;rw[κ (by rw[q];decide),r];simp only;rw[B,ξ (by omega)];simp
 rw[B] at E⊢;have O:=η (q6p (h.ext (q0B w (.cells #[.int .i64 0,.int .i64 0,.int .u64 0,.slice none 0 0] 47))) mapN (by decide));rw[x] at O;have N:=η (z3y (h.ext (q0B w (.cells #[.int .i64 0,.int .i64 0,.int .u64 0,.slice none 0 0] 47))) mapN 0 (S.length:Int) (by decide) (by decide) (by decide) (by omega) (by omega));rw[y] at N;have M:=η u;clear h r q x y B u;have d:=Blk.new w 47 #[.int .i64 0,.int .i64 0,.int .u64 0,.slice none 0 0];have J:=η d;have Q:=d.cell 0;have R:=d.cell 1;have U:=d.cell 2;have V:=d.cell 3;have W:=d.free 0;have X:=d.free 1;have Y:=d.free 2;have Z:=d.free 3;clear d;go_enter Tryz.func199,Tryz.ntmps199;go_wp2_with fail;refine O.o.mono ?_;rintro e w' ⟨rfl,rfl⟩;go_wp2_with fail;refine N.o.mono ?_;rintro e w1 ⟨rfl,D⟩;have HD:=η D;have s:=η (J.o.same (D.off.block _ J.o.lt fun r=>by have:=M.o _ r;omega));have j:Hd (w.heap.size<w1.heap.size):=η s.o.lt;clear D Q R U V W X Y Z;go_wp2_with fail;refine(y2P S w1 (by omega)).mono ?_;rintro e w2 ⟨v,vs,rfl,m,I⟩;obtain⟨a,c,rfl⟩:=m.own.slice;have C:=η m;have HX:=η I;have b:=s.o.ext I;have Q:=b.cell 0;have R:=b.cell 1;have U:=b.cell 2;have V:=b.cell 3;have W:=b.free 0;have X:=b.free 1;have Y:=b.free 2;have Z:=b.free 3;clear m I b;generalize q3T S=G at*;go_wp2_with fail
 ((try simp only[Exit.inBlock,Exit.then]);refine bodyPost_ret (v:= .tuple #[.agg #[_,_,_,_],_]) (by rw[results_cell_tmp rfl];go_simp;exact⟨⟨rfl,rfl,rfl,rfl⟩,rfl⟩) rfl ?_)
 obtain⟨a2,c2,e2,hg⟩:=((((C.o.setBelow j.o 0 (.int .i64 G.nx)).setBelow j.o 1 (.int .i64 G.ck)).setBelow j.o 2 (.int .u64 G.sd)).setBelow j.o 3 (.slice a G.L.length c)).grid
 cases e2;refine⟨a,c,rfl,hg,DkS.box (q0B w (.cells #[.int .i64 0,.int .i64 0,.int .u64 0,.slice none 0 0] 47)) (HD.o.ext HX.o) M.o (by simp[World.setCell]) rfl rfl rfl fun i hi hn=>?_⟩;have l:i≠w.heap.size:=fun e=>hn (by rw[ρ];omega)
 rw[q0K _ _ l,q0K _ _ l,q0K _ _ l,q0K _ _ l]
def z2d(σ:DM):Int:=if σ.down then 61 else 0
theorem z5H :z2X≠mapN:=by decide
variable {σ :DM}{o:Option (List UInt8)}
end
section
open Go.RowKit
theorem y2e{σ:DM}(h:Dk w g F σ):Calls Tryz.prog 203 #[.pointer (some ⟨g,0,none⟩)] w fun e w'=>e= .returned (.int .i64 (z2d σ))/\w=w':=by
 have d:=η (q6p h [] (by decide));have hc: ∃z c,q1m σ []=(z,c)/\((c=61/\z2d σ=61)\/(c=4/\z2d σ=0)\/(c=0/\z2d σ=0)):=by
  unfold q1m z2d
  split
  ·exact⟨_,_,rfl,.inl ⟨rfl,rfl⟩⟩
  ·split
   ·exact⟨_,_,rfl,.inr (.inl ⟨rfl,rfl⟩)⟩
   ·exact⟨_,_,rfl,.inr (.inr ⟨rfl,rfl⟩)⟩
 obtain⟨z,c,i,hc⟩:=hc;rw[i] at d;clear h i;rcases hc with⟨rfl,b⟩|⟨rfl,b⟩|⟨rfl,b⟩<;>rw[b]<;>clear b
 all_goals
  go_enter Tryz.func203,Tryz.ntmps203;go_wp2_with fail;refine d.o.mono ?_;rintro e w' ⟨rfl,rfl⟩;go_wp2_with fail;go_ret;exact⟨rfl,rfl⟩
end
end Go.Proofs.YtfiibpgoplcgkaaGreatDoor
