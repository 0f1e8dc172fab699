/- Walks. -/
import Derived.Test.YtfiibpgoplcgkaaGreatDoorG27SA
import Derived.Test.YtfiibpgoplcgkaaGreatDoorG20SA
set_option linter.unusedVariables false
set_option linter.unusedSimpArgs false
set_option maxRecDepth 100000
set_option maxHeartbeats 6400000
namespace Go.Proofs.YtfiibpgoplcgkaaGreatDoor
variable {w:World}{B:Nat}{tO tI:TypeId}{v:Value}{vs:List Value}{L:List (List Int)}
open Go.RowKit
theorem q4w{w':World}(h:OGr w B tO tI v vs L)(k: ∀i,(v.ownBlock=some i\/ ∃q,(vs.getD q (.slice none 0 0)).ownBlock=some i)->w'.heap[i]? =w.heap[i]?):OGr w' B tO tI v vs L:=
 ⟨h.own.same fun i b=>k i (.inl b),fun q=>(h.row q).same fun i b=>k i (.inr ⟨q,b⟩),h.sep⟩
theorem y0E{t:TypeId}{g:Nat}{cs:Array Value}(h:OGr w B tO tI v vs L)(j:Blk w g t cs)(l:tO≠t)(m:tI≠t): ∀i,(v.ownBlock=some i\/ ∃q,(vs.getD q (.slice none 0 0)).ownBlock=some i)->i≠g:=by
 rintro i (d|⟨q,d⟩)
 ·obtain⟨b,hc⟩:=h.own.etype d
  exact Blk.ne (cs:=b) hc j l
 ·obtain⟨b,hc⟩:=(h.row q).etype d
  exact Blk.ne (cs:=b) hc j m
theorem z1N(h:OGr w B tO tI v vs L): ∀i,(v.ownBlock=some i\/ ∃q,(vs.getD q (.slice none 0 0)).ownBlock=some i)->B<=i/\i<w.heap.size:=by
 rintro i (b|⟨q,b⟩)
 ·exact h.own.lt i b
 ·exact(h.row q).lt i b
theorem q9y{B':Nat}(h:OGr w B tO tI v vs L)(k:B'<=B):OGr w B' tO tI v vs L:=
 ⟨h.own.base k,fun i=>(h.row i).base k,h.sep⟩
theorem z3Q(nx ck sd:Int)(ao:Option Addr)(n cap:Nat)(L:List (List Int))(w:World)(hx:Grid w ao n cap L)(hs: ∀i,(L.getD i []).length<=1000000000)(hn:n<=1000000000):
  Calls Tryz.prog 111 #[.agg #[.int .i64 nx,.int .i64 ck,.int .u64 sd,.slice ao n cap]] w fun e w'=>
   ∃v vs,e= .returned (.agg #[.int .i64 nx,.int .i64 ck,.int .u64 sd,v])/\OGr w' w.heap.size 37 3 v vs L/\Ext w w':=by
 have b1:=hx.fits;have b2:=hx.bound;have N:=η hx.len;have h0:=(q0B w (.cells #[.int .i64 nx,.int .i64 ck,.int .u64 sd,.slice ao n cap] 47)).alloc (.cells #[.int .i64 0,.int .i64 0,.int .u64 0,.slice none 0 0] 47);have a0:=(Blk.new w 47 #[.int .i64 nx,.int .i64 ck,.int .u64 sd,.slice ao n cap]).ext (q0B _ (.cells #[.int .i64 0,.int .i64 0,.int .u64 0,.slice none 0 0] 47));have C:=Blk.new (w.alloc (.cells #[.int .i64 nx,.int .i64 ck,.int .u64 sd,.slice ao n cap] 47)) 47 #[.int .i64 0,.int .i64 0,.int .u64 0,.slice none 0 0];rw[ρ] at C;have Z:=η h0;have X:=η a0;have G:=η C;have Hx:=η hx;have Q:((w.alloc (.cells #[.int .i64 nx,.int .i64 ck,.int .u64 sd,.slice ao n cap] 47)).alloc (.cells #[.int .i64 0,.int .i64 0,.int .u64 0,.slice none 0 0] 47)).heap.size=w.heap.size+2:=by simp[ρ]
 clear hx h0 a0 C;go_enter Tryz.func111,Tryz.ntmps111;go_wp2_with fail;obtain⟨U,S⟩: ∃U,(w.alloc (.cells #[.int .i64 nx,.int .i64 ck,.int .u64 sd,.slice ao n cap] 47)).alloc (.cells #[.int .i64 0,.int .i64 0,.int .u64 0,.slice none 0 0] 47)=U:=⟨_,rfl⟩
 rw[S] at Q Z X G;simp only[S];have k0:=η Q;clear Q S
 go_loopw [3,9] (fun v i W=> ∃k:Nat,k<=n/\i= .int .i64 k/\(∃vs,OGr W U.heap.size 37 3 v vs (L.take k))/\Ext U W) (fun _ i _=>n-(intOf i).toNat)
 case atStart=>exact⟨0,υ _,rfl,⟨[],by rw[List.take_zero];exact OGr.nil _ _ _ _⟩,Ext.refl _⟩
 case round=>
  obtain⟨k,hk,rfl,⟨vs,J⟩,V⟩:=hrel;have Hb:=η (Z.o.trans V);have x:=η (X.o.ext V);have m:=η (G.o.ext V);have p0:=V.size;have q0:=k0.o;have n0:=η V;clear V;have d:=η J;clear J;by_cases e0:k<n
  ·obtain⟨b,off,ai,ni,ci,rfl,c1,r1⟩:=(Hx.o.ext Hb.o).at e0
   have hd:decide ((k:Int)<(n:Int))=true:=ζ (by omega);have q1:IntKind.i64.wrap ((k:Int)+1)=(k:Int)+1:=by rw[ν];omega
   have o0:k<L.length:=by rw[N.o];exact e0
   have s0:ni<=1000000000:=by have:=r1.len;have:=hs k;omega
   have f0:=q0Z L [] k o0;generalize L.getD k []=R at*;have R1:=η r1;clear r1;have l0:=η f0;clear f0;have c0:(L.take k).length=k:=by simp;omega
   have M:=η c0;clear c0;obtain⟨r,I,rfl⟩: ∃r I,u3= .slice r k I:=by
    obtain⟨a,c,e⟩:=d.o.own.slice;rw[M.o] at e;exact⟨a,c,e⟩
   go_wp2_with (first|(at_builtin;refine q0p rfl (.const (.slice none 0 0)) (.tmp 14) 37 rfl wr.heap.size 3 _ 1 8 Tryz.underlying37 Tryz.infoInt rfl (by decide) _ _ _ rfl (Own.nil _ _ _ _) _ _ _ (R.map (Value.int .i64)) rfl (by rw[List.length_map,R1.o.len];omega) R1.o.nil R1.o.rd (ints_oneCell _ _) (by omega) (by omega) (ι _) ?_;intro v' w1 s hg _;rw[Nat.zero_add,List.nil_append] at s;obtain⟨a1,k1,rfl⟩:=s.slice;have m0:=η s;have D:Hd (Ext wr w1):=η ((Ext.refl wr).grown hg (ι _) (fun q hq=>by cases hq));have E:Hd (OGr (w1.alloc (.cells #[.slice a1 ni k1] 37)) U.heap.size 37 3 (.slice r k I) vs (L.take k)):=η ((d.o.ext D.o).ext ((Ext.refl _).alloc _));have r0:=D.o.size;clear s hg)|(at_builtin;refine q0p rfl (.tmp 13) (.tmp 16) 45 rfl U.heap.size 37 _ 1 24 Tryz.underlying45 Tryz.infoInts rfl (by decide) (.slice r k I) k _ rfl (by have h:=E.o.own;rw[M.o] at h;exact h) _ _ _ [.slice a1 ni k1] rfl rfl (fun h=>by cases h) (Rd.lit _ _ _) (by intro u hu;rw[List.mem_singleton.1 hu];rfl) (by omega) (by omega) (by simp;omega) ?_;intro v2 w2 y b0 _;obtain⟨a2,k2,rfl⟩:=y.slice;have j0:=η y;have Y:=η b0;clear y b0))
   have C:=q1d (n0.o.trans (D.o.alloc _)) E.o.own Y.o (by simp;omega);have G:=η C;clear C;have O:=E.o.push (l:=R) (by decide) ((by have h:=m0.o;rw[<-R1.o.len] at h;exact h.ext ((Ext.refl w1).alloc (.cells #[.slice a1 ni k1] 37))):Own _ wr.heap.size 3 1 (.slice a1 R.length k1) R.length (R.map (Value.int .i64))) p0 (fun j g hj=>(z1N d.o g (.inr ⟨j,hj⟩)).2) (by have h:=j0.o;rw[M.o,R1.o.len];exact h) Y.o;rw[<-l0.o] at O;have i0:=η O;clear O;go_wp2_with fail
   go_roundw
   case rel=>exact⟨k+1,by omega,by go_num,⟨_,i0.o⟩,G.o⟩
   case measure=>simp[intOf];omega
  ·obtain rfl:k=n:=by omega
   have hd:decide ((k:Int)<(k:Int))=false:=ε (by omega);have hL:L.take k=L:=Δ (by rw[N.o];exact ι _);rw[hL] at d;obtain⟨r,I,rfl⟩:=d.o.own.slice;have z0:wr.cell? ⟨w.heap.size,0,none⟩=some (.int .i64 nx):=x.o.cell 0;have z1:wr.cell? ⟨w.heap.size,1,none⟩=some (.int .i64 ck):=x.o.cell 1;have z2:wr.cell? ⟨w.heap.size,2,none⟩=some (.int .u64 sd):=x.o.cell 2;have z3:wr.cell? ⟨w.heap.size,3,none⟩=some (.slice ao k cap):=x.o.cell 3;have y0:wr.cell? ⟨w.heap.size+1,0,none⟩=some (.int .i64 0):=m.o.cell 0;have y1:wr.cell? ⟨w.heap.size+1,1,none⟩=some (.int .i64 0):=m.o.cell 1;have y2:wr.cell? ⟨w.heap.size+1,2,none⟩=some (.int .u64 0):=m.o.cell 2;have y3:wr.cell? ⟨w.heap.size+1,3,none⟩=some (.slice none 0 0):=m.o.cell 3;have f3:wr.frozen? ⟨w.heap.size,3,none⟩=false:=x.o.free 3;have g0:wr.frozen? ⟨w.heap.size+1,0,none⟩=false:=m.o.free 0;have g1:wr.frozen? ⟨w.heap.size+1,1,none⟩=false:=m.o.free 1;have g2:wr.frozen? ⟨w.heap.size+1,2,none⟩=false:=m.o.free 2;have g3:wr.frozen? ⟨w.heap.size+1,3,none⟩=false:=m.o.free 3;have HF:Hd (∀W,OffS (fun i=>i=w.heap.size\/i=w.heap.size+1) wr W->OGr W w.heap.size 37 3 (.slice r L.length I) vs L/\Ext w W):=η fun W hW=>
    ⟨q4w (q9y d.o (show w.heap.size<=U.heap.size by omega)) fun i hi=>hW.block i (z1N d.o i hi).2 fun h=>h.elim (y0E d.o x.o (by decide) (by decide) i hi) (y0E d.o m.o (by decide) (by decide) i hi),hW.ext Hb.o (fun i hi=>by rcases hi with rfl|rfl<;>omega)⟩
   have d0:=N.o;rw[d0] at HF;rw[d0];clear x m d;go_wp2_with fail
   ((try simp only[Exit.inBlock,Exit.then]);refine bodyPost_ret (v:= .agg #[.int .i64 nx,.int .i64 ck,.int .u64 sd,.slice r k I]) (by rw[q1I rfl];go_simp) rfl ?_)
   have hf:=HF.o _ (((((OffS.set (F:=fun i=>i=w.heap.size\/i=w.heap.size+1) wr (.inl rfl) 3 (.slice r k I)).trans (OffS.set _ (.inr rfl) 0 (.int .i64 nx))).trans (OffS.set _ (.inr rfl) 1 (.int .i64 ck))).trans (OffS.set _ (.inr rfl) 2 (.int .u64 sd))).trans (OffS.set _ (.inr rfl) 3 (.slice r k I)));exact⟨_,vs,rfl,hf.1,hf.2⟩
end Go.Proofs.YtfiibpgoplcgkaaGreatDoor
